/- Lemmas. -/
import Derived.Test.YtjgpiclllehgmaaGreatB2
import Derived.Test.YtjgpiclllehgmaaGreatB1
import Derived.Test.YtjgpiclllehgmaaGreatB5
import Derived.Test.YtjgpiclllehgmaaGreatB4
import Derived.Test.YtjgpiclllehgmaaGreatB0
set_option linter.all false
open Array renaming getD_eq_getD_getElem?->aJ,getElem?_eq_getElem->aZ,getElem?_push->bK,getElem?_setIfInBounds_ne->aF,replicate->dK
open Bool renaming false_eq_true->aY,or_false->eC
open Go.Frame renaming enter->dN
open Go.Instr renaming loadAt->eh,sureAddr->cR
open Int renaming le_refl->bS
open List.cons renaming injEq->cC
open List renaming filter->gS,filter_append->fL,getD_eq_getElem?_getD->aA,getElem?_eq_getElem->aD,getElem?_replicate->fh,getElem?_set_ne->cU,getElem_mem->bM,length_append->bA,length_take->bW,lookup->eZ,map->eR,map_append->cY,map_cons->bY,map_nil->ge,map_toArray->fc,mem_cons->bG,mem_singleton->aN,nodup_nil->eD,not_mem_nil->dU,range->aP,take_length->fa
open Nat renaming le_refl->aI,le_trans->cD,not_lt_zero->fi,zero_le->aT
open Option.some renaming injEq->aC
open Prod renaming fst->gC
open Prod.mk renaming injEq->aK
open Go.Result renaming andThen_ok->aH
open Go.Sem renaming run_bind->aR,run_pure->bD
open Go.Proofs.Tryz renaming prog->aB
open Go.World renaming cell?->bX
namespace Go.Proofs.YtjgpiclllehgmaaGreat
namespace Vm
attribute [local irreducible] Dn
open Go Go.Proofs Sp
set_option maxRecDepth 100000
set_option maxHeartbeats 4000000
theorem Zxw (t:Zb) (H:Qe t):SC (λ_=>aB) 27 [Zf t,Zf t] [] λv h=>v= .bool (λ_=>true)/\h=[]:=by
 obtain⟨Z,O⟩:=Zm;have V:=ZyT t.book H.book;have J:=λ(l:List Int) (h:l.length<=1000000)=>c39 l l (by omega);simp only[decide_true]at J;have S:=H.bys;have aa:=H.runs;have ab:=H.waits;have ac:=H.delays;refine Qq Tryz.func27 (body:=Zj Tryz.f27) rfl (by decide+kernel) ?_;unfold Zf Zd at*;simp only[Za O]at*;refine wS ?_;refine ZN (V) (by first|rfl|(simp only[Ze,Zd,Zf,Zp,Za O];rfl)) λr I G=>?_;(try simp only[Ze,Zd,Zf,Zp,Za O]at G);obtain⟨rfl,rfl⟩:=G;refine wS ?_;refine ZG false false [] [2,3,5,6] [] (λ(i:Nat)=>[(5,.bool λ_=>true),(6,.int .i64 λ_=>(i:Int))]) (λ_=>[]) (λi=>i<=t.runs.length) (λi=>t.runs.length-i+0) 0 (aT _) ?_ ?_
 ·refine Ji ?_;exact .bool (by simp)
 intro i U;refine wS ?_;refine⟨λA=>?_,λA=>?_⟩
 ·have A:=iW A;refine wS ?_;refine⟨i+1,by omega,by omega,?_⟩;refine Ji ?_;exact .bool (by simp)
 refine wS ?_;refine ZG false false [] [2,3,5,7] [] (λ(i:Nat)=>[(5,.bool λ_=>true),(7,.int .i64 λ_=>(i:Int))]) (λ_=>[]) (λi=>i<=t.waits.length) (λi=>t.waits.length-i+0) 0 (aT _) ?_ ?_
 ·exact ZB
 intro i U;refine wS ?_;refine⟨λA=>?_,λA=>?_⟩
 ·have A:=iW A;refine wS ?_;refine⟨i+1,by omega,by omega,?_⟩;refine Ji ?_;exact .bool (by simp)
 refine wS ?_;refine ZG false false [] [2,3,5,8] [] (λ(i:Nat)=>[(5,.bool λ_=>true),(8,.int .i64 λ_=>(i:Int))]) (λ_=>[]) (λi=>i<=t.delays.length) (λi=>t.delays.length-i+0) 0 (aT _) ?_ ?_
 ·exact ZB
 intro i U;refine wS ?_;refine⟨λA=>?_,λA=>?_⟩
 ·have A:=iW A;have Y:=S _ (Qr (d:=default) O (l:=t.delays) (i:=i) (by omega));simp only[Zp,Za O];generalize hx:Z ZR default t.delays i=x at*;refine vS ?_;try simp only[hx]
  try refine Chk.mk (ZH) ?_
  refine Br.isT (by simp) ?_;refine wS ?_;refine ZN (J x.by_ Y) (by first|rfl|(simp only[Ze,Zd,Zf,Zp,Za O];rfl)) λr I G=>?_;(try simp only[Ze,Zd,Zf,Zp,Za O]at G);obtain⟨rfl,rfl⟩:=G;refine wS ?_;refine⟨i+1,by omega,by omega,?_⟩;refine Ji ?_;exact .bool (by simp)
 (cbv;(try simp only[nc]at*);(try refine Chk.mk (ZH) ?_))
 (try first|exact⟨rfl,trivial⟩|exact⟨trivial,trivial⟩)
set_option maxHeartbeats 1600000
theorem ZyN (z:Zone) (A:z.chs.length<=1000000):SC (λ_=>aB) 129 [Ze z] [] λv h=>v=Ze z/\h=[]:=by
 obtain⟨G,O⟩:=Zm;refine SC.less (ZkO false false [] Tryz.func129 (body:=Zj Tryz.f129) rfl (by decide+kernel) ?_);unfold Ze;simp only[Za O,Jx O];refine wS ?_;refine⟨_,_,?_,rfl,rfl⟩;refine Ji ?_;refine .isl (by simp) λi H=>?_;show(if((i:Nat):Int)<(([]:List Chg).length:Int)then _ else _)=_;rw[iN (by simp)];simp
theorem c69 (l:List Train) (Y:l.length<=1000000) (J:∀t∈l,t.stops.length<=1000000):SC (λ_=>aB) 130 [lst 3 encTrain default l] [] λv h=>v=lst 3 encTrain default l/\h=[]:=by
 obtain⟨H,O⟩:=Zm;refine SC.less (ZkO false false [] Tryz.func130 (body:=Zj Tryz.f130) rfl (by decide+kernel) ?_);simp only[Za O];refine wS ?_;refine ZG false false [] [0,3,4] [.tok 3 λ_=>0] (λ(i:Nat)=>[(3,.isl 3 (λ_=>((l.take i).length:Int)) (λe=>encTrain (H Train default (l.take i) (e ()))) (.own 0)),(4,.int .i64 λ_=>(i:Int))])
  (λi=>[(0,.tok 3 λ_=>((l.take i).length:Int))]) (λi=>i<=l.length) (λi=>l.length-i+0) 0 (aT _) ?_ ?_
 ·(refine To.of [(3,false)] ?_;cbv;(try simp only[nc]);(repeat' first|exact xT|refine⟨?_,?_⟩|refine ZK.cells ?_|refine Zz.agg ?_|refine Zz.tup ?_);all_goals try exact XU)
 intro i hi;refine wS ?_;refine⟨λA=>?_,λA=>?_⟩
 ·simp only[iU]at A;have S:=J _ (Qr (d:=default) O (l:=l) (i:=i) (by omega));have G:=X9 (d:=default) O (l:=l) (i:=i) (by omega);have V:(l.take i).length=i:=by rw[bW];omega
  refine vS ?_;generalize H Train default l (i:Int)=t at*;have U:(t.stops.length:Int)<=1000000:=by omega
  have I:((0:Nat):Int)+(t.stops.length:Int)<=1000000:=by omega
  refine Chk.mk (ZH) ?_;refine⟨i+1,by omega,by omega,?_⟩;rw[G];refine Ji ?_;refine .snocO O rfl rfl (by simp) (.three λw ok v h=>?_);rw[Za O];exact ZsP rfl (by simp) (λj Z=>by rw[Jx O];rfl) h
 obtain rfl:i=l.length:=by simp only[iV]at A;omega
 rw[fa];refine wS ?_;refine⟨_,[],?_,rfl,rfl⟩;exact ZB
theorem c23 (b:Xy) (A:Xk b):SC (λ_=>aB) 77 [Zd b] [] λv h=>v=Zd b/\h=[]:=by
 obtain⟨G,O⟩:=Zm;have S:=c69 b.old A.old A.stops.1;have U:=c69 b.new A.new A.stops.2;have hz:=A.zones;have V:=A.chs;refine SC.less (ZkO false false [] Tryz.func77 (body:=Zj Tryz.f77) rfl (by decide+kernel) ?_);unfold Zd at*;simp only[Za O]at*;refine wS ?_;refine ZG false false [] [1,2,3,4] [.tok 2 λ_=>0] (λ(i:Nat)=>[(4,.int .i64 λ_=>(i:Int))])
  (λi=>[(0,.cells [.isl 2 (λ_=>((b.zones.take i).length:Int)) (λe=>encZone (G Zone default (b.zones.take i) (e ()))) (.own 2),.isl 3 (λ_=>(b.old.length:Int)) (λe=>encTrain (G Train default b.old (e ()))) .none,.isl 3 (λ_=>(b.new.length:Int)) (λe=>encTrain (G Train default b.new (e ()))) .none,.int .i64 λ_=>b.night,.int .i64 λ_=>b.last]),(2,.tok 2 λ_=>((b.zones.take i).length:Int))]) (λi=>i<=b.zones.length) (λi=>b.zones.length-i+0) 0 (aT _) ?_ ?_
 ·(refine To.of [(2,false)] ?_;cbv;(try simp only[nc]);(repeat' first|exact xT|refine⟨?_,?_⟩|refine ZK.cells ?_|refine Zz.agg ?_|refine Zz.tup ?_);all_goals try exact XU)
 intro i Z;refine wS ?_;refine⟨λH=>?_,λH=>?_⟩
 ·simp only[iU]at H;have J:=V _ (Qr (d:=default) O (l:=b.zones) (i:=i) (by omega));have I:=X9 (d:=default) O (l:=b.zones) (i:=i) (by omega);have Y:(b.zones.take i).length=i:=by rw[bW];omega
  refine vS ?_;generalize G Zone default b.zones (i:Int)=z at*;refine Chk.mk (ZH) ?_;refine Zc5 (ZyN z J) ?_;refine wS ?_;refine⟨i+1,by omega,by omega,?_⟩;rw[I];exact ZB
 obtain rfl:i=b.zones.length:=by simp only[iV]at H;omega
 rw[fa];refine wS ?_;refine Zc5 (S) ?_;refine wS ?_;refine Zc5 (U) ?_;refine wS ?_;refine⟨_,[],?_,rfl,rfl⟩;exact ZB
theorem Zyy (l:List Int) (A:l.length<=1000000):SC (λ_=>aB) 78 [lst 1 QO 0 l] [] λv h=>v=lst 1 QO 0 l/\h=[]:=by
 obtain⟨G,O⟩:=Zm;refine SC.less (ZkO false false [] Tryz.func78 (body:=Zj Tryz.f78) rfl (by decide+kernel) ?_);simp only[Za O];refine wS ?_;refine⟨_,_,?_,rfl,rfl⟩;refine Ji ?_;refine .isl (by simp) λi H=>?_;show(if((i:Nat):Int)<(([]:List Int).length:Int)then _ else _)=_;rw[iN (by simp)];simp
set_option maxHeartbeats 4000000
theorem Zmn (st a d:Int):SC (λ_=>aB) 126 [.int .i64 λ_=>st,.int .i64 λ_=>a,.int .i64 λ_=>d] [] λv h=>v= .agg (QK (Zd4 st a d))/\h=[]:=by
 unfold QK Zd4;refine SC.less (Qq Tryz.func126 (body:=Zj Tryz.f126) rfl (by decide+kernel) ?_);refine wS ?_;refine⟨_,[],?_,rfl,rfl⟩;exact ZB
theorem ZvC (a b:Int):SC (λ_=>aB) 64 [.int .i64 λ_=>a,.int .i64 λ_=>b] [] λv h=>v= .agg (encSp ⟨a,b⟩)/\h=[]:=by
 unfold encSp;refine SC.less (Qq Tryz.func64 (body:=Zj Tryz.f64) rfl (by decide+kernel) ?_);refine wS ?_;refine⟨_,[],?_,rfl,rfl⟩;exact ZB
theorem Zxs:SC (λ_=>aB) 70 [] [] λv h=>v=Yt Zky/\h=[]:=by
 obtain⟨A,O⟩:=Zm;unfold Yt;simp only[Za O];refine SC.less (Qq Tryz.func70 (body:=Zj Tryz.f70) rfl (by decide+kernel) ?_);refine wS ?_;refine⟨_,[],?_,rfl,rfl⟩;exact ZB
theorem ZyB:SC (λ_=>aB) 71 [] [] λv h=>v=Yt Zn3/\h=[]:=by
 obtain⟨H,O⟩:=Zm;have k:=Zxs;have U:Zn3.steps=Zky.steps.take 2:=rfl;have e:Yt Zn3= .agg [.int .i64 λ_=>0,.int .i64 λ_=>0,.int .i64 λ_=>3,lst 3 Yr default (Zky.steps.take 2)]:=rfl;rw[e];unfold Yt at k;simp only[Za O]at k|-;have A:Zky.steps.length=3:=rfl;generalize Zky.steps=S at*;refine SC.less (Qq Tryz.func71 (body:=Zj Tryz.f71) rfl (by decide+kernel) ?_);refine wS ?_;refine ZN (k) (by first|rfl|(simp only[Ze,Zd,Zf,Zc,Za O];rfl)) λr J G=>?_;(try simp only[Ze,Zd,Zf,Zc,Za O]at G);obtain⟨rfl,rfl⟩:=G;refine wS ?_;refine⟨_,[],?_,rfl,rfl⟩;refine Ji ?_;refine .isl (by show(2:Int)=((S.take 2).length:Int);rw[bW,A];rfl) λi I=>?_;have I:(i:Int)<2:=I;show Yr (H Sp.Step default S (i:Int))=Yr (H Sp.Step default (S.take 2) (i:Int));rw[O,O,Int.toNat_natCast,aA,aA,List.getElem?_take,iP (by omega)]
theorem Zvu (t:Zb) (hf:ZA t) (H J Y I U S V:Nat->Zh) (stop:Nat->Bool)
  (hs:∀i X,sel true [0,1,2,3,4,5,6] [H i,J i,Y i,I i,U i,S i,V i,X]=[H i,J i,Y i,I i,U i,S i,V i])
  (ah:∀i (f0 f1 f2 f3 f4 f5:Unit->Int),sel true [0,1,2,3,4,5,6,7] [H i,J i,Y i,I i,U i,S i,V i,.cells [.int .i64 f0,.int .i64 f1,.int .i64 f2,.int .i64 f3,.int .i64 f4,.int .i64 f5]]=[H i,J i,Y i,I i,U i,S i,V i,.cells [.int .i64 f0,.int .i64 f1,.int .i64 f2,.int .i64 f3,.int .i64 f4,.int .i64 f5]])
  (am:∀i X,sel false [0,1,2,3,4,5,6] [H i,J i,Y i,I i,U i,S i,V i,X]=[H i,J i,Y i,I i,U i,S i,V i])
  (aq:∀i j X,back [0,1,2,3,4,5,6] [H i,J i,Y i,I i,U i,S i,V i,X] [H j,J j,Y j,I j,U j,S j,V j]=[H j,J j,Y j,I j,U j,S j,V j,X])
  (hy:∀i,i<manyT t->(∀j,j<i->stop j=false)->YC (λ_=>aB) 6 [.agg (Yz (Zi t i))] [H i,J i,Y i,I i,U i,S i,V i] λv h=>v= .bool (λ_=> !stop i)/\h=[H (i+1),J (i+1),Y (i+1),I (i+1),U (i+1),S (i+1),V (i+1)])
  (hB:zOk [H 0,J 0,Y 0,I 0,U 0,S 0,V 0]=true:=by rfl):
  SC (λ_=>aB) 176 [.yld 6,Yy t] [H 0,J 0,Y 0,I 0,U 0,S 0,V 0] λv h=>∃m,EndAt stop (manyT t) m/\h=[H m,J m,Y m,I m,U m,S m,V m]:=by
 obtain⟨nt,O⟩:=Zm;have ae:=Xn hf;have ai:=λn=> @ZdI t hf n;have az:=Zki hf;have bc:=hf.dlen;have au:=ZdH hf;have ac:∀k,k<t.delays.length->lenAt t.delays k<=3:=λk h=>by
  unfold lenAt;rw[aA,aD h];exact(hf.d _ (bM h)).2.1
 have ar:∀k:Nat,(nt Sp.ZR default t.delays (k:Int)).by_.length=lenAt t.delays k:=λk=>by rw[O];rfl
 have aw:∀n k,0<=(Zi t n).getD k 0/\(Zi t n).getD k 0<=3:=λn k=>by
  by_cases h:k<t.delays.length
  ·have h1:=(ae n).d k h;have h2:=ac k h;unfold lenAt at h2;omega
  have:=Jb (ds:=t.delays) t.delays.length n k (by omega);unfold Zi;omega
 generalize manyT t=N at*;generalize Zi t=TA at*;unfold Yy ZZ;simp only[Za O,Zc,Zp];refine Qq Tryz.func176 (body:=Zj Tryz.f176) rfl (by decide+kernel) ?_ hB;refine wS ?_;refine ZG false false [] [0,1,3] [] (λ(i:Nat)=>[]) (λi=>[(0,H i),(1,J i),(2,Y i),(3,I i),(4,U i),(5,S i),(6,V i),(7,.cells (Yz (TA i)))]) (λi=>i<N/\∀j,j<i->stop j=false) (λi=>N-i+0) 0 ⟨by omega,λj h=>by omega⟩ ?_ ?_
 ·unfold Yz;rw[au];have A:=ah 0 (λ_=>0) (λ_=>0) (λ_=>0) (λ_=>0) (λ_=>0) (λ_=>0);cbv at A;simp only[cC,and_true]at A;obtain⟨e0,e1,e2,e3,e4,e5,e6⟩:=A;(refine To.of [] ?_;cbv;(try simp only[nc]);(repeat' first|exact xT|refine⟨?_,?_⟩|refine ZK.cells ?_|refine Zz.agg ?_|refine Zz.tup ?_);all_goals try exact XU);all_goals first|(rw[e0];exact ZK.refl _)|(rw[e1];exact ZK.refl _)|(rw[e2];exact ZK.refl _)|(rw[e3];exact ZK.refl _)|(rw[e4];exact ZK.refl _)|(rw[e5];exact ZK.refl _)|(rw[e6];exact ZK.refl _)
 intro i hh;unfold Yz at*;refine wS ?_;have hi:=hh.1;have ab:=hh.2;have G:=ai i hi;refine YC.frameB [0,1,2,3,4,5,6] (by decide) (by simp) rfl rfl (am i _) (hy i hi ab) (aq i (i+1) _) ?_;refine wS ?_;refine⟨λaa=>?_,λaa=>?_⟩
 ·have aa:stop i=true:=by simpa using aa
  have A:=λX=>hs (i+1) X;refine wS ?_;refine⟨i+1,.inr ⟨i,rfl,hi,aa,ab⟩,?_⟩;have A:=A (.cells [.int .i64 λ_=>(TA i).getD 0 0,.int .i64 λ_=>(TA i).getD 1 0,.int .i64 λ_=>(TA i).getD 2 0,.int .i64 λ_=>(TA i).getD 3 0,.int .i64 λ_=>(TA i).getD 4 0,.int .i64 λ_=>(TA i).getD 5 0]);cbv at A;simp only[cC,and_true]at A|-;exact A
 have aa:stop i=false:=by simpa using aa
 refine wS ?_;refine XD λQ hQ=>?_;refine ZG false false [] [0,1,3,4] [] (λp:Nat×List Int=>[(4,.int .i64 λ_=>(p.1:Int)-1)]) (λp=>[(7,.cells [.int .i64 λ_=>p.2.getD 0 0,.int .i64 λ_=>p.2.getD 1 0,.int .i64 λ_=>p.2.getD 2 0,.int .i64 λ_=>p.2.getD 3 0,.int .i64 λ_=>p.2.getD 4 0,.int .i64 λ_=>p.2.getD 5 0])])
  (λp=>p.1<=t.delays.length/\p.2.length=6/\(∀k,0<=p.2.getD k 0/\p.2.getD k 0<=3)/\Sp.stepT t.delays t.delays.length (TA i)=Sp.stepT t.delays p.1 p.2) (λp=>p.1+0) (t.delays.length,TA i) ⟨aI _,(ae i).len,aw i,rfl⟩ ?_ ?_
 ·exact ZB
 intro p hp;refine vS ?_;have hm:=hp.1;have ao:=hp.2.1;have ak:=hp.2.2.1;have Z:=hp.2.2.2;clear hp;by_cases h0:p.1=0
 ·rw[h0,Sp.stepT]at Z;rw[Z]at G;have a9:¬i+1<N:=λh=>by rw[iP h]at G;cases G
  refine Chk.mk (ZH) ?_;refine Br.isF (by show(bif decide (0<=(p.1:Int)-1)then _ else false)=false;rw[iY (by omega)];rfl) ?_;refine wS ?_;refine hQ _ _ _ ?_;refine wS ?_;refine Br.isT (iZ (by show(p.1:Int)-1<0;omega)) ?_;refine wS ?_;have A:=hs (i+1) (.cells [.int .i64 λ_=>p.2.getD 0 0,.int .i64 λ_=>p.2.getD 1 0,.int .i64 λ_=>p.2.getD 2 0,.int .i64 λ_=>p.2.getD 3 0,.int .i64 λ_=>p.2.getD 4 0,.int .i64 λ_=>p.2.getD 5 0]);cbv at A;simp only[cC,and_true]at A;refine⟨i+1,.inl ⟨by omega,λj hj=>?_⟩,?_⟩
  ·by_cases h:j=i
   ·rw[h];exact aa
   exact ab j (by omega)
  simp only[cC,and_true];exact A
 obtain⟨k,hk⟩:∃k,p.1=k+1:=⟨p.1-1,by omega⟩;have e1:=ZfP (x:=p.2) (e:=(p.1:Int)-1) (i:=k) (by omega) (by omega);have e2:(nt Sp.ZR default t.delays ((p.1:Int)-1)).by_.length=lenAt t.delays k:=by rw[show(p.1:Int)-1=(k:Int) by omega];exact ar k
 have bg:=ac k (by omega);have ba:=ak k;refine Chk.mk (ZH) ?_;refine⟨λh1=>?_,λh1=>?_⟩
 ·have h1:p.2.getD k 0=(lenAt t.delays k:Int)-1:=by
   rw[iZ (by omega),e1,e2]at h1;exact eq_of_beq h1
  rw[hk,Sp.stepT,iP h1]at Z;refine wS ?_;refine⟨(k,p.2.set k 0),⟨by show k<=_;omega,by show(p.2.set k 0).length=6;rw[List.length_set];exact ao,λj=>?_,Z⟩,by show k+0<p.1+0;omega,?_⟩
  ·show 0<=(p.2.set k 0).getD j 0/\(p.2.set k 0).getD j 0<=3;rw[<-Z8 (e:=(k:Int)) rfl (by omega)];have:=ak j;cases decide ((k:Int)=j)
   ·exact this
   exact⟨bS _,by show(0:Int)<=3;decide⟩
  have g0:=Z8 (x:=p.2) (e:=(p.1:Int)-1) (k:=k) (j:=0) (v:=0) (by omega) (by omega);have g1:=Z8 (x:=p.2) (e:=(p.1:Int)-1) (k:=k) (j:=1) (v:=0) (by omega) (by omega);have g2:=Z8 (x:=p.2) (e:=(p.1:Int)-1) (k:=k) (j:=2) (v:=0) (by omega) (by omega);have g3:=Z8 (x:=p.2) (e:=(p.1:Int)-1) (k:=k) (j:=3) (v:=0) (by omega) (by omega);have g4:=Z8 (x:=p.2) (e:=(p.1:Int)-1) (k:=k) (j:=4) (v:=0) (by omega) (by omega);have g5:=Z8 (x:=p.2) (e:=(p.1:Int)-1) (k:=k) (j:=5) (v:=0) (by omega) (by omega);have A:=ah (i+1) (λ_=>bif decide ((p.1:Int)-1=((0:Nat):Int))then 0 else p.2.getD 0 0) (λ_=>bif decide ((p.1:Int)-1=((1:Nat):Int))then 0 else p.2.getD 1 0) (λ_=>bif decide ((p.1:Int)-1=((2:Nat):Int))then 0 else p.2.getD 2 0) (λ_=>bif decide ((p.1:Int)-1=((3:Nat):Int))then 0 else p.2.getD 3 0) (λ_=>bif decide ((p.1:Int)-1=((4:Nat):Int))then 0 else p.2.getD 4 0) (λ_=>bif decide ((p.1:Int)-1=((5:Nat):Int))then 0 else p.2.getD 5 0);cbv at A;simp only[cC,and_true]at A;obtain⟨e3,e4,e5,e6,e7,e8,e9⟩:=A;(refine To.of [] ?_;cbv;(try simp only[nc]);(repeat' first|exact xT|refine⟨?_,?_⟩|refine ZK.cells ?_|refine Zz.agg ?_|refine Zz.tup ?_);all_goals try exact XU);all_goals first|(rw[e3];exact ZK.refl _)|(rw[e4];exact ZK.refl _)|(rw[e5];exact ZK.refl _)|(rw[e6];exact ZK.refl _)|(rw[e7];exact ZK.refl _)|(rw[e8];exact ZK.refl _)|(rw[e9];exact ZK.refl _)
 have h1:p.2.getD k 0≠(lenAt t.delays k:Int)-1:=by
  rw[iZ (by omega),e1,e2]at h1;exact ne_of_beq_false h1
 rw[hk,Sp.stepT,iN h1]at Z;rw[Z]at G;have aj:i+1<N:=by
  by_cases h:i+1<N
  ·exact h
  rw[iN h]at G;cases G
 rw[iP aj]at G;have G:=Option.some.inj G;refine wS ?_;refine hQ _ _ _ ?_;refine wS ?_;refine Br.isF (iY (by show¬(p.1:Int)-1<0;omega)) ?_;refine vS ?_;simp only[e1];refine Chk.mk (ZH) ?_;have A:=ah (i+1) (λ_=>bif decide ((p.1:Int)-1=((0:Nat):Int))then p.2.getD k 0+1 else p.2.getD 0 0) (λ_=>bif decide ((p.1:Int)-1=((1:Nat):Int))then p.2.getD k 0+1 else p.2.getD 1 0) (λ_=>bif decide ((p.1:Int)-1=((2:Nat):Int))then p.2.getD k 0+1 else p.2.getD 2 0) (λ_=>bif decide ((p.1:Int)-1=((3:Nat):Int))then p.2.getD k 0+1 else p.2.getD 3 0) (λ_=>bif decide ((p.1:Int)-1=((4:Nat):Int))then p.2.getD k 0+1 else p.2.getD 4 0) (λ_=>bif decide ((p.1:Int)-1=((5:Nat):Int))then p.2.getD k 0+1 else p.2.getD 5 0);cbv at A;simp only[cC,and_true]at A;obtain⟨e3,e4,e5,e6,e7,e8,e9⟩:=A;refine⟨i+1,⟨aj,λj hj=>?_⟩,by show N-(i+1)+0<N-i+0;omega,?_⟩
 ·by_cases h:j=i
  ·rw[h];exact aa
  exact ab j (by omega)
 rw[<-G];have g0:=Z8 (x:=p.2) (e:=(p.1:Int)-1) (k:=k) (j:=0) (v:=p.2.getD k 0+1) (by omega) (by omega);have g1:=Z8 (x:=p.2) (e:=(p.1:Int)-1) (k:=k) (j:=1) (v:=p.2.getD k 0+1) (by omega) (by omega);have g2:=Z8 (x:=p.2) (e:=(p.1:Int)-1) (k:=k) (j:=2) (v:=p.2.getD k 0+1) (by omega) (by omega);have g3:=Z8 (x:=p.2) (e:=(p.1:Int)-1) (k:=k) (j:=3) (v:=p.2.getD k 0+1) (by omega) (by omega);have g4:=Z8 (x:=p.2) (e:=(p.1:Int)-1) (k:=k) (j:=4) (v:=p.2.getD k 0+1) (by omega) (by omega);have g5:=Z8 (x:=p.2) (e:=(p.1:Int)-1) (k:=k) (j:=5) (v:=p.2.getD k 0+1) (by omega) (by omega);(refine To.of [] ?_;cbv;(try simp only[nc]);(repeat' first|exact xT|refine⟨?_,?_⟩|refine ZK.cells ?_|refine Zz.agg ?_|refine Zz.tup ?_);all_goals try exact XU);all_goals first|(rw[e3];exact ZK.refl _)|(rw[e4];exact ZK.refl _)|(rw[e5];exact ZK.refl _)|(rw[e6];exact ZK.refl _)|(rw[e7];exact ZK.refl _)|(rw[e8];exact ZK.refl _)|(rw[e9];exact ZK.refl _)
theorem Ztk (t:Zb) (hf:ZA t) (G I V H S J U:Nat->Zh) (stop:Nat->Bool)
  (h0:∀i,QP 7 (G i)) (h1:∀i,QP 7 (I i)) (h2:∀i,QP 7 (V i)) (h3:∀i,QP 7 (H i)) (h4:∀i,QP 7 (S i)) (h5:∀i,QP 7 (J i)) (h6:∀i,QP 7 (U i))
  (hy:∀i,i<manyT t->(∀j,j<i->stop j=false)->YC (λ_=>aB) 6 [.agg (Yz (Zi t i))] [G i,I i,V i,H i,S i,J i,U i] λv h=>v= .bool (λ_=> !stop i)/\h=[G (i+1),I (i+1),V (i+1),H (i+1),S (i+1),J (i+1),U (i+1)]):
  SC (λ_=>aB) 176 [.yld 6,Yy t] [G 0,I 0,V 0,H 0,S 0,J 0,U 0] λv h=>∃m,EndAt stop (manyT t) m/\h=[G m,I m,V m,H m,S m,J m,U m]:=by
 have A:∀j,j<7->Qv j [0,1,2,3,4,5,6] 0=some j:=by decide
 have Y:∀j,j<7->Qv j [0,1,2,3,4,5,6,7] 0=some j:=by decide
 have Z:∀j,j<7->Jh [0,1,2,3,4,5,6] 8 j=j:=by decide
 refine Zvu t hf G I V H S J U stop (λi X=>?_) (λi f0 f1 f2 f3 f4 f5=>?_) (λi X=>?_) (λi j X=>?_) hy (Zem λb hb=>?_)
 ·show [ZT true _ _ (G i),ZT true _ _ (I i),ZT true _ _ (V i),ZT true _ _ (H i),ZT true _ _ (S i),ZT true _ _ (J i),ZT true _ _ (U i)]=_;rw[(h0 i).s _ _ _ A,(h1 i).s _ _ _ A,(h2 i).s _ _ _ A,(h3 i).s _ _ _ A,(h4 i).s _ _ _ A,(h5 i).s _ _ _ A,(h6 i).s _ _ _ A]
 ·show [ZT true _ _ (G i),ZT true _ _ (I i),ZT true _ _ (V i),ZT true _ _ (H i),ZT true _ _ (S i),ZT true _ _ (J i),ZT true _ _ (U i),_]=_;rw[(h0 i).s _ _ _ Y,(h1 i).s _ _ _ Y,(h2 i).s _ _ _ Y,(h3 i).s _ _ _ Y,(h4 i).s _ _ _ Y,(h5 i).s _ _ _ Y,(h6 i).s _ _ _ Y];rfl
 ·show [ZT false _ _ (G i),ZT false _ _ (I i),ZT false _ _ (V i),ZT false _ _ (H i),ZT false _ _ (S i),ZT false _ _ (J i),ZT false _ _ (U i)]=_;rw[(h0 i).s _ _ _ A,(h1 i).s _ _ _ A,(h2 i).s _ _ _ A,(h3 i).s _ _ _ A,(h4 i).s _ _ _ A,(h5 i).s _ _ _ A,(h6 i).s _ _ _ A]
 ·show [Xz (Jh [0,1,2,3,4,5,6] 8) (G j),Xz (Jh [0,1,2,3,4,5,6] 8) (I j),Xz (Jh [0,1,2,3,4,5,6] 8) (V j),Xz (Jh [0,1,2,3,4,5,6] 8) (H j),Xz (Jh [0,1,2,3,4,5,6] 8) (S j),Xz (Jh [0,1,2,3,4,5,6] 8) (J j),Xz (Jh [0,1,2,3,4,5,6] 8) (U j),X]=_;rw[(h0 j).r _ Z,(h1 j).r _ Z,(h2 j).r _ Z,(h3 j).r _ Z,(h4 j).r _ Z,(h5 j).r _ Z,(h6 j).r _ Z]
 simp only[bG,dU,or_false]at hb;rcases hb with rfl|rfl|rfl|rfl|rfl|rfl|rfl
 ·exact(h0 0).z
 ·exact(h1 0).z
 ·exact(h2 0).z
 ·exact(h3 0).z
 ·exact(h4 0).z
 ·exact(h5 0).z
 exact(h6 0).z
theorem Zvw (t:Zb) (hf:ZA t) (A H J G I:Nat->Zh) (stop:Nat->Bool)
  (h0:∀i,QP 5 (A i)) (h1:∀i,QP 5 (H i)) (Z:∀i,QP 5 (J i)) (h3:∀i,QP 5 (G i)) (h4:∀i,QP 5 (I i))
  (hy:∀i,i<manyT t->(∀j,j<i->stop j=false)->YC (λ_=>aB) 4 [.agg (Yz (Zi t i)),.imap 2 3 λ_=>Qt t (Zi t i)] [A i,H i,J i,G i,I i] λv h=>v= .bool (λ_=> !stop i)/\h=[A (i+1),H (i+1),J (i+1),G (i+1),I (i+1)]):
  SC (λ_=>aB) 135 [.yld 4,Yy t] [A 0,H 0,J 0,G 0,I 0] λv h=>∃m,EndAt stop (manyT t) m/\h=[A m,H m,J m,G m,I m]:=by
 obtain⟨nt,O⟩:=Zm;have S:∀j,j<5->Qv j [0,1,2,3,4] 0=some j:=by decide
 have p5:∀j,j<5->Qv j [0,1,2,3,4,5] 0=some j:=by decide
 have p6:∀j,j<5->Qv j [0,1,2,3,4,5,6] 0=some j:=by decide
 have f7:∀j,j<5->Jh [0,1,2,3,4] 8 j=j:=by decide
 have ak:∀i X4 X5 X6,sel false [0,1,2,3,4] [A i,H i,J i,G i,I i,X4,X5,X6]=[A i,H i,J i,G i,I i]:=λi X4 X5 X6=>by
  show [ZT false _ _ (A i),ZT false _ _ (H i),ZT false _ _ (J i),ZT false _ _ (G i),ZT false _ _ (I i)]=_;rw[(h0 i).s _ _ _ S,(h1 i).s _ _ _ S,(Z i).s _ _ _ S,(h3 i).s _ _ _ S,(h4 i).s _ _ _ S]
 have ao:∀i j X4 X5 X6,back [0,1,2,3,4] [A i,H i,J i,G i,I i,X4,X5,X6] [A j,H j,J j,G j,I j]=[A j,H j,J j,G j,I j,X4,X5,X6]:=λi j X4 X5 X6=>by
  show [Xz (Jh [0,1,2,3,4] 8) (A j),Xz (Jh [0,1,2,3,4] 8) (H j),Xz (Jh [0,1,2,3,4] 8) (J j),Xz (Jh [0,1,2,3,4] 8) (G j),Xz (Jh [0,1,2,3,4] 8) (I j),X4,X5,X6]=_;rw[(h0 j).r _ f7,(h1 j).r _ f7,(Z j).r _ f7,(h3 j).r _ f7,(h4 j).r _ f7]
 have e5:∀m L,sel true (aP 6) [A m,H m,J m,G m,I m,.cells [.yld 4],L]=[A m,H m,J m,G m,I m,.cells [.yld 4]]:=λm L=>by
  show [ZT true [0,1,2,3,4,5] _ (A m),ZT true [0,1,2,3,4,5] _ (H m),ZT true [0,1,2,3,4,5] _ (J m),ZT true [0,1,2,3,4,5] _ (G m),ZT true [0,1,2,3,4,5] _ (I m),_]=_;rw[(h0 m).s _ _ _ p5,(h1 m).s _ _ _ p5,(Z m).s _ _ _ p5,(h3 m).s _ _ _ p5,(h4 m).s _ _ _ p5];rfl
 have hz:zOk [A 0,H 0,J 0,G 0,I 0]=true:=Zem λb U=>by
  simp only[bG,dU,or_false]at U;rcases U with rfl|rfl|rfl|rfl|rfl
  ·exact(h0 0).z
  ·exact(h1 0).z
  ·exact(Z 0).z
  ·exact(h3 0).z
  exact(h4 0).z
 have am:∀i a s d,zOk [A i,H i,J i,G i,I i,.cells a,.loop s d]=true:=λi a s d=>Zem λb U=>by
  simp only[bG,dU,or_false]at U;rcases U with rfl|rfl|rfl|rfl|rfl|rfl|rfl
  ·exact(h0 i).z
  ·exact(h1 i).z
  ·exact(Z i).z
  ·exact(h3 i).z
  ·exact(h4 i).z
  ·rfl
  rfl
 have aj:=Zxf t;have ac:=λs ps a x g4 g5=>Ztk t hf A H J G I (λ_=>.cells [.yld 4]) (λm=>.loop s ⟨ps,a,x,bif QU stop m then .done else .ready,bif QU stop m then some .ret else none⟩) stop (λi=>(h0 i).mono (by decide)) (λi=>(h1 i).mono (by decide)) (λi=>(Z i).mono (by decide)) (λi=>(h3 i).mono (by decide)) (λi=>(h4 i).mono (by decide)) g4 g5;have ah:=λi=>Zxe t (Zi t i) hf (Xn hf i);generalize Zi t=TA at*;generalize Qt t=HL at*;generalize manyT t=N at*;unfold Yy ZZ Yz at*;simp only[Za O,Zc,Zp]at*;refine Qq Tryz.func135 (body:=Zj Tryz.f135) rfl (by decide+kernel) ?_ hz;refine wS ?_;refine ZN (aj) (by first|rfl|(simp only[Ze,Zd,Zf,Zc,Za O];rfl)) λr ae V=>?_;(try simp only[Ze,Zd,Zf,Zc,Za O]at V);obtain⟨rfl,rfl⟩:=V;refine wS ?_;refine Zqn (fid:=176) (first:=[]) rfl Yk ?_;refine SC.mono (ac _ _ _ _ ?_ ?_ ?_) ?_
 ·exact λi=>⟨λfz ι h V=>by simp only[ZT,QD,eR,V 4 (by decide)],λφ V=>by simp only[Xz,ren,eR,V 4 (by decide)],rfl⟩
 ·exact λi=>⟨λfz ι h V=>by simp only[ZT,QD,eR,V 4 (by decide),V 5 (by decide)],λφ V=>by simp only[Xz,ren,eR,V 4 (by decide),V 5 (by decide)],rfl⟩
 ·intro i hi Y;have aa:QU stop i=false:=by
   cases i with
   |zero=>rfl
   |succ j=>exact Y j (by omega)
  simp only[aa,cond_false];refine YC.less (Zdi false false [] rfl rfl ?_ (am i _ _ _));refine wS ?_;refine ZN (ah i) (by first|rfl|(simp only[Ze,Zd,Zf,Zc,Za O];rfl)) λr ae V=>?_;(try simp only[Ze,Zd,Zf,Zc,Za O]at V);obtain⟨rfl,rfl⟩:=V;refine wS ?_;refine YC.frameB [0,1,2,3,4] (by decide) (by simp) rfl rfl (ak i _ _ _) (hy i hi Y) (ao i (i+1) _ _ _) ?_;refine wS ?_;refine⟨λU=>?_,λU=>?_⟩
  ·have U:stop i=true:=by simpa using U
   have ab:QU stop (i+1)=true:=U;refine wS ?_;simp only[ab,cond_true];refine⟨.bool λ_=> !stop i,_,?_,rfl,rfl⟩;(refine To.of [] ?_;cbv;(try simp only[nc]);(repeat' first|exact xT|refine⟨?_,?_⟩|refine ZK.cells ?_|refine Zz.agg ?_|refine Zz.tup ?_);all_goals try exact XU);all_goals first|exact .bool (by rw[U];rfl)|exact(h0 _).wk p6|exact(h1 _).wk p6|exact(Z _).wk p6|exact(h3 _).wk p6|exact(h4 _).wk p6
  have U:stop i=false:=by simpa using U
  have ab:QU stop (i+1)=false:=U;refine wS ?_;simp only[ab,cond_false];refine⟨.bool λ_=> !stop i,_,?_,rfl,rfl⟩;(refine To.of [] ?_;cbv;(try simp only[nc]);(repeat' first|exact xT|refine⟨?_,?_⟩|refine ZK.cells ?_|refine Zz.agg ?_|refine Zz.tup ?_);all_goals try exact XU);all_goals first|exact .bool (by rw[U];rfl)|exact(h0 _).wk p6|exact(h1 _).wk p6|exact(Z _).wk p6|exact(h3 _).wk p6|exact(h4 _).wk p6
 intro v h hh;obtain⟨m,hm,rfl⟩:=hh;rcases hm with⟨hm,Y⟩|⟨j,hm,hj,aa,Y⟩
 ·have aa:QU stop m=false:=by
   cases m with
   |zero=>rfl
   |succ j=>exact Y j (by omega)
  simp only[aa,cond_false];refine Zh4 rfl rfl rfl (e5 m _) ?_;refine wS ?_;refine⟨m,.inl ⟨hm,Y⟩,?_⟩;show [ZT true [0,1,2,3,4] _ (A m),ZT true [0,1,2,3,4] _ (H m),ZT true [0,1,2,3,4] _ (J m),ZT true [0,1,2,3,4] _ (G m),ZT true [0,1,2,3,4] _ (I m)]=_;rw[(h0 m).s _ _ _ S,(h1 m).s _ _ _ S,(Z m).s _ _ _ S,(h3 m).s _ _ _ S,(h4 m).s _ _ _ S]
 have ai:QU stop m=true:=by rw[hm];exact aa
 simp only[ai,cond_true];refine Zh3 rfl rfl rfl (e5 m _) ?_;refine wS ?_;refine⟨m,.inr ⟨j,hm,hj,aa,Y⟩,?_⟩;show [ZT true [0,1,2,3,4] _ (A m),ZT true [0,1,2,3,4] _ (H m),ZT true [0,1,2,3,4] _ (J m),ZT true [0,1,2,3,4] _ (G m),ZT true [0,1,2,3,4] _ (I m)]=_;rw[(h0 m).s _ _ _ S,(h1 m).s _ _ _ S,(Z m).s _ _ _ S,(h3 m).s _ _ _ S,(h4 m).s _ _ _ S]
theorem ZxQ (M:Nat->Bool) {i:Nat} (hi:i<4):ZjX [λ_=>M 0,λ_=>M 1,λ_=>M 2,λ_=>M 3] (i:Int)=M i:=by
 match i,hi with
 |0,_=>rfl
 |1,_=>rfl
 |2,_=>rfl
 |3,_=>rfl
theorem Zxv (t:Zb) (d:Int) (hf:Qe t):SC (λ_=>aB) 41 [Zf t,.int .i64 λ_=>d] [] λv h=>
  v= .tup [lst 1 QO 0 (X8 t d).1,.int .i64 λ_=>(X8 t d).2]/\h=[]:=by
 obtain⟨nt,O⟩:=Zm;have k:=Ztn t hf;have ct:=hf.delays;have k1:=Zdy d 0 ((t.delays.length:Int)-1);by_cases V:Zn t=0
 ·have hw:=Yx V;have ai:=Ztm t;have k4:=λB0 B1 B2 B3 B4 stop=>Zvw t hw B0 B1 B2 B3 B4 stop;have k5:=λB0 B1 B2 B3 B4 B5 stop=>Ztl t hw B0 B1 B2 B3 B4 B5 stop;obtain⟨F,aw,az⟩:∃F:Nat->List (List Int×List (List Int×List Int)),F 0=[]/\∀i,F (i+1)=if(Zi t i).getD d.toNat 0=0 then JD (F i) (Sp.keyT (Zi t i)) (Qt t (Zi t i))else F i:=⟨ZaT t d.toNat,rfl,λ_=>rfl⟩
  have cr:=hw.dlen;have bh:=λi (h:d.toNat<6)=> @Zu8 (Zi t i) d.toNat (XG _ _) h;have ce:=λi h r=> @ZlD t d.toNat i h r;have bq:=λL W r=> @Ztf L W r;have bl:=λL W S e V hn r=> @Zq6 L W S e V hn r;have ar:=λx=> @Zkv t x;have au:=λx p hp=> @Zkw t hw x p hp;have ck:∀W p,Zl2 W p=(p.2.headD 0 !=((W.lookup p.1).getD []).headD 0||p.2.tail.tail.headD 0 !=((W.lookup p.1).getD []).tail.tail.headD 0):=λ_ _=>rfl;have bk:=λi h0 S hS r=> @Ztg t d.toNat i h0 S hS r;have U:∀i,(Zi t i).length=6:=λi=>XG _ _;obtain⟨H,ak,ao⟩:∃M:Nat->Nat->Bool,(∀r,M 0 r=false)/\∀i r,M (i+1) r=(M i r||Yo t d.toNat i r):=⟨Xp t d.toNat,λ_=>rfl,λ_ _=>rfl⟩;have ba:Zce t d.toNat=((aP 4).filter λr=>H (manyT t) r).map λ(r:Nat)=>(r:Int):=by
   have e:∀n r,H n r=Xp t d.toNat n r:=λn=>by
    induction n with
    |zero=>intro r;rw[ak];rfl
    |succ n ih=>intro r;rw[ao,ih];rfl
   unfold Zce;simp only[e]
  have cg:∀i,d.toNat<t.delays.length->(F (manyT t)).lookup (Sp.keyT ((Zi t i).set d.toNat 0))=some (Qt t ((Zi t i).set d.toNat 0)):=λi hd=>by
   have e:∀n,F n=ZaT t d.toNat n:=λn=>by
    induction n with
    |zero=>exact aw
    |succ n ih=>rw[az,ZaT,ih]
   rw[e];exact Zn5 hw hd
  have hE:X8 t d=if Qw d 0 ((t.delays.length:Int)-1)then([],3)else(Zce t d.toNat,0):=by
   unfold X8;rw[iN (λh=>h V)]
  unfold QY at k;rw[iP V,V]at k;generalize X8 t d=BE at*;generalize cu:cvE=J at*;generalize cq:Zl2=ca at*;generalize Yo t d.toNat=MI at*;generalize Zi t=A at*;generalize Qt t=G at*;unfold Yy ZZ Zf Yz Sp.keyT at*;simp only[Za O,Zc,Zp]at*;refine SC.less (Qq Tryz.func41 (body:=Zj Tryz.f41) rfl (by decide+kernel) ?_);refine wS ?_;refine Zri (k) ?_;refine wS ?_;refine Br.isF rfl ?_;refine wS ?_;refine Zri (k1) ?_;refine wS ?_;refine⟨λh=>?_,λh=>?_⟩
  ·rw[iP h]at hE;subst hE;refine wS ?_;refine⟨_,[],?_,rfl,rfl⟩;exact ZB
  have hb:=QE h;rw[iN (by rw[h];exact Bool.false_ne_true)]at hE;have bm:=λi=> @ZfP (A i) d d.toNat (by omega) (by omega);refine wS ?_;refine Zri (ai) ?_;refine wS ?_;refine Zgo [3,6,8,37] [] [(2,.gob (.mapM 6 2 3 λ_=>F 0))] (fid:=135) (first:=[]) ?_ rfl ?_ ?_
  ·rw[aw];exact ZB
  ·exact Yk
  refine SC.mono (k4 (λ_=>_) (λ_=>_) (λi=>.gob (.mapM 6 2 3 λ_=>F i)) (λ_=>_) (λ_=>_) (λ_=>false) ?_ ?_ ?_ ?_ ?_ ?_) ?_;iterate 5 exact λi=>QP.of rfl
  ·intro i hi bu;have ae:=az i;have ac:=bm i;refine YC.less (Zdi false false [] rfl rfl ?_);refine vS ?_;simp only[ac];refine Chk.mk (ZH) ?_;refine⟨λI=>?_,λI=>?_⟩
   ·have I:=eq_of_beq I;rw[iP I]at ae;refine wS ?_;refine⟨.bool λ_=>true,_,?_,rfl,rfl⟩;rw[ae];exact ZB
   have I:=ne_of_beq_false I;rw[iN I]at ae;refine wS ?_;refine⟨.bool λ_=>true,_,?_,rfl,rfl⟩;rw[ae];exact ZB
  intro v h Z;obtain⟨m,hm,rfl⟩:=Z;have ci:m=manyT t:=by
   rcases hm with h|⟨_,_,_,h,_⟩
   ·exact h.1
   cases h
  have am:=λi=>cg i;rw[<-ci]at am;refine wS ?_;refine Zri (ai) ?_;refine wS ?_;refine Zgo [3,8,11,48] [] [(4,.cells [.bool λ_=>H 0 0,.bool λ_=>H 0 1,.bool λ_=>H 0 2,.bool λ_=>H 0 3])] (fid:=135) (first:=[]) ?_ rfl ?_ ?_
  ·(refine To.of [] ?_;cbv;(try simp only[nc]);(repeat' first|exact xT|refine⟨?_,?_⟩|refine ZK.cells ?_|refine Zz.agg ?_|refine Zz.tup ?_);all_goals try exact XU)
   all_goals exact .bool (by rw[ak])
  ·exact Yk
  refine SC.mono (k5 (λ_=>_) (λ_=>_) (λ_=>_) (λ_=>_) (λi=>.cells [.bool λ_=>H i 0,.bool λ_=>H i 1,.bool λ_=>H i 2,.bool λ_=>H i 3]) (λ_=>_) (λ_=>false) ?_ ?_ ?_ ?_ ?_ ?_ ?_) ?_;iterate 6 exact λi=>QP.of rfl
  ·intro i hi bu;have aq:=ao i;have g0:=Z8 (x:=A i) (e:=d) (k:=d.toNat) (j:=0) (v:=0) (by omega) (by rw[U];omega);have g1:=Z8 (x:=A i) (e:=d) (k:=d.toNat) (j:=1) (v:=0) (by omega) (by rw[U];omega);have g2:=Z8 (x:=A i) (e:=d) (k:=d.toNat) (j:=2) (v:=0) (by omega) (by rw[U];omega);have g3:=Z8 (x:=A i) (e:=d) (k:=d.toNat) (j:=3) (v:=0) (by omega) (by rw[U];omega);have g4:=Z8 (x:=A i) (e:=d) (k:=d.toNat) (j:=4) (v:=0) (by omega) (by rw[U];omega);have g5:=Z8 (x:=A i) (e:=d) (k:=d.toNat) (j:=5) (v:=0) (by omega) (by rw[U];omega);refine YC.less (Zdi false false [] rfl rfl ?_);refine vS ?_;simp only[g0,g1,g2,g3,g4,g5];refine Chk.mk (ZH) ?_;have ac:=bh i (by omega);refine⟨λI=>?_,λI=>?_⟩
   ·have I:(A i).getD d.toNat 0=0:=iW (ac.symm.trans I);have bx:=ce i I;simp only[bx,eC]at aq;refine wS ?_;refine⟨.bool λ_=>true,_,?_,rfl,rfl⟩;(refine To.of [] ?_;cbv;(try simp only[nc]);(repeat' first|exact xT|refine⟨?_,?_⟩|refine ZK.cells ?_|refine Zz.agg ?_|refine Zz.tup ?_);all_goals try exact XU);all_goals exact .bool (by rw[aq])
   have I:(A i).getD d.toNat 0≠0:=iX (ac.symm.trans I);refine wS ?_;refine ZuF false false [] [3,8,11,14,49,50,58] [] (λ_:List (List Int)×List Int×List Int=>[]) (λp=>[(4,.cells [.bool λ_=>H i 0||J (G (A i)) (G ((A i).set d.toNat 0)) p.1 0,.bool λ_=>H i 1||J (G (A i)) (G ((A i).set d.toNat 0)) p.1 1,.bool λ_=>H i 2||J (G (A i)) (G ((A i).set d.toNat 0)) p.1 2,.bool λ_=>H i 3||J (G (A i)) (G ((A i).set d.toNat 0)) p.1 3]),(8,.gob (.mapIt 2 3 (λ_=>G (A i)) (λ_=>p.1) λ_=>p.2))])
    (λ_=>True) (λp=>((G (A i)).filter λq=> !p.1.contains q.1).length+0) ([],[],[]) trivial ?_ ?_
   ·(refine To.of [] ?_;cbv;(try simp only[nc]);(repeat' first|exact xT|refine⟨?_,?_⟩|refine ZK.cells ?_|refine Zz.agg ?_|refine Zz.tup ?_);all_goals try exact XU)
    all_goals exact .bool (by rw[bq,eC])
   intro p _;refine wS ?_;have bt:=ar (A i);have cj:=am i (by omega);refine NC.next rfl (λbo=>?_) λe ab bg=>?_
   ·have hM:∀r,H (i+1) r=(H i r||J (G (A i)) (G ((A i).set d.toNat 0)) p.1 r):=λr=>by rw[aq r,bk i I p.1 bo r]
    refine wS ?_;refine Br.isF rfl ?_;refine wS ?_;refine⟨.bool λ_=>true,_,?_,rfl,rfl⟩;(refine To.of [] ?_;cbv;(try simp only[nc]);(repeat' first|exact xT|refine⟨?_,?_⟩|refine ZK.cells ?_|refine Zz.agg ?_|refine Zz.tup ?_);all_goals try exact XU);all_goals exact .bool (by rw[hM])
   have b9:=au (A i) e ab;have a9:=bl (G (A i)) (G ((A i).set d.toNat 0)) p.1 e ab bt;refine wS ?_;refine Br.isT rfl ?_;refine vS ?_;simp only[g0,g1,g2,g3,g4,g5,cj,Option.getD_some,b9.1];refine Chk.mk (by(try simp only[nc,Xx,Xw,XM,Xv,Cn.p,and_true,true_and,iU,imp_self,List.length_cons,List.length_nil]);(repeat' (first|apply And.intro|intro _))<;>first|omega|assumption|exact nb1 (by assumption)|exact nb2 (by assumption)|exact nb3 (by assumption)|exact nb4 (by assumption)|(simp;done)|rfl|exact Or.inl rfl|decide+kernel|(exfalso;rename_i hx;exact absurd hx (by simp))|skip) ?_;have aj:(bif e.2.headD 0 !=((eZ e.1 (G ((A i).set d.toNat 0))).getD []).headD 0 then true else e.2.tail.tail.headD 0 !=((eZ e.1 (G ((A i).set d.toNat 0))).getD []).tail.tail.headD 0)=ca (G ((A i).set d.toNat 0)) e:=by
    rw[ck];cases (e.2.headD 0 !=((eZ e.1 (G ((A i).set d.toNat 0))).getD []).headD 0)<;>rfl
   refine⟨λY=>?_,λY=>?_⟩
   ·have Z:=aj.symm.trans Y;have aa:∀k:Nat,(bif decide (e.1.headD 0=(k:Int))then true else(H i k||J (G (A i)) (G ((A i).set d.toNat 0)) p.1 k))=(H i k||J (G (A i)) (G ((A i).set d.toNat 0)) (p.1++[e.1]) k):=λk=>by
     rw[a9 k,Z];by_cases h:e.1.headD 0=(k:Int)
     ·rw[iZ h,h];simp
     rw[iY h,show(e.1.headD 0==(k:Int))=false by simpa using h];show(H i k||J (G (A i)) (G ((A i).set d.toNat 0)) p.1 k)=(H i k||(J (G (A i)) (G ((A i).set d.toNat 0)) p.1 k||false));rw[eC]
    refine vS ?_;refine Chk.mk (ZH) ?_;refine⟨(p.1++[e.1],e),trivial,by show(gS _ _).length+0<(gS _ _).length+0;exact ZmL ab bg,?_⟩;(refine To.of [] ?_;cbv;(try simp only[nc]);(repeat' first|exact xT|refine⟨?_,?_⟩|refine ZK.cells ?_|refine Zz.agg ?_|refine Zz.tup ?_);all_goals try exact XU);all_goals exact .bool (aa _)
   have Z:=aj.symm.trans Y;have aa:∀k:Nat,(H i k||J (G (A i)) (G ((A i).set d.toNat 0)) p.1 k)=(H i k||J (G (A i)) (G ((A i).set d.toNat 0)) (p.1++[e.1]) k):=λk=>by
    rw[a9 k,Z,Bool.and_false,eC]
   refine wS ?_;refine⟨(p.1++[e.1],e),trivial,by show(gS _ _).length+0<(gS _ _).length+0;exact ZmL ab bg,?_⟩;(refine To.of [] ?_;cbv;(try simp only[nc]);(repeat' first|exact xT|refine⟨?_,?_⟩|refine ZK.cells ?_|refine Zz.agg ?_|refine Zz.tup ?_);all_goals try exact XU);all_goals exact .bool (aa _)
  intro v h Z;obtain⟨m2,bz,rfl⟩:=Z;have bp:m2=manyT t:=by
   rcases bz with h|⟨_,_,_,h,_⟩
   ·exact h.1
   cases h
  rw[<-bp]at ba;generalize Zce t d.toNat=ML at*;refine wS ?_;refine ZG false false [] [18,84,85] [.tok 1 λ_=>0] (λp:Nat×List Int=>[(85,.int .i64 λ_=>(p.1:Int)),(18,.isl 1 (λ_=>(p.2.length:Int)) (λe=>QO (nt Int 0 p.2 (e ()))) (.own 5))]) (λp=>[(5,.tok 1 λ_=>(p.2.length:Int))])
   (λp=>p.1<=4/\p.2.length<=p.1/\p.2=((aP p.1).filter λr=>H m2 r).map λ(r:Nat)=>(r:Int)) (λp=>4-p.1+0) (0,[]) ⟨aT _,aI _,rfl⟩ ?_ ?_
  ·(refine To.of [(1,false)] ?_;cbv;(try simp only[nc]);(repeat' first|exact xT|refine⟨?_,?_⟩|refine ZK.cells ?_|refine Zz.agg ?_|refine Zz.tup ?_);all_goals try exact XU)
  intro p hp;refine wS ?_;refine⟨λh1=>?_,λh1=>?_⟩
  ·simp only[iU]at h1;have bw:p.1<4:=by omega
   have bc:=hp.2.2;have ah:= @List.range_succ p.1;have cn:=hp.2.1;have cf:=ZxQ (λr=>H m2 r) (i:=p.1) bw;refine vS ?_;simp only[cf];try refine Chk.mk (ZH) ?_
   refine⟨λY=>?_,λY=>?_⟩
   ·refine wS ?_;refine⟨(p.1+1,p.2++[(p.1:Int)]),⟨by show p.1+1<=4;omega,by show(p.2++[(p.1:Int)]).length<=p.1+1;rw[bA];show p.2.length+1<=_;omega,?_⟩,by show 4-(p.1+1)+0<4-p.1+0;omega,?_⟩
    ·show p.2++[(p.1:Int)]=_;rw[ah,fL,cY,<-bc];simp[Y]
    exact ZB
   refine wS ?_;refine⟨(p.1+1,p.2),⟨by show p.1+1<=4;omega,by show p.2.length<=p.1+1;omega,?_⟩,by show 4-(p.1+1)+0<4-p.1+0;omega,?_⟩
   ·show p.2=_;rw[ah,fL,cY,<-bc];simp[Y]
   exact ZB
  simp only[iV]at h1;have h4:p.1=4:=by have:=hp.1;omega
  have hr:p.2=ML:=by rw[hp.2.2,h4,ba]
  subst hE;refine wS ?_;rw[hr];refine⟨_,[],?_,rfl,rfl⟩;exact ZB
 have hE:X8 t d=([],Zn t):=by
  unfold X8;rw[iP V]
 rw[hE];unfold QY at k;rw[iN V]at k;generalize Zn t=e at*;unfold Zf at*;simp only[Za O,Zc,Zp]at*;refine SC.less (Qq Tryz.func41 (body:=Zj Tryz.f41) rfl (by decide+kernel) ?_);refine wS ?_;refine Zri (k) ?_;refine wS ?_;refine⟨λh=>?_,λh=>?_⟩
 ·refine wS ?_;refine⟨_,[],?_,rfl,rfl⟩;exact ZB
 exact absurd (by simpa only[iC]using h) V
end Vm
namespace Vm
open Go Go.Conc Go.Proofs Conc1
def Zjq (A:Array TypeId) (ty:TypeId) (cs:Array Bool) (ch:Nat):Deferred:={target:=.builtin .close A ty cs,args:= #[.chan (some ch)]}
def Za5 (n:Nat) (ds:List Deferred):Frame:={(default:Frame)with fn:=n,defers:=ds,mode:=.panicking [goexitEntry]}
section
variable {P:Program} {ch cell:Nat} {f:FuncId} {fn:Func} {t:Array Value} {todo:List Item}
theorem ZwD (H:P.funcs[f]? =some fn) (hr:fn.results= #[]):QuitsD P 2 0 (G {mkF ⟨f,true,none,[]⟩ t [] todo with mode:=.returning} [Za5 P.funcs.size []]):=by
 refine .inr ⟨rfl,G (Za5 P.funcs.size []) [], #[],by simp,λw=>?_,.inr ⟨rfl,{frame:=Za5 P.funcs.size [],callers:=[],status:=.finished,dying:=none}, #[],by simp,λw=>?_,⟨rfl,rfl⟩⟩⟩
 ·have A:results fn t=pure (.tuple #[]):=by
   unfold results;rw[hr];simp
  have I:(results fn t).run P w= .ok (.tuple #[]) w:=by rw[A];rfl
  have J:(results fn t).events P w #[]= #[]:=by rw[A];rfl
  simp[G,stepG,unwind,doReturn,mkF,FB.kind,H,I,J,GStep.after,Za5,goexitEntry,seen_none]
 have h:(default:Frame).todo=[]:=rfl;simp[G,stepG,unwind,Za5,goexitEntry,Frame.catches,h]
theorem Zrk {H:Array TypeId} {ty:TypeId} {cs:Array Bool} (Y:P.funcs[f]? =some fn) (hr:fn.results= #[]):
  ZjK P (λn=>n=cell\/n=ch) ch {mkF ⟨f,true,none,[]⟩ t [Zjq H ty cs ch] todo with mode:=.returning} [Za5 P.funcs.size []]:=by
 refine⟨rfl,G {mkF ⟨f,true,none,[]⟩ t [] todo with mode:=.returning} [Za5 P.funcs.size []], #[⟨.obj ch,false,true⟩],2,λw I s r Z h=>?_,λe he=>.inr (by simpa using he),ZwD Y hr⟩
 have e:Builtin.close_ H ty #[.chan (some ch)]=(getObj ch>>=λo=>match o with
   |.chan room I J U A S=>(do
    if J then runtimePanic (.plain "close of closed channel")
    setObj ch (.chan room I true U A S)
    pure (.tuple #[]))
   |_=>stuck "close: no channel in this block"):=rfl
 have V:invoke (.builtin .close H ty cs) #[.chan (some ch)]=(Builtin.close_ H ty #[.chan (some ch)]>>=λx=>pure (.value x)):=rfl;have h1:(invoke (.builtin .close H ty cs) #[.chan (some ch)]).run P w= .ok (.value (.tuple #[])) (w.setChan ch 0 I true s r Z):=by
  rw[V,e];simp[getObj,setObj,aR,Sem.run,h,World.setChan]
 have h2:(invoke (.builtin .close H ty cs) #[.chan (some ch)]).events P w #[]= #[⟨.obj ch,false,true⟩,⟨.obj ch,true,true⟩]:=by
  rw[V,e];unfold Sem.events;show(Sem.runT P (Sem.getObj ch _) w #[]).2=_;simp only[Sem.runT,h];show(Sem.runT P (Sem.setObj ch _ _) w _).2=_;simp only[Sem.runT,h];rfl
 have h3:seen P f #[⟨.obj ch,false,true⟩,⟨.obj ch,true,true⟩]= #[⟨.obj ch,false,true⟩,⟨.obj ch,true,true⟩]:=by
  simp[seen]
 simp[G,stepG,unwind,callDeferred,mkF,Zjq,h1,h2,h3,GStep.after]
theorem ZqN {fr:Frame} {cs:List Frame} {w:World} {S J:Frame} {E:RP} {s:Nat} {tm:Bool} (hk:kf P fr cs=some (ch,cell,E)) (aa:Zot P fr cs S J) (hE:ZrD P ch cell E (S,cs)) (U:w.heap[ch]? =some (.chan 0 #[] false s s tm))
  (I:w.cell? ⟨cell,0,none⟩=some (.chan (some ch))) (A:ch≠cell) {Z:Frame} {c1:List Frame} (h0:∀main w,stepG P main (G J []) w= .go (G Z c1) w) {wf:World} (hF:Fz cell wf w) {b:Cf} (Y:StepsC P (some ch) ⟨Z,c1,wf⟩ b)
  {L:List Bool} {s' r':Nat} {tm':Bool} (hb:b.w.heap[ch]? =some (.chan 0 (L.map Value.bool).toArray false s' r' tm')) (ab:ZjK P (λn=>n=cell\/n=ch) ch b.fr b.cs):
  ∃H,Fz cell b.w H/\StepsC P none ⟨fr,cs,w⟩ ⟨(got (E L) false false).1,(got (E L) false false).2,H.setChan ch 0 #[] true s' s' tm'⟩:=by
 obtain⟨H,h1,V,_⟩:=StepsC.child (KF:=kf P) (R:=E) A Y w hF ⟨#[],s,s,tm,(hF.ne ch A).symm.trans U⟩;refine⟨H,V,.one ?_⟩;exact .head (.go hk aa hE U I A) (.head (.cown (Ow.ctl h0)) (Zeg.trans h1 (.head (.close ab ((V.ne ch A).trans hb)) (.refl _))))
theorem Jy {x y:Frame×List Frame} (h:∀w,stepG P true (G x.1 x.2) w= .go (G y.1 y.2) w):Ze9 P ch cell x y:=λw _=>⟨#[],h w,λe A=>by simp at A⟩
variable {b:FB} {ds:List Deferred} {k:List Item} {cs:List Frame}
theorem ZqC:Ze9 P ch cell (mkF b t ds (.code .skip::k),cs) (mkF b t ds k,cs):=Jy λ_=>rfl
theorem Zfs {id:Nat}:Ze9 P ch cell (mkF b t ds (.inBlock id::k),cs) (mkF b t ds k,cs):=Jy λ_=>rfl
theorem JZ {x y:Code}:Ze9 P ch cell (mkF b t ds (.code (.seq x y)::k),cs) (mkF b t ds (.code x:: .code y::k),cs):=Jy λ_=>rfl
theorem Zko {c:Operand} {x y:Code} {v:Bool} (h:QQ t c= .bool v):Ze9 P ch cell (mkF b t ds (.code (.cond c x y)::k),cs) (mkF b t ds (.code (if v then x else y)::k),cs):=
 Jy λ_=>by
  have h:(mkF b t ds (.code (.cond c x y)::k)).eval c= .bool v:=by rw[ZcM];exact h
  simp only[mkF]at h;simp[stepG,stepG.exec,mkF,G,h]
theorem Zh5 {id:Nat} {c:Code}:Ze9 P ch cell (mkF b t ds (.code (.block id c)::k),cs) (mkF b t ds (.code c:: .inBlock id::k),cs):=Jy λ_=>rfl
theorem ZqD {c:Code}:Ze9 P ch cell (mkF b t ds (.code (.loop c)::k),cs) (mkF b t ds (.code c:: .inLoop c::k),cs):=Jy λ_=>rfl
theorem ZgM {c:Code}:Ze9 P ch cell (mkF b t ds (.inLoop c::k),cs) (mkF b t ds (.code c:: .inLoop c::k),cs):=Jy λ_=>rfl
theorem XW {id:Nat} {ops:Array Oper} {l:List Nat} (A:aP ops.size=l):Ze9 P ch cell (mkF b t ds (.code (.region id ops false)::k),cs) (mkF b t ds (.inRegion ops l::k),cs):=Jy λ_=>by subst A;simp[stepG,stepG.exec,mkF,G]
theorem XQ {ops:Array Oper}:Ze9 P ch cell (mkF b t ds (.inRegion ops []::k),cs) (mkF b t ds k,cs):=Jy λ_=>by simp[stepG,stepG.exec,mkF,G]
structure JR (ops:Array Oper) (i:Nat) (d:Option Tmp) (op:Op):Prop where
 ok:∃o,ops[i]? =some o/\o.op=op/\o.dst=d/\o.guard=none
theorem Ze1 {ops:Array Oper} {i:Nat} {rest:List Nat} {o:Oper} {v:Value} {w w':World} {es:Array Event} (A:ops[i]? =some o) (I:o.guard=none) (H:∀c,o.op≠ .defer c) (hr:(execOp (QQ t) o).runT P w #[]=(.ok (.value v) w',es)) (main:Bool):
  stepG P main (G (mkF b t ds (.inRegion ops (i::rest)::k)) cs) w= .go (G (mkF b (Z7 t o.dst v) ds (.inRegion ops rest::k)) cs) w' (seen P b.fn es):=by
 have J:(mkF b t ds (.inRegion ops (i::rest)::k)).finish v=mkF b (Z7 t o.dst v) ds (.inRegion ops rest::k):=by rw[XA,A];rfl
 rw[Zdn A (by simp[Region.wanted,I]) H,<-J];unfold stepG.apply;simp only[if_true,hr,b.not_early,show((mkF b t ds (.inRegion ops (i::rest)::k)).kind==CallKind.early)=false from b.not_early,aY,if_false];simp[GStep.after,G,mkF]
theorem JN {ops:Array Oper} {i:Nat} {rest:List Nat} {d:Option Tmp} {op:Op} {v:Value} (H:JR ops i d op) (I:∀c,op≠ .defer c) (hr:∀o:Oper,o.op=op->execOp (QQ t) o=pure (.value v)):
  Ze9 P ch cell (mkF b t ds (.inRegion ops (i::rest)::k),cs) (mkF b (Z7 t d v) ds (.inRegion ops rest::k),cs):=by
 obtain⟨o,J,A,G,S⟩:=H.ok;refine Jy λw=>?_;have:=Ze1 (P:=P) (b:=b) (ds:=ds) (k:=k) (cs:=cs) (rest:=rest) (w:=w) (w':=w) (v:=v) (es:= #[]) J S (λc=>by rw[A];exact I c) (by rw[hr o A];rfl) true;rw[seen_none,G]at this;exact this
theorem ZqE {ops:Array Oper} {i:Nat} {rest:List Nat} {d:Option Tmp} {T:TypeId} {a:Operand} {dr:ChanDir} {B:TypeId} (H:JR ops i d (.load T a)) (Y:P.underlying T=some (.chan dr B)) (S:QQ t a= .pointer (some ⟨cell,0,none⟩)):
  Ze9 P ch cell (mkF b t ds (.inRegion ops (i::rest)::k),cs) (mkF b (Z7 t d (.chan (some ch))) ds (.inRegion ops rest::k),cs):=by
 obtain⟨o,I,A,G,Z⟩:=H.ok;intro w hw;have hr:(execOp (QQ t) o).runT P w #[]=(.ok (.value (.chan (some ch))) w, #[⟨.cell ⟨cell,0,none⟩,false,false⟩]):=by
  have e:execOp (QQ t) o=(eh T (.pointer (some ⟨cell,0,none⟩))>>=λx=>pure (.value x)):=by
   unfold execOp;simp only[A,S]
  rw[e];have V:∀es,(isAgg T).runT P w es=(.ok false w,es):=λes=>by
   unfold isAgg underlying;show(Sem.bind (Sem.bind program _) _).runT P w es=_;rw[Sem.runT_bind',Sem.runT_bind',show program.runT P w es=(.ok P w,es)from rfl];simp only[Y];rfl
  have U:∀es,(load ⟨cell,0,none⟩).runT P w es=(.ok (.chan (some ch)) w,es.push ⟨.cell ⟨cell,0,none⟩,false,false⟩):=λes=>by
   unfold load;simp only[Sem.runT,hw];rfl
  show(Sem.bind (Sem.bind (isAgg T) _) _).runT P w #[]=_;rw[Sem.runT_bind',Sem.runT_bind',V];simp only[aY,if_false];rw[U];rfl
 have:=Ze1 (P:=P) (b:=b) (ds:=ds) (k:=k) (cs:=cs) (rest:=rest) I Z (λc=>by rw[A];intro h;cases h) hr true;rw[G]at this;exact⟨_,this,λe J=>by simpa using mem_seen J⟩
end
end Vm
namespace Vm
open Go Go.Conc Go.Proofs Conc1
structure ZbU (T I I':TypeId) (fid:FuncId) (o2 o3 o4 o5 o6 o7 o8 o9 o10:Array Oper):Prop where
 s2:aP o2.size=[0,1,2]
 s3:aP o3.size=[0,1]
 s4:aP o4.size=[0,1]
 s5:aP o5.size=[0]
 s6:aP o6.size=[0,1]
 s7:aP o7.size=[0,1]
 s8:aP o8.size=[0]
 s9:aP o9.size=[0,1,2]
 s10:aP o10.size=[0,1,2]
 a20:JR o2 0 (some 37) (.makeChan T (.const (.int .i64 0)))
 a21:JR o2 1 (some 11) (.alloc T)
 a22:JR o2 2 none (.store T (.tmp 11) (.tmp 37))
 a30:JR o3 0 (some 38) (.makeFunc (.func fid) #[] #[.tmp 11,.tmp 4,.tmp 9,.tmp 10])
 a31:JR o3 1 none (.go {callee:=.value (.tmp 38),args:= #[],argTypes:= #[]})
 a40:JR o4 0 (some 12) (.assign (.const (.int .i64 0)))
 a41:JR o4 1 (some 13) (.assign (.const (.int .i64 0)))
 a50:JR o5 0 (some 39) (.load T (.tmp 11))
 a60:JR o6 0 (some 40) (.recv T (.tmp 39) true)
 a61:JR o6 1 (some 41) (.extract (.tmp 40) 1)
 a70:JR o7 0 (some 42) (.extract (.tmp 40) 0)
 a71:JR o7 1 (some 14) (.assign (.tmp 42))
 a80:JR o8 0 (some 43) (.move (.tmp 14))
 a90:JR o9 0 (some 44) (.move (.tmp 12))
 a91:JR o9 1 (some 45) (.binOp .add I (.tmp 44) (.const (.int .i64 1)) I')
 a92:JR o9 2 (some 12) (.assign (.tmp 45))
 a100:JR o10 0 (some 46) (.move (.tmp 13))
 a101:JR o10 1 (some 47) (.binOp .add I (.tmp 46) (.const (.int .i64 1)) I')
 a102:JR o10 2 (some 13) (.assign (.tmp 47))
def ZjD:Value->Value
 |.int .i64 n=>.int .i64 (IntKind.i64.wrap (n+1))
 |v=>v
def st0 (ch:Nat) (t:Array Value):Array Value:=Z7 (Z7 (Z7 t (some 12) (.int .i64 0)) (some 13) (.int .i64 0)) (some 39) (.chan (some ch))
def ZfE (t:Array Value) (v:Bool):Array Value:=Z7 (Z7 (Z7 (Z7 (Z7 t (some 40) (.tuple #[.bool v,.bool true])) (some 41) (.bool true)) (some 42) (.bool v)) (some 14) (.bool v)) (some 43) (.bool v)
def stp (t:Array Value) (v:Bool):Array Value:=match v with
 |true=>Z7 (Z7 (Z7 (ZfE t v) (some 44) (t.getD 12 undef)) (some 45) (ZjD (t.getD 12 undef))) (some 12) (ZjD (t.getD 12 undef))
 |false=>Z7 (Z7 (Z7 (ZfE t v) (some 46) (t.getD 13 undef)) (some 47) (ZjD (t.getD 13 undef))) (some 13) (ZjD (t.getD 13 undef))
def cnt (w:Bool):List Bool->Int->Int
 |[],n=>n
 |v::l,n=>cnt w l (if v=w then IntKind.i64.wrap (n+1)else n)
theorem Qa {t:Array Value} {d:Option Tmp} {v:Value}:(Z7 t d v).size=t.size:=by cases d<;>simp[Z7]
theorem YW {t:Array Value} {d:Nat} {v:Value} (h:d<t.size):(Z7 t (some d) v).getD d undef=v:=by
 simp[Z7,aJ,h]
theorem Q6 {t:Array Value} {d i:Nat} {v:Value} (h:d≠i):(Z7 t (some d) v).getD i undef=t.getD i undef:=by
 simp[Z7,aJ,aF h]
theorem XF {t:Array Value} {d:Nat} {v:Value} (h:d<t.size):QQ (Z7 t (some d) v) (.tmp d)=v:=YW h
theorem Y0 {t:Array Value} {d i:Nat} {v:Value} (h:d≠i):QQ (Z7 t (some d) v) (.tmp i)=QQ t (.tmp i):=Q6 h
structure ZhK (t0 t:Array Value) (ch cell:Nat) (y n:Int):Prop where
 size:t.size=t0.size
 c11:t.getD 11 undef= .pointer (some ⟨cell,0,none⟩)
 c39:t.getD 39 undef= .chan (some ch)
 c12:t.getD 12 undef= .int .i64 y
 c13:t.getD 13 undef= .int .i64 n
theorem ZhK.step {G t:Array Value} {ch cell:Nat} {y n:Int} (h:ZhK G t ch cell y n) (H:47<G.size) (v:Bool):ZhK G (stp t v) ch cell (if v=true then IntKind.i64.wrap (y+1)else y) (if v=false then IntKind.i64.wrap (n+1)else n):=by
 have A:=h.size;cases v
 ·refine⟨?_,?_,?_,?_,?_⟩
  ·simp only[stp,ZfE,Qa];exact A
  ·simp only[stp,ZfE];repeat rw[Q6 (by decide)]
   exact h.c11
  ·simp only[stp,ZfE];repeat rw[Q6 (by decide)]
   exact h.c39
  ·simp only[stp,ZfE];repeat rw[Q6 (by decide)]
   exact h.c12
  simp only[stp];rw[YW (by simp only[ZfE,Qa];omega),h.c13];rfl
 refine⟨?_,?_,?_,?_,?_⟩
 ·simp only[stp,ZfE,Qa];exact A
 ·simp only[stp,ZfE];repeat rw[Q6 (by decide)]
  exact h.c11
 ·simp only[stp,ZfE];repeat rw[Q6 (by decide)]
  exact h.c39
 ·simp only[stp];rw[YW (by simp only[ZfE,Qa];omega),h.c12];rfl
 simp only[stp,ZfE];repeat rw[Q6 (by decide)]
 exact h.c13
theorem ZhK.fold {A:Array Value} {ch cell:Nat} (G:47<A.size):∀(L:List Bool) {t:Array Value} {y n:Int},ZhK A t ch cell y n->ZhK A (L.foldl stp t) ch cell (cnt true L y) (cnt false L n)
 |[],_,_,_,h=>h
 |v::L,_,_,_,h=>by
  have:=ZhK.fold G L (h.step G v);exact this
section
variable {P:Program} {ch cell:Nat} {b:FB} {ds:List Deferred} {k:List Item} {cs:List Frame}
variable {T I I':TypeId} {fid:FuncId} {o2 o3 o4 o5 o6 o7 o8 o9 o10:Array Oper}
theorem Zgk {T:TypeId} {d:TypeDesc} {w:World} {es:Array Event} (h:P.underlying T=some d):(underlying T).runT P w es=(.ok d w,es):=by
 unfold underlying;show(Sem.bind program _).runT P w es=_;rw[Sem.runT_bind',show program.runT P w es=(.ok P w,es)from rfl];simp only[h];rfl
theorem Zep {T:TypeId} {i:TypeInfo} {w:World} {es:Array Event} (h:P.info? T=some i):(typeInfo T).runT P w es=(.ok i w,es):=by
 unfold typeInfo;show(Sem.bind program _).runT P w es=_;rw[Sem.runT_bind',show program.runT P w es=(.ok P w,es)from rfl];simp only[h];rfl
theorem Zgj {T:TypeId} {i:TypeInfo} {v:Value} {w:World} {es:Array Event} (h:P.info? T=some i) (hv:i.zero=some v):(zeroValue T).runT P w es=(.ok v w,es):=by
 unfold zeroValue;show(Sem.bind (typeInfo T) _).runT P w es=_;rw[Sem.runT_bind',Zep h];simp only[hv];rfl
theorem ZeS {t:Array Value} {x:Operand} {v:Value} (h:QQ t x=v):∀o:Oper,o.op= .move x->execOp (QQ t) o=pure (.value v):=λo A=>by
 unfold execOp;simp only[A,h]
theorem JG {t:Array Value} {x:Operand} {v:Value} (h:QQ t x=v):∀o:Oper,o.op= .assign x->execOp (QQ t) o=pure (.value v):=λo A=>by
 unfold execOp;simp only[A,h]
theorem J0 {t:Array Value} {x:Operand} {vs:Array Value} {i:Nat} {v:Value} (h:QQ t x= .tuple vs) (hv:vs[i]? =some v):∀o:Oper,o.op= .extract x i->execOp (QQ t) o=pure (.value v):=λo A=>by
 unfold execOp;simp only[A,h,Instr.extract,hv];rfl
theorem ZkG {t:Array Value} {x:Operand} {n:Int} (h:QQ t x= .int .i64 n):∀o:Oper,o.op= .binOp .add I x (.const (.int .i64 1)) I'->execOp (QQ t) o=pure (.value (ZjD (.int .i64 n))):=λo A=>by
 unfold execOp;simp only[A,h];rfl
def lpB (i6 i7 i8 i9 i10 b0 b1:Nat) (H I G J A:Array Oper):Code:=
 .seq (.region i6 H false) (.seq (.cond (.tmp 41) .skip (.exit b0)) (.block b1 (.seq (.region i7 I false) (.seq (.region i8 G false) (.cond (.tmp 43) (.region i9 J false) (.region i10 A false))))))
def atR (i6 i7 i8 i9 i10 b0 b1:Nat) (H I G J A:Array Oper) (k:List Item) (r:List Nat):List Item:=
 .inRegion H r:: .code (.seq (.cond (.tmp 41) .skip (.exit b0)) (.block b1 (.seq (.region i7 I false) (.seq (.region i8 G false) (.cond (.tmp 43) (.region i9 J false) (.region i10 A false)))))):: .inLoop (lpB i6 i7 i8 i9 i10 b0 b1 H I G J A):: .inBlock b0::k
theorem Zl0 {S J i6 i7 i8 i9 i10 b0 b1:Nat} {A:Code} (H:ZbU T I I' fid o2 o3 o4 o5 o6 o7 o8 o9 o10) {dr:ChanDir} {B:TypeId} (U:P.underlying T=some (.chan dr B)) {t:Array Value} (G:QQ t (.tmp 11)= .pointer (some ⟨cell,0,none⟩)):
  Ze8 P ch cell 15 (mkF b t ds (.inRegion o3 []:: .code (.seq (.region S o4 false) (.seq (.seq (.region J o5 false) (.block b0 (.loop (lpB i6 i7 i8 i9 i10 b0 b1 o6 o7 o8 o9 o10)))) A))::k),cs) (mkF b (st0 ch t) ds (atR i6 i7 i8 i9 i10 b0 b1 o6 o7 o8 o9 o10 (.code A::k) [0,1]),cs):=by
 refine .succ XQ (.succ JZ (.succ (XW H.s4) (.succ (JN H.a40 (λ_ h=>by cases h) (JG rfl)) (.succ (JN H.a41 (λ_ h=>by cases h) (JG rfl)) (.succ XQ ?_)))));refine .succ JZ (.succ JZ (.succ (XW H.s5) (.succ (ZqE H.a50 U ?_) (.succ XQ ?_))))
 ·rw[Y0 (by decide),Y0 (by decide)];exact G
 exact .succ Zh5 (.succ ZqD (.succ JZ (.succ (XW H.s6) (.zero _))))
theorem ZnZ {i6 i7 i8 i9 i10 b0 b1:Nat} (H:ZbU T I I' fid o2 o3 o4 o5 o6 o7 o8 o9 o10) {G t:Array Value} {y n:Int} (S:47<G.size) (h:ZhK G t ch cell y n) (v:Bool):
  Ze8 P ch cell 25 (mkF b (Z7 t (some 40) (.tuple #[.bool v,.bool true])) ds (atR i6 i7 i8 i9 i10 b0 b1 o6 o7 o8 o9 o10 k [1]),cs) (mkF b (stp t v) ds (atR i6 i7 i8 i9 i10 b0 b1 o6 o7 o8 o9 o10 k [0,1]),cs):=by
 have J:=h.size;have A:QQ (Z7 t (some 40) (.tuple #[.bool v,.bool true])) (.tmp 40)= .tuple #[.bool v,.bool true]:=XF (by omega);refine .succ (JN H.a61 (λ_ h=>by cases h) (J0 (v:=.bool true) A rfl)) (.succ XQ (.succ JZ (.succ (Zko (v:=true) (XF (by simp only[Qa];omega))) ?_)));refine .succ ZqC (.succ Zh5 (.succ JZ (.succ (XW H.s7) ?_)));refine .succ (JN H.a70 (λ_ h=>by cases h) (J0 (v:=.bool v) ((Y0 (by decide)).trans A) rfl)) ?_;refine .succ (JN H.a71 (λ_ h=>by cases h) (JG (XF (by simp only[Qa];omega)))) (.succ XQ (.succ JZ (.succ (XW H.s8) ?_)));refine .succ (JN H.a80 (λ_ h=>by cases h) (ZeS (XF (by simp only[Qa];omega)))) (.succ XQ (.succ (Zko (v:=v) (XF (by simp only[Qa];omega))) ?_));cases v
 ·refine .succ (XW H.s10) (.succ (JN H.a100 (λ_ h=>by cases h) (ZeS (v:=t.getD 13 undef) ?_)) ?_)
  ·rw[Y0 (by decide),Y0 (by decide),Y0 (by decide),Y0 (by decide),Y0 (by decide)];rfl
  have e:ZjD (.int .i64 n)=ZjD (t.getD 13 undef):=by rw[h.c13]
  refine .succ (JN H.a101 (λ_ h=>by cases h) (ZkG (n:=n) ((XF (by simp only[Qa];omega)).trans h.c13))) ?_;rw[e];exact .succ (JN H.a102 (λ_ h=>by cases h) (JG (XF (by simp only[Qa];omega)))) (.succ XQ (.succ Zfs (.succ ZgM (.succ JZ (.succ (XW H.s6) (.zero _))))))
 refine .succ (XW H.s9) (.succ (JN H.a90 (λ_ h=>by cases h) (ZeS (v:=t.getD 12 undef) ?_)) ?_)
 ·rw[Y0 (by decide),Y0 (by decide),Y0 (by decide),Y0 (by decide),Y0 (by decide)];rfl
 have e:ZjD (.int .i64 y)=ZjD (t.getD 12 undef):=by rw[h.c12]
 refine .succ (JN H.a91 (λ_ h=>by cases h) (ZkG (n:=y) ((XF (by simp only[Qa];omega)).trans h.c12))) ?_;rw[e];exact .succ (JN H.a92 (λ_ h=>by cases h) (JG (XF (by simp only[Qa];omega)))) (.succ XQ (.succ Zfs (.succ ZgM (.succ JZ (.succ (XW H.s6) (.zero _))))))
def ZqK (i6 i7 i8 i9 i10 b0 b1:Nat) (H I G J A:Array Oper) (b:FB) (ds:List Deferred) (k:List Item) (cs:List Frame) (t:Array Value):RP:=λL=>(mkF b (L.foldl stp t) ds (atR i6 i7 i8 i9 i10 b0 b1 H I G J A k [0,1]),cs)
theorem Zje {t:Array Value} (G:47<t.size) (A:t.getD 11 undef= .pointer (some ⟨cell,0,none⟩)) (L:List Bool):ZhK t (L.foldl stp (st0 ch t)) ch cell (cnt true L 0) (cnt false L 0):=by
 have H:ZhK t (st0 ch t) ch cell 0 0:=by
  refine⟨?_,?_,?_,?_,?_⟩
  ·simp only[st0,Qa]
  ·simp only[st0];rw[Q6 (by decide),Q6 (by decide),Q6 (by decide)];exact A
  ·exact YW (by simp only[Qa];omega)
  ·simp only[st0];rw[Q6 (by decide),Q6 (by decide)];exact YW (by omega)
  simp only[st0];rw[Q6 (by decide)];exact YW (by simp only[Qa];omega)
 exact H.fold G L
theorem Zn1 {Y U i6 i7 i8 i9 i10 b0 b1:Nat} {A:Code} (H:ZbU T I I' fid o2 o3 o4 o5 o6 o7 o8 o9 o10) {dr:ChanDir} {B:TypeId} (hU:P.underlying T=some (.chan dr B)) (hB:∃i,P.info? B=some i/\i.zero=some (.bool false)) {t:Array Value} (hs:47<t.size)
  (S:t.getD 11 undef= .pointer (some ⟨cell,0,none⟩)) (ae:t.getD 37 undef= .chan (some ch)) {fr:Frame} {ab:Frame} (aa:fr=mkF b t ds (.inRegion o3 [1]:: .code (.seq (.region Y o4 false) (.seq (.seq (.region U o5 false) (.block b0 (.loop (lpB i6 i7 i8 i9 i10 b0 b1 o6 o7 o8 o9 o10)))) A))::k))
  (ac:Zot P fr cs (mkF b t ds (.inRegion o3 []:: .code (.seq (.region Y o4 false) (.seq (.seq (.region U o5 false) (.block b0 (.loop (lpB i6 i7 i8 i9 i10 b0 b1 o6 o7 o8 o9 o10)))) A))::k)) ab):
  kf P fr cs=some (ch,cell,ZqK i6 i7 i8 i9 i10 b0 b1 o6 o7 o8 o9 o10 b ds (.code A::k) cs (st0 ch t))/\ZrD P ch cell (ZqK i6 i7 i8 i9 i10 b0 b1 o6 o7 o8 o9 o10 b ds (.code A::k) cs (st0 ch t)) (mkF b t ds (.inRegion o3 []:: .code (.seq (.region Y o4 false) (.seq (.seq (.region U o5 false) (.block b0 (.loop (lpB i6 i7 i8 i9 i10 b0 b1 o6 o7 o8 o9 o10)))) A))::k),cs):=by
 have gd:∀i v,i<t.size->t.getD i undef=v->t[i]? =some v:=λi v h e=>by
  rw[aJ,aZ h]at e;rw[aZ h];exact congrArg some e
 have hL:=Zje (ch:=ch) hs S;subst aa;refine ZwR (gd 37 _ (by omega) ae) (gd 11 _ (by omega) S) ac ⟨15,by decide,Zl0 H hU S⟩ (λL w hw=>⟨#[],?_,λe he=>by simp at he⟩) λL v=>⟨25,by decide,?_⟩
 ·obtain⟨o,V,J,Z,hg⟩:=H.a60.ok;obtain⟨i,hi,hz⟩:=hB;show stepG P true (G (mkF b (L.foldl stp (st0 ch t)) ds (.inRegion o6 [0,1]::_)) cs) w=_;rw[Zdn V (by simp[Region.wanted,hg]) (λc=>by rw[J];intro h;cases h)];have hr:(execOp (QQ (L.foldl stp (st0 ch t))) o).runT P w #[]=(.ok (.comm #[rcase ch (.bool false)] true (.recv true)) w, #[]):=by
   unfold execOp;simp only[J,show QQ (L.foldl stp (st0 ch t)) (.tmp 39)= .chan (some ch)from(hL L).c39];show(Sem.bind (underlying T) _).runT P w #[]=_;rw[Sem.runT_bind',Zgk hU];show(Sem.bind (zeroValue B) _).runT P w #[]=_;rw[Sem.runT_bind',Zgj hi hz];rfl
  unfold stepG.apply;simp only[if_true,hr];have hk:=b.not_early;simp[GStep.after,G,mkF,seen_none,hk];exact⟨rfl,rfl⟩
 have:=ZnZ (P:=P) (b:=b) (ds:=ds) (k:=.code A::k) (cs:=cs) (i6:=i6) (i7:=i7) (i8:=i8) (i9:=i9) (i10:=i10) (b0:=b0) (b1:=b1) H hs (hL L) v;unfold ZqK;rw[List.foldl_append];obtain⟨o,V,J,Z,hg⟩:=H.a60.ok;have e:got (mkF b (L.foldl stp (st0 ch t)) ds (atR i6 i7 i8 i9 i10 b0 b1 o6 o7 o8 o9 o10 (.code A::k) [0,1]),cs) v true=(mkF b (Z7 (L.foldl stp (st0 ch t)) (some 40) (.tuple #[.bool v,.bool true])) ds (atR i6 i7 i8 i9 i10 b0 b1 o6 o7 o8 o9 o10 (.code A::k) [1]),cs):=by
  unfold got atR;rw[XA,V];show(mkF b (Z7 _ o.dst _) ds _,cs)=_;rw[Z]
 rw[e];exact this
end
end Vm
namespace Vm
open Go Go.Conc Go.Proofs Conc1
section
variable {P:Program} {b:FB} {ds:List Deferred} {k:List Item} {cs:List Frame} {t:Array Value}
theorem Zf8 {cx:Option Nat} {ops:Array Oper} {i:Nat} {rest:List Nat} {d:Option Tmp} {op:Op} {v:Value} {nv:Next} {w w':World} (H:JR ops i d op) (J:∀c,op≠ .defer c) (hm:∀o:Oper,o.op=op->Zx P (λ_=>False) (execOp (QQ t) o))
  (hr:∀o:Oper,o.op=op->(execOp (QQ t) o).run P w= .ok nv w') (I:nv= .value v\/(nv= .skip/\v=undef)):
  One P cx (ZL (mkF b t ds (.inRegion ops (i::rest)::k)) cs w) (ZL (mkF b (Z7 t d v) ds (.inRegion ops rest::k)) cs w'):=by
 obtain⟨o,S,A,G,U⟩:=H.ok;rw[<-G];exact ZaY S (by simp[Region.wanted,U]) (λc=>by rw[A];exact J c) (hm o A) (hr o A) I
theorem ZjT {ops:Array Oper} {rest:List Nat} {i d:Nat} {T:TypeId} {dr:ChanDir} {B:TypeId} {w:World} (H:JR ops i (some d) (.makeChan T (.const (.int .i64 0)))) (V:P.underlying T=some (.chan dr B)) (U:∃i,P.info? B=some i):
  One P none (ZL (mkF b t ds (.inRegion ops (i::rest)::k)) cs w) (ZL (mkF b (Z7 t (some d) (.chan (some w.heap.size))) ds (.inRegion ops rest::k)) cs {w with heap:=w.heap.push (.chan 0 #[] false 0 0 false)}):=by
 obtain⟨o,I,A,G,Y⟩:=H.ok;obtain⟨iB,Z⟩:=U;have hr:∀w:World,(execOp (QQ t) o).runT P w #[]=(.ok (.value (.chan (some w.heap.size))) {w with heap:=w.heap.push (.chan 0 #[] false 0 0 false)}, #[]):=λw=>by
  have e:execOp (QQ t) o=(Instr.makeChan T (.int .i64 0)>>=λx=>pure (.value x)):=by
   unfold execOp;simp only[A];rfl
  rw[e];unfold Instr.makeChan;show(Sem.bind (Sem.bind (underlying T) _) _).runT P w #[]=_;rw[Sem.runT_bind',Sem.runT_bind',Zgk V];dsimp only;rw[show∀f:TypeInfo->Sem Value,(typeInfo B>>=f)=Sem.bind (typeInfo B) f from λ_=>rfl,Sem.runT_bind',Zep Z];dsimp only;rw[iN (by simp[IntKind.max];decide)];rfl
 refine StepsC.main ?_;refine .one (.head (.own ⟨Nat,Sem.new (.chan 0 #[] false 0 0 false) Sem.pure,λn=>(mkF b (Z7 t (some d) (.chan (some n))) ds (.inRegion ops rest::k),cs),w.heap.size, #[],λmain w J x es h=>?_,rfl,rfl,λe S=>by simp at S⟩) (.refl _));have h:((.ok w.heap.size {w with heap:=w.heap.push (.chan 0 #[] false 0 0 false)}:Result Nat),(#[]:Array Event))=(.ok x J,es):=h;simp only[aK,Result.ok.injEq]at h;obtain⟨⟨rfl,rfl⟩,rfl⟩:=h;have:=Ze1 (P:=P) (b:=b) (ds:=ds) (k:=k) (cs:=cs) (rest:=rest) I Y (λc=>by rw[A];intro h;cases h) (hr w) main;rw[G]at this;exact this
theorem ZmU {α:Type} {A:Array α} {x y:α} {j:Nat} (h:j≠A.size):(A.push x)[j]? =(A.push y)[j]? :=by
 rw[bK,bK,iN h,iN h]
theorem VR.setCx {R:RC} {a:AV} {v:Value} (c:Option Nat) (h:VR R a v):VR {R with cx:=c} a v:=by
 induction h with
 |pure a v h=>exact .pure a v h
 |undef v=>exact .undef v
 |ptr id A h=>exact .ptr (R:={R with cx:=c}) id A h
 |own s n f id v h Y I H=>exact .own s n f id v h Y I H
 |nn s n f v Y hv=>exact .nn s n f v Y hv
 |aptr id s e A i h H=>exact .aptr (R:={R with cx:=c}) id s e A i h H
 |msl id s lo n c i len ab h ae I hc ah=>exact .msl (R:={R with cx:=_}) id s lo n c i len ab h ae I hc ah
 |gsl id n a l c h I H Z=>exact .gsl id n a l c h I H Z
 |gptr id s n e A a h I H=>exact .gptr id s n e A a h I H
 |nsub id e l a ll c G i h hv H hu Z=>exact .nsub id e l a ll c G i h hv H hu Z
 |nptr id s e k A G i b o l c j h hv H hu hk=>exact .nptr id s e k A G i b o l c j h hv H hu hk
 |lit s cs b o G hs U V h3 J=>exact .lit s cs b o G hs U J h3
 |map id h=>exact .map (R:={R with cx:=c}) id h
 |mit id h h0=>exact .mit (R:={R with cx:=c}) id h h0
 |fn f xs bs G vs S hb U V aa ac=>exact .fn f xs bs G vs S hb aa ac
 |yld id h=>exact .yld (R:={R with cx:=c}) id h
 |agg cs G S h J=>exact .agg cs G S J
 |tup cs G S h J=>exact .tup cs G S J
 |gd g a v h J=>exact .gd g a v J
 |ob g b v U V=>exact .ob g b v U V
structure KC (P:Program) (fid:FuncId) (xs:Nat->List AV) (L:List Bool):Prop where
 run:∀(ch:Nat) (R:RC) (vs:Array Value),HR (λ_ _ _=>True) R [.gob (.chq ch λ_=>[])]->R.cx=some ch->R.n0=1->Yc R (xs ch) vs->∀cs,∃t todo w' s r tm ts ty c,
  StepsC P (some ch) ⟨dN P fid vs .deferred,cs,R.w⟩ ⟨{mkF ⟨fid,true,none,[]⟩ t [Zjq ts ty c ch] todo with mode:=.returning},cs,w'⟩/\w'.heap[ch]? =some (.chan 0 (L.map Value.bool).toArray false s r tm)/\
  (∀b,b<R.w.heap.size->b≠ch->w'.heap[b]? =R.w.heap[b]?)/\R.w.heap.size<=w'.heap.size/\w'.os=R.w.os/\w'.tape=R.w.tape/\w'.output=R.w.output
def wCh (w:World) (v:Value) (T:TypeId) (f:Nat×Nat):World:={w with heap:=(w.heap.push (.chan 0 #[] false 0 0 false)).push (.cells #[v] T f)}
theorem Zln {w:World} {v:Value} {T:TypeId} {f:Nat×Nat} {b:Nat} (h:b<w.heap.size):(wCh w v T f).heap[b]? =w.heap[b]? :=by
 show((w.heap.push _).push _)[b]? =_;rw[bK,iN (by simp;omega),bK,iN (by omega)]
theorem ZoL {w:World} {v:Value} {T:TypeId} {f:Nat×Nat}:(wCh w v T f).heap[w.heap.size]? =some (.chan 0 #[] false 0 0 false):=by
 show((w.heap.push _).push _)[w.heap.size]? =_;rw[bK,iN (by simp),bK,iP rfl]
theorem ZdG {w:World} {v:Value} {T:TypeId} {f:Nat×Nat}:(wCh w v T f).heap[w.heap.size+1]? =some (.cells #[v] T f):=by
 show((w.heap.push _).push _)[w.heap.size+1]? =_;rw[bK,iP (by simp)]
theorem Zb4 {w:World} {v:Value} {T:TypeId} {f:Nat×Nat}:(wCh w v T f).heap.size=w.heap.size+2:=by
 show((w.heap.push _).push _).size=_;simp
theorem Zen {w:World} {v:Value} {T:TypeId} {f:Nat×Nat}:(wCh w v T f).cell? ⟨w.heap.size+1,0,none⟩=some v:=by
 unfold bX;rw[ZdG];rfl
theorem ZkT {w w':World} {b:Nat} (h:w'.heap[b]? =w.heap[b]?) (i:Nat):w'.cell? ⟨b,i,none⟩=w.cell? ⟨b,i,none⟩:=by
 unfold bX;simp only[h]
end
theorem Zre {G:Nat->Nat->Nat->Prop} {R:RC} {h:List Zh} (H:HR G R h) (T:TypeId):∃I:RC,I.w=wCh R.w (.chan (some R.w.heap.size)) T (0,1)/\I.cx=some R.w.heap.size/\I.n0=1/\HR (λ_ _ _=>True) I [.gob (.chq R.w.heap.size λ_=>[])]/\
  (∀k a v,VR R a v->VR I (QD true [] h k a) v)/\VR I (.iptr [.cch R.w.heap.size] 0) (.pointer (some ⟨R.w.heap.size+1,0,none⟩)):=by
 obtain⟨J,ae,a0,V,Y,a3,a4,a5,Z,a7,a8⟩:=H.sel (fz:=true) (ι:=[]) (λ_ _ _=>True) (λ_ _ _ _=>trivial) (λ_ _ _ _ _ _ _ _=>trivial) (λ_ _ _ _=>trivial) (λ_ _ _ _ _ _ _ _ _=>trivial) eD (λi A=>by cases A) (λ_ _ _ _ _ _ _ _ _=>trivial) 0 (aT _) (λ_=>aT _);let n:=R.w.heap.size;let I:RC:={J with w:=wCh R.w (.chan (some n)) T (0,1),cx:=some n,m:=1,n0:=1,α:=λ_=>⟨n,0⟩,ok:=λb _ _=>b<n+2/\b≠n};have hs:I.w.heap.size=n+2:=Zb4;have ab:({J with cx:=some n}:RC).le I:=by
  refine⟨by show J.m<=1;rw[Y];exact aT _,λid A=>?_,λid A=>?_,λid A=>?_,λb o m S=>?_,λb o m S j U=>?_,λb S es ac e=>?_,rfl⟩
  ·have A:id<J.m:=A;rw[Y]at A;exact absurd A (fi _)
  ·have A:id<J.m:=A;rw[Y]at A;exact absurd A (fi _)
  ·have A:id<J.m:=A;rw[Y]at A;exact absurd A (fi _)
  ·have:=((Z.okd b o m).1 S).1;rw[V]at this;exact⟨by show b<R.w.heap.size+2;omega,by show b≠R.w.heap.size;omega⟩
  ·have:=((Z.okd b o m).1 S).1;rw[V]at this;show(wCh R.w _ T (0,1)).cell? _=J.w.cell? _;rw[V];exact ZkT (Zln this) _
  have:=((Z.okd b 0 1).1 S).1;rw[V]at this;show(wCh R.w _ T (0,1)).heap[b]? =_;rw[Zln this,<-V];exact e
 refine⟨I,rfl,rfl,rfl,⟨rfl,λb o m=>?_,λid blk A=>?_,λi j bi bj b aa A U=>?_,λ_ _ _ _ _ _ _ _=>trivial,λ_ _ _ _=>trivial,λ_ _ _ _ _ _ _ _=>trivial,aI 1⟩,λk a v hv=>((a8 k a v hv).setCx (some n)).mono ab,.pure _ _ (.iptr _ _ _ _ (λ_=>.chan (some n)) (λj c U=>?_) (λj c U=>?_) ?_)⟩
 ·rw[hs];refine⟨λS=>⟨S.1,trivial,λid blk A=>?_⟩,λS=>⟨S.1,λe=>?_⟩⟩
  ·cases id with
   |zero=>
    cases A;show¬n=b;exact λe=>S.2 e.symm
   |succ id=>simp at A
  exact S.2.2 0 _ rfl (show n=b from e.symm)
 ·cases id with
  |zero=>
   cases A;exact⟨.chan 0 #[] false 0 0 false,ZoL,rfl,rfl,rfl,0,0,false,rfl⟩
  |succ id=>simp at A
 ·cases i with
  |zero=>
   cases j with
   |zero=>exact absurd rfl aa
   |succ j=>simp at U
  |succ i=>simp at A
 ·cases j with
  |zero=>
   cases U;exact Zen
  |succ j=>simp at U
 ·cases j with
  |zero=>
   cases U;exact .cch n
  |succ j=>simp at U
 exact⟨by show n+1<n+2;omega,by show n+1≠n;omega⟩
section
variable {P:Program} {b:FB} {ds:List Deferred} {k:List Item} {cs:List Frame} {t:Array Value}
variable {T I I':TypeId} {fid:FuncId} {o2 o3 o4 o5 o6 o7 o8 o9 o10:Array Oper}
theorem Zn0 {i2 i3:Nat} {X:Code} (G:ZbU T I I' fid o2 o3 o4 o5 o6 o7 o8 o9 o10) {dr:ChanDir} {B:TypeId} (hU:P.underlying T=some (.chan dr B)) (hT:∃i,P.info? T=some i/\i.size=1/\i.zero=some (.chan none)) (hB:∃i,P.info? B=some i) (aa:t.size=51) (w:World):
  Steps P none (ZL (mkF b t ds (.code (.region i2 o2 false):: .code (.seq (.region i3 o3 false) X)::k)) cs w)
   (ZL (mkF b (Z7 (Z7 (Z7 t (some 37) (.chan (some w.heap.size))) (some 11) (.pointer (some ⟨w.heap.size+1,0,none⟩))) (some 38) (.func (.func fid) #[] #[.pointer (some ⟨w.heap.size+1,0,none⟩),t.getD 4 undef,t.getD 9 undef,t.getD 10 undef])) ds (.inRegion o3 [1]:: .code X::k)) cs (wCh w (.chan (some w.heap.size)) T (0,0))):=by
 obtain⟨iT,Y,hs,hz⟩:=hT;refine .head ZcH ?_;rw[G.s2];refine .head (ZjT G.a20 hU hB) ?_;refine .head (Zf8 (nv:=.value (.pointer (some ⟨w.heap.size+1,0,none⟩))) (w':=wCh w (.chan none) T (0,0)) G.a21 (λ_ h=>by cases h) (λo A=>?_) (λo A=>?_) (.inl rfl)) ?_
 ·unfold execOp;simp only[A];exact Zg (λ_=>ZgF) λ_ _=>Zq
 ·have V:(zeroValue T).run P {w with heap:=w.heap.push (.chan 0 #[] false 0 0 false)}= .ok (.chan none) {w with heap:=w.heap.push (.chan 0 #[] false 0 0 false)}:=by
   have:=Zgj (w:={w with heap:=w.heap.push (.chan 0 #[] false 0 0 false)}) (es:= #[]) Y hz;rw[Sem.runT_eq]at this;exact congrArg gC this
  unfold execOp;simp only[A];simp only[Instr.alloc,aR,V,aH,newVar,newRow,newObj,Value.cells];simp[Sem.run,wCh]
 refine .head (Zf8 (nv:=.skip) (v:=undef) (w':=wCh w (.chan (some w.heap.size)) T (0,0)) G.a22 (λ_ h=>by cases h) (λo A=>?_) (λo A=>?_) (.inr ⟨rfl,rfl⟩)) ?_
 ·unfold execOp;simp only[A];exact Zg (λ_=>ZdV) λ_ _=>Zq
 ·have S:QQ (Z7 (Z7 t (some 37) (.chan (some w.heap.size))) (some 11) (.pointer (some ⟨w.heap.size+1,0,none⟩))) (.tmp 11)= .pointer (some ⟨w.heap.size+1,0,none⟩):=XF (by simp only[Qa];omega);have H:QQ (Z7 (Z7 t (some 37) (.chan (some w.heap.size))) (some 11) (.pointer (some ⟨w.heap.size+1,0,none⟩))) (.tmp 37)= .chan (some w.heap.size):=(Y0 (by decide)).trans (XF (by omega));unfold execOp;simp only[A,S,H];have U:(sizeOf T).run P (wCh w (.chan none) T (0,0))= .ok 1 (wCh w (.chan none) T (0,0)):=by
   have:=Zep (w:=wCh w (.chan none) T (0,0)) (es:= #[]) Y;rw[Sem.runT_eq]at this;have h:=congrArg gC this;unfold sizeOf;have h:(typeInfo T).run P (wCh w (.chan none) T (0,0))= .ok iT (wCh w (.chan none) T (0,0)):=h;rw[aR,h,aH,hs];rfl
  simp only[Instr.storeAt,cR,aR,bD,aH,storeVar,U];rw[iN (by simp[Value.cells])];have hc:(wCh w (.chan none) T (0,0)).cell? (Addr.add ⟨w.heap.size+1,0,none⟩ 0)=some (.chan none):=Zen;have Z:(wCh w (.chan none) T (0,0)).frozen? (Addr.add ⟨w.heap.size+1,0,none⟩ 0)=false:=by
   unfold World.frozen?;rw[show(Addr.add ⟨w.heap.size+1,0,none⟩ 0).block=w.heap.size+1 from rfl,ZdG];simp
  have J:(wCh w (.chan none) T (0,0)).setCell (Addr.add ⟨w.heap.size+1,0,none⟩ 0) (.chan (some w.heap.size))=wCh w (.chan (some w.heap.size)) T (0,0):=by
   unfold World.setCell wCh;simp only[World.mk.injEq,and_true];apply Array.ext_getElem?;intro j;show(((w.heap.push _).push _).modify (w.heap.size+1) _)[j]? =_;rw[Array.getElem?_modify];by_cases hj:w.heap.size+1=j
   ·subst hj;rw[iP rfl,bK,iP (by simp),bK,iP (by simp)];rfl
   rw[iN hj];exact ZmU (by simpa using Ne.symm hj)
  simp[Value.cells,storeCells,store,aR,Sem.run,hc,Z,J]
 refine .head Jk (.head ZiF (.head ZcH ?_));rw[G.s3];refine .head (Zf8 (nv:=.value _) (v:=.func (.func fid) #[] #[.pointer (some ⟨w.heap.size+1,0,none⟩),t.getD 4 undef,t.getD 9 undef,t.getD 10 undef]) (w':=wCh w (.chan (some w.heap.size)) T (0,0)) G.a30 (λ_ h=>by cases h) (λo A=>?_) (λo A=>?_) (.inl rfl)) (.refl _)
 ·unfold execOp;simp only[A];trivial
 have S:(QQ (Z7 (Z7 t (some 37) (.chan (some w.heap.size))) (some 11) (.pointer (some ⟨w.heap.size+1,0,none⟩)))) (.tmp 11)= .pointer (some ⟨w.heap.size+1,0,none⟩):=XF (by simp only[Qa];omega);have H:(QQ (Z7 (Z7 t (some 37) (.chan (some w.heap.size))) (some 11) (.pointer (some ⟨w.heap.size+1,0,none⟩)))) (.tmp 4)=t.getD 4 undef:=(Y0 (by decide)).trans (Y0 (by decide));have e3:(QQ (Z7 (Z7 t (some 37) (.chan (some w.heap.size))) (some 11) (.pointer (some ⟨w.heap.size+1,0,none⟩)))) (.tmp 9)=t.getD 9 undef:=(Y0 (by decide)).trans (Y0 (by decide));have e4:(QQ (Z7 (Z7 t (some 37) (.chan (some w.heap.size))) (some 11) (.pointer (some ⟨w.heap.size+1,0,none⟩)))) (.tmp 10)=t.getD 10 undef:=(Y0 (by decide)).trans (Y0 (by decide));unfold execOp;have e0:∀u:Array Value,Z7 u none undef=u:=λ_=>rfl;simp only[A,Instr.makeFunc,fc,bY,ge,e0,S,H,e3,e4];rfl
theorem Zl1 {fn:Func} {body:Code} (H:P.funcs[fid]? =some fn) (I:fn.body=some body) (A:(fn.name== "runtime.NumGoroutine")=false) (vs:Array Value) (main:Bool) (w:World):
  stepG P main (G (Za5 P.funcs.size [{target:=.fn (.func fid) vs,args:= #[]}]) []) w= .go (G (dN P fid vs .deferred) [Za5 P.funcs.size []]) w:=by
 have hr:(invoke (.fn (.func fid) vs) #[]).run P w= .ok (.enter fid vs) w:=by
  have A:¬fn.name= "runtime.NumGoroutine" :=by simpa using A
  simp[invoke,callFunc,aR,program,Sem.run,H,I,A]
 have J:(invoke (.fn (.func fid) vs) #[]).events P w #[]= #[]:=by
  have A:¬fn.name= "runtime.NumGoroutine" :=by simpa using A
  unfold invoke callFunc Sem.events;simp only;show((Sem.bind program _).runT P w #[]).2=_;rw[Sem.runT_bind',show program.runT P w #[]=(.ok P w, #[])from rfl];simp only[H,I];simp[A]
 simp[G,stepG,unwind,Za5,callDeferred,hr,J,GStep.after,seen_none]
theorem Zs2 {vs:Array Value} {X:Code} (Y:ZbU T I I' fid o2 o3 o4 o5 o6 o7 o8 o9 o10) (J:QQ t (.tmp 38)= .func (.func fid) #[] vs):
  Zot P (mkF b t ds (.inRegion o3 [1]:: .code X::k)) cs (mkF b t ds (.inRegion o3 []:: .code X::k)) (Za5 P.funcs.size [{target:=.fn (.func fid) vs,args:= #[]}]):=by
 obtain⟨o,H,A,S,hg⟩:=Y.a31.ok;intro w;refine⟨#[],?_,λe Z=>by simp at Z⟩;have U:(mkF b t ds (.inRegion o3 [1]:: .code X::k)).finish undef=mkF b t ds (.inRegion o3 []:: .code X::k):=by
  rw[XA,H];show mkF b (Z7 t o.dst undef) ds _=_;rw[S];rfl
 have e:execOp (QQ t) o=pure (.spawn {target:=.fn (.func fid) vs,args:= #[]}):=by
  unfold execOp;simp only[A,resolve,J,Deferred.ofValue];simp
 rw[Zdn H (by simp[Region.wanted,hg]) (λc=>by rw[A];intro h;cases h),e,<-U];unfold stepG.apply;have V:=b.not_early;simp[GStep.after,G,mkF,seen_none,V,Za5]
end
section
variable {P:Program} {T I I':TypeId} {fid:FuncId} {o2 o3 o4 o5 o6 o7 o8 o9 o10:Array Oper}
theorem ZqJ {b:FB} {ds:List Deferred} {k:List Item} {cs:List Frame} {t:Array Value} {w:World} {i6 i7 i8 i9 i10 b0 b1:Nat} (H:ZbU T I I' fid o2 o3 o4 o5 o6 o7 o8 o9 o10) (U:t.size=51):
  Steps P none (ZL (got (mkF b t ds (atR i6 i7 i8 i9 i10 b0 b1 o6 o7 o8 o9 o10 k [0,1]),cs) false false).1 (got (mkF b t ds (atR i6 i7 i8 i9 i10 b0 b1 o6 o7 o8 o9 o10 k [0,1]),cs) false false).2 w)
   (ZL (mkF b (Z7 (Z7 t (some 40) (.tuple #[.bool false,.bool false])) (some 41) (.bool false)) ds k) cs w):=by
 obtain⟨o,A,S,J,V⟩:=H.a60.ok;have e:got (mkF b t ds (atR i6 i7 i8 i9 i10 b0 b1 o6 o7 o8 o9 o10 k [0,1]),cs) false false=(mkF b (Z7 t (some 40) (.tuple #[.bool false,.bool false])) ds (atR i6 i7 i8 i9 i10 b0 b1 o6 o7 o8 o9 o10 k [1]),cs):=by
  unfold got atR;rw[XA,A];show(mkF b (Z7 _ o.dst _) ds _,cs)=_;rw[J]
 rw[e];have G:QQ (Z7 t (some 40) (.tuple #[.bool false,.bool false])) (.tmp 40)= .tuple #[.bool false,.bool false]:=XF (by omega);unfold atR;refine .head (Zf8 (nv:=.value _) (v:=.bool false) (w':=w) H.a61 (λ_ h=>by cases h) (λo A=>?_) (λo A=>?_) (.inl rfl)) ?_
 ·rw[J0 G rfl o A];trivial
 ·rw[J0 (v:=.bool false) G rfl o A];rfl
 refine .head Jk (.head ZiF (.head (ZmH (v:=false) ?_) (.head (ZmG ?_) (.refl _))))
 ·rw[ZcM];exact XF (by simp only[Qa];omega)
 simp[exitTo]
theorem ZwL {R:RC} {t:Array Value} {y n:Int} (I:t.size=51) (G:t.getD 12 undef= .int .i64 y) (H:t.getD 13 undef= .int .i64 n):SL R (mkS 51 [(12,.int .i64 λ_=>y),(13,.int .i64 λ_=>n)]) t:=by
 refine⟨by rw[I];rfl,λi a A=>?_⟩;by_cases e13:i=13
 ·subst e13;have A:some (AV.int .i64 λ_=>n)=some a:=A;cases A;rw[H];exact .pure _ _ (.int _ _)
 by_cases e12:i=12
 ·subst e12;have A:some (AV.int .i64 λ_=>y)=some a:=A;cases A;rw[G];exact .pure _ _ (.int _ _)
 have A:(((List.replicate 51 AV.undef).set 12 (.int .i64 λ_=>y)).set 13 (.int .i64 λ_=>n))[i]? =some a:=A;rw[cU (Ne.symm e13),cU (Ne.symm e12),fh]at A;split at A
 ·cases A;exact .undef _
 cases A
theorem Zs1 {p:Unit->Program} {nb:Nat} {K:Ex->List AV->List Zh->Cd->Prop} {s:List AV} {h:List Zh} {i2 i3 i4 i5 i6 i7 i8 i9 i10 b0 b1:Nat} {aa:Code} (HO:ZbU T I I' fid o2 o3 o4 o5 o6 o7 o8 o9 o10) {dr:ChanDir} {B:TypeId}
  (hU:(p ()).underlying T=some (.chan dr B)) (hT:∃i,(p ()).info? T=some i/\i.size=1/\i.zero=some (.chan none)) (hB:∃i,(p ()).info? B=some i/\i.zero=some (.bool false))
  {fn:Func} {body:Code} (hf:(p ()).funcs[fid]? =some fn) (hb:fn.body=some body) (hn:(fn.name== "runtime.NumGoroutine")=false) (hr:fn.results= #[]) (bh:s.length=51) (au:h[0]? =some .main)
  {x4 x9 am:AV} (h4:QD true [] h 5 (s.getD 4 .undef)=x4) (h9:QD true [] h 5 (s.getD 9 .undef)=x9) (bz:QD true [] h 5 (s.getD 10 .undef)=am) {L:List Bool} (child:KC (p ()) fid (λch=>[.iptr [.cch ch] 0,x4,x9,am]) L)
  (rest:HP false nb p [.code aa] K (mkS 51 [(12,.int .i64 λ_=>cnt true L 0),(13,.int .i64 λ_=>cnt false L 0)]) h):
  HP false nb p [.code (.region i2 o2 false),.code (.seq (.region i3 o3 false) (.seq (.region i4 o4 false) (.seq (.seq (.region i5 o5 false) (.block b0 (.loop (lpB i6 i7 i8 i9 i10 b0 b1 o6 o7 o8 o9 o10)))) aa)))] K s h:=by
 refine⟨λhK S J ce R t A hs b U k cs hd=>?_⟩;have aw:R.cx=none:=A.hr.blk 0 .main au;have az:t.size=51:=hs.1.trans bh;have S1:=Zn0 (P:=p ()) (b:=b.1) (ds:=U) (k:=k) (cs:=cs) (t:=t) (i2:=i2) (i3:=i3) (X:=.seq (.region i4 o4 false) (.seq (.seq (.region i5 o5 false) (.block b0 (.loop (lpB i6 i7 i8 i9 i10 b0 b1 o6 o7 o8 o9 o10)))) aa)) HO hU hT (hB.imp λ_ h=>h.1) az R.w;generalize bw:(#[.pointer (some ⟨R.w.heap.size+1,0,none⟩),t.getD 4 undef,t.getD 9 undef,t.getD 10 undef]:Array Value)=vs at S1;generalize ae:Z7 (Z7 (Z7 t (some 37) (.chan (some R.w.heap.size))) (some 11) (.pointer (some ⟨R.w.heap.size+1,0,none⟩))) (some 38) (.func (.func fid) #[] vs)=Z at S1;have ao:Z.size=51:=by rw[<-ae];simp only[Qa];exact az
 have bx:QQ Z (.tmp 38)= .func (.func fid) #[] vs:=by rw[<-ae];exact XF (by simp only[Qa];omega)
 have aq:Z.getD 11 undef= .pointer (some ⟨R.w.heap.size+1,0,none⟩):=by rw[<-ae];exact(Q6 (by decide)).trans (YW (by simp only[Qa];omega))
 have b9:Z.getD 37 undef= .chan (some R.w.heap.size):=by rw[<-ae];exact(Q6 (by decide)).trans ((Q6 (by decide)).trans (YW (by omega)))
 have bg:=Zs2 (P:=p ()) (b:=b.1) (ds:=U) (k:=k) (cs:=cs) (X:=.seq (.region i4 o4 false) (.seq (.seq (.region i5 o5 false) (.block b0 (.loop (lpB i6 i7 i8 i9 i10 b0 b1 o6 o7 o8 o9 o10)))) aa)) HO bx;obtain⟨cg,hE⟩:=Zn1 (P:=p ()) (ch:=R.w.heap.size) (cell:=R.w.heap.size+1) (b:=b.1) (ds:=U) (k:=k) (cs:=cs) HO hU hB (t:=Z) (by omega) aq b9 rfl bg;obtain⟨aj,r1,r2,r3,r4,r5,r6⟩:=Zre A.hr T;have bm:Yc aj [.iptr [.cch R.w.heap.size] 0,x4,x9,am] vs:=by
  subst bw;refine⟨rfl,λj c G=>?_⟩;match j,G with
  |0,G=>cases G;exact r6
  |1,G=>
   cases G;rw[<-h4];exact r5 5 _ _ (hs.getD 4)
  |2,G=>
   cases G;rw[<-h9];exact r5 5 _ _ (hs.getD 9)
  |3,G=>
   cases G;rw[<-bz];exact r5 5 _ _ (hs.getD 10)
  |j+4,G=>simp at G
 obtain⟨tc,cj,wc,sc,rc,bc,ts,ty,c,g1,g2,g3,g4,g5,g6,g7⟩:=child.run R.w.heap.size aj vs r4 r2 r3 bm [Za5 (p ()).funcs.size []];rw[r1]at g1 g3 g4 g5 g6 g7;have ci:Fz (R.w.heap.size+1) (wCh R.w (.chan (some R.w.heap.size)) T (0,1)) (wCh R.w (.chan (some R.w.heap.size)) T (0,0)):=by
  refine⟨rfl,rfl,rfl,rfl,by rw[Zb4,Zb4],λj G=>?_,_,T,(0,0),ZdG,ZdG⟩;exact ZmU (by simpa using G)
 obtain⟨w',V,S2⟩:=ZqN (P:=p ()) cg bg hE ZoL Zen (by omega) (λmain w=>Zl1 hf hb hn vs main w) ci g1 g2 (Zrk hf hr);have S3:=ZqJ (P:=p ()) (b:=b.1) (ds:=U) (k:=.code aa::k) (cs:=cs) (t:=L.foldl stp (st0 R.w.heap.size Z)) (w:=w'.setChan R.w.heap.size 0 #[] true sc sc bc) (i6:=i6) (i7:=i7) (i8:=i8) (i9:=i9) (i10:=i10) (b0:=b0) (b1:=b1) HO ((Zje (by omega) aq L).size.trans ao);have ak:=Zje (ch:=R.w.heap.size) (cell:=R.w.heap.size+1) (t:=Z) (by omega) aq L;generalize ai:Z7 (Z7 (L.foldl stp (st0 R.w.heap.size Z)) (some 40) (.tuple #[.bool false,.bool false])) (some 41) (.bool false)=tz at S3;have bq:tz.size=51:=by rw[<-ai];simp only[Qa];exact ak.size.trans ao
 have bo:tz.getD 12 undef= .int .i64 (cnt true L 0):=by rw[<-ai];exact(Q6 (by decide)).trans ((Q6 (by decide)).trans ak.c12)
 have bl:tz.getD 13 undef= .int .i64 (cnt false L 0):=by rw[<-ai];exact(Q6 (by decide)).trans ((Q6 (by decide)).trans ak.c13)
 generalize Y:w'.setChan R.w.heap.size 0 #[] true sc sc bc=wz at S2 S3;have H:∀b,b<R.w.heap.size->wz.heap[b]? =R.w.heap[b]? :=λb hb=>by
  rw[<-Y];show(w'.heap.setIfInBounds R.w.heap.size _)[b]? =_;rw[aF (by omega),V.ne b (by omega)];exact(g3 b (by rw[Zb4];omega) (by omega)).trans (Zln hb)
 have ac:R.w.heap.size<=wz.heap.size:=by
  rw[<-Y];show _<=(w'.heap.setIfInBounds R.w.heap.size _).size;rw[Array.size_setIfInBounds,V.size];rw[Zb4]at g4;exact cD (by omega) g4
 have ca:wz.os=R.w.os:=by rw[<-Y];exact V.os.trans g5
 have ar:wz.tape=R.w.tape:=by rw[<-Y];exact V.tape.trans g6
 have bk:wz.output=R.w.output:=by rw[<-Y];exact V.output.trans g7
 let R':RC:={R with w:=wz,ok:=λb o n=>b<wz.heap.size/\Gof S J b o n/\Zdh R h b o n};have a9:∀b o n,R.ok b o n->R'.ok b o n:=λb o n k=>by
  obtain⟨h1,h2,h3⟩:=(A.hr.okd _ _ _).1 k;exact⟨by omega,h2,h3⟩
 have ab:∀b o n,R.ok b o n->∀j,j<n->R'.w.cell? ⟨b,o+j,none⟩=R.w.cell? ⟨b,o+j,none⟩:=λb o n k j G=>ZkT (H b ((A.hr.okd _ _ _).1 k).1) _;have ba:R.le R':=⟨aI _,λ_ _=>rfl,λ_ _=>⟨bS _,λ_=>rfl⟩,λ_ _=>.refl _,a9,ab,λb k es ck e=>(H b ((A.hr.okd _ _ _).1 k).1).trans e,rfl⟩;have hH:HR (Gof S J) R' h:=⟨A.hr.len,λ_ _ _=>Iff.rfl,λid blk ah=>(A.hr.blk id blk ah).mono ba rfl rfl rfl rfl λb hp=>H b (A.hr.phys_lt ah hp),A.hr.dis,A.hr.cl,λb o n hb=>A.hr.fresh b o n (cD ac hb),A.hr.tokG,A.hr.n0m⟩;have hx:Xj R h R' h:=⟨rfl,ca,ar,bk,ac,aI _,λ_ _=>rfl,a9,ab,λb hb _=>H b hb,λid blk b ah hp=>.inr ⟨id,blk,ah,hp,.inl rfl⟩⟩;have bt:Inv S J R' h:=A.step hH hx ba;obtain⟨e,s',h',cf,t',bu,a1,a2,a5,a6,a7,a8⟩:=rest.run hK S J ce R' tz bt (ZwL bq bo bl) b U k cs (hd.ext A.hr hx);refine⟨e,s',h',cf,t',bu,a1,a2,a5,a6,a7,?_⟩;have bp:R'.cx=none:=aw;rw[bp]at a8;rw[aw];exact Arr.of_steps (Steps.trans S1 (Steps.trans S2 S3)) a8
end
end Vm
namespace Vm
open Go Go.Conc Go.Proofs Conc1
def Zrf (ch:Nat) (L:List Bool) (e:Ex) (s:List AV) (h:List Zh) (c:Cd):Prop:=match e with
 |.exit _=>False
 |_=>chk c (∃A,h= .gob (.chq ch λ_=>L)::A)
theorem Zij {ch:Nat} {L:List Bool} {e:Ex} {s:List AV} {h:List Zh} {c:Cd} (H:Zrf ch L e s h c):ZW c/\(∀id,e≠ .exit id)/\∃A,h= .gob (.chq ch λ_=>L)::A:=by
 cases e with
 |exit id=>exact H.elim
 |normal=>exact⟨(Z9 H).1,(λ_ h=>by cases h),(Z9 H).2⟩
 |ret=>exact⟨(Z9 H).1,(λ_ h=>by cases h),(Z9 H).2⟩
theorem ZiL {P:Program} {T:TypeId} {dr:ChanDir} {B:TypeId} {w:World} {a:Addr} {v:Value} (G:P.underlying T=some (.chan dr B)) (hw:w.cell? a=some v):(eh T (.pointer (some a))).run P w= .ok v w:=by
 have A:(isAgg T).run P w= .ok false w:=by
  unfold isAgg;have:=Zgk (w:=w) (es:= #[]) G;rw[Sem.runT_eq]at this;have h:(underlying T).run P w= .ok (.chan dr B) w:=congrArg gC this;rw[aR,h,aH];rfl
 simp only[eh,cR,aR,bD,aH,loadVar,A,aY,if_false];simp[load,Sem.run,hw]
theorem Zrd {p:Unit->Program} {fid:FuncId} {fn:Func} {i0:Nat} {o0:Array Oper} {J:Code} {T:TypeId} {dr:ChanDir} {B:TypeId} {ts:Array TypeId} {L:List Bool} {ys:List AV} (hf:(p ()).funcs[fid]? =some fn) (hb:fn.body=some (.seq (.region i0 o0 false) J)) (bk:aP o0.size=[0,1])
  (a0:JR o0 0 (some 6) (.load T (.tmp 0))) (a1:JR o0 1 none (.defer {callee:=.builtin .close,args:= #[.tmp 6],argTypes:=ts})) (hU:(p ()).underlying T=some (.chan dr B)) (O:6<fn.ntmps)
  (H:∀A,HP false 1 p [.code J] (Zrf A L) ((entry fn.ntmps (.iptr [.cch A] 0::ys)).set 6 (.cch A)) [.gob (.chq A λ_=>[])]):KC (p ()) fid (λA=>.iptr [.cch A] 0::ys) L:=by
 refine⟨λA R Y HH ai aj ha cs=>?_⟩;obtain⟨a9,bq⟩:=ha;have am:dN (p ()) fid Y .deferred=mkF ⟨fid,true,none,[]⟩ (Y++dK (fn.ntmps-Y.size) undef) [] [.code (.seq (.region i0 o0 false) J)]:=by
  simp[dN,mkF,FB.kind,hf,hb]
 have aa:SL R (entry fn.ntmps (.iptr [.cch A] 0::ys)) (Y++dK (fn.ntmps-Y.size) undef):=by
  refine⟨by simp[entry,<-a9];omega,λi a V=>?_⟩;rw[entry,List.getElem?_append]at V;split at V
  ·rename_i bx;have:=bq i a V;rw[aJ]at this|-;rw[Array.getElem?_append_left (by omega)];exact this
  rw[fh]at V;split at V
  ·cases V;exact .undef _
  cases V
 generalize ht:Y++dK (fn.ntmps-Y.size) undef=t at am aa;have ac:∃a:Addr,t.getD 0 undef= .pointer (some a)/\R.w.cell? a=some (.chan (some A)):=by
  have h0:=aa.getD 0;have h0:VR R (.iptr [.cch A] 0) (t.getD 0 undef):=h0;generalize t.getD 0 undef=v at h0;cases h0 with
  |pure _ _ hp=>
   cases hp with
   |iptr _ _ b o us h1 h2 h3=>
    have e:=h1 0 _ rfl;have e2:=h2 0 _ rfl;refine⟨_,rfl,?_⟩;cases hu:us 0 with
    |chan c=>
     rw[hu]at e2 e;cases e2;exact e
    |_=>rw[hu]at e2;cases e2
 obtain⟨a,ac,ah⟩:=ac;have bc:6<t.size:=by
  have:=aa.1;rw[this];simp only[entry,bA,List.length_replicate];omega
 have bw:(⟨fid,true,none,[]⟩:FB).roundOf=none:=rfl;obtain⟨o,Z,bm,ao,hg⟩:=a1.ok;let I:=Z7 t (some 6) (.chan (some A));let D:=Zjq ts o.type #[false] A;have S0:StepsC (p ()) (some A) (ZL (mkF ⟨fid,true,none,[]⟩ t [] [.code (.seq (.region i0 o0 false) J)]) cs R.w) (ZL (mkF ⟨fid,true,none,[]⟩ I [] [.inRegion o0 [1],.code J]) cs R.w):=by
  refine .head ZiF (.head ZcH ?_);rw[bk];refine .one (Zf8 (nv:=.value _) (v:=.chan (some A)) (w':=R.w) a0 (λ_ h=>by cases h) (λo Z=>?_) (λo Z=>?_) (.inl rfl))
  ·unfold execOp;simp only[Z];exact Zg (λ_=>Zfp) λ_ _=>Zq
  have e:QQ t (.tmp 0)= .pointer (some a):=ac;unfold execOp;simp only[Z,e,aR,ZiL hU ah,aH,bD]
 have S1:One (p ()) (some A) (ZL (mkF ⟨fid,true,none,[]⟩ I [] [.inRegion o0 [1],.code J]) cs R.w) (ZL (mkF ⟨fid,true,none,[]⟩ I [D] [.inRegion o0 [],.code J]) cs R.w):=by
  refine Xi λmain w=>?_;have e6:QQ I (.tmp 6)= .chan (some A):=XF bc;have e:execOp (QQ I) o=pure (.defer D):=by
   unfold execOp;simp only[bm,resolve,fc,bY,ge,e6];rfl
  have ar:(mkF ⟨fid,true,none,[]⟩ I [] [.inRegion o0 [1],.code J]).oper?=some o:=by simp[Frame.oper?,mkF,Z]
  have he:(mkF ⟨fid,true,none,[]⟩ I [] [.inRegion o0 [1],.code J]).eval=QQ I:=ZcM _;have h2:stepG (p ()) main (G (mkF ⟨fid,true,none,[]⟩ I [] [.inRegion o0 [1],.code J]) cs) w=stepG.oper (p ()) true (mkF ⟨fid,true,none,[]⟩ I [] [.inRegion o0 [1],.code J]) cs none w:=by
   simp[stepG,stepG.exec,mkF,G,Z,Region.wanted,hg]
  rw[h2];unfold stepG.oper;simp only[ar,he,e];unfold stepG.apply;have hk:(mkF ⟨fid,true,none,[]⟩ I [D] [.inRegion o0 [1],.code J]).finish undef=mkF ⟨fid,true,none,[]⟩ I [D] [.inRegion o0 [],.code J]:=by
   rw[XA,Z];show mkF _ (Z7 I o.dst undef) _ _=_;rw[ao];rfl
  rw[<-hk];simp[GStep.after,G,mkF,seen_none,FB.kind]
 have S2:One (p ()) (some A) (ZL (mkF ⟨fid,true,none,[]⟩ I [D] [.inRegion o0 [],.code J]) cs R.w) (ZL (mkF ⟨fid,true,none,[D]⟩ I [D] ([.code J]++[])) cs R.w):=Jk;have aq:([.gob (.chq A λ_=>[])]:List Zh).length<=R.n0:=by rw[aj];exact aI 1
 have az:SL R ((entry fn.ntmps (.iptr [.cch A] 0::ys)).set 6 (.cch A)) I:=aa.set (.pure _ _ (.cch A)) 6;obtain⟨e,s',h',R',t',ba,⟨c,hk⟩,V,hs,hd,_,hA⟩:=(H A).run (λe s h c hk=>(Zij hk).1) R [.gob (.chq A λ_=>[])] (by rw[aj];exact aI 1) R I (Inv.refl HH aq) az ⟨⟨fid,true,none,[D]⟩,λ_=>rfl⟩ [D] [] cs ⟨[],rfl,eD,λr hr=>by cases hr⟩;obtain⟨hc,ab,h2,rfl⟩:=Zij hk;rw[ai]at hA;have au:∃S,Steps (p ()) (some A) (ZL (mkF ⟨fid,true,none,[D]⟩ I [D] ([.code J]++[])) cs R.w) (ZL {mkF ⟨fid,true,none,[D]⟩ t' ba S with mode:=.returning} cs R'.w):=by
  cases e with
  |exit id=>exact absurd rfl (ab id)
  |normal=>exact⟨[],Steps.trans hA (.one (Zqd rfl))⟩
  |ret=>
   obtain⟨S,hA⟩:=hA;exact⟨.code .ret::S,Steps.trans hA (.one (Zqa rfl))⟩
 obtain⟨S,bh⟩:=au;obtain⟨rs,rfl,bp,bo⟩:=hd;obtain⟨R2,U,bu,ae⟩:=Zdl (P:=p ()) (b:=⟨fid,true,none,[D]⟩) (base:=[D]) (t:=t') (todo:=S) (cs:=cs) rs R' bp V bo;have aw:R'.cx=some A:=V.le.cx.trans ai;rw[aw]at ae;obtain⟨ob,bl,_,hq,_,sN,rN,bt,rfl⟩:=U.hr.blk 0 _ rfl;have bg:(R2.α 0).b=(R.α 0).b:=by
  have:R2.α 0=R.α 0:=U.le.α 0 (by rw[<-HH.len];exact Nat.zero_lt_one);rw[this]
 refine⟨t',S,R2.w,sN,rN,bt,ts,o.type, #[false],?_,?_,λb hb ab=>?_,U.ext.size,U.ext.os,U.ext.tape,U.ext.output⟩
 ·rw[am];exact S0.trans (.head S1 (.head S2 (bh.trans ae)))
 ·rw[<-hq];exact bl
 refine U.ext.frame b hb λid blk ak hp=>?_;cases id with
 |zero=>
  cases ak;have hp:(R.α 0).b=b:=hp;rw[<-bg,hq]at hp;exact ab hp.symm
 |succ id=>simp at ak
attribute [local irreducible] Dn
open Go Go.Proofs Sp
set_option maxRecDepth 100000
set_option maxHeartbeats 4000000
def Zde (t:Zb) (f r st:Int):Nat->List Bool
 |0=>[]
 |i+1=>Zde t f r st i++[Xs t f r st i]
theorem ZxU (t:Zb) (f r st:Int) (hw:ZA t) (hc:ZcC t f r st):KC aB 151 (λA=>.iptr [.cch A] 0::[Yy t,.iptr [.int .i64 λ_=>f,.int .i64 λ_=>Zv (Sp.Zl (callsOf t) f) st] 0,.iptr [.int .i64 λ_=>r,.int .i64 λ_=>ZJ (Sp.Zl (callsOf t) r) st] 0]) (Zde t f r st (manyT t)):=by
 obtain⟨nt,O⟩:=Zm;have H:=Ztm t;have I:=λB0 B1 B2 B3 B4 B5 stop=>Ztl t hw B0 B1 B2 B3 B4 B5 stop;have aa:=λx=> @Zbd t x _ _ hc.1;have S:=λx=> @Zbd t x _ _ hc.2;have Y:∀i,Xs t f r st i=decide ((ZE t (Zi t i) f (Zv (Sp.Zl (callsOf t) f) st)).comes<=(ZE t (Zi t i) r (ZJ (Sp.Zl (callsOf t) r) st)).goes):=λ_=>rfl;have ab:Zde t f r st 0=[]:=rfl;have J:∀i,Zde t f r st (i+1)=Zde t f r st i++[Xs t f r st i]:=λ_=>rfl;generalize Zde t f r st=KL at*;generalize Xs t f r st=KB at*;generalize Zv (Sp.Zl (callsOf t) f) st=fo at*;generalize ZJ (Sp.Zl (callsOf t) r) st=to at*;generalize ZE t=HH at*;generalize Zi t=G at*;generalize Qt t=Z at*;refine Zrd (p:=λ_=>aB) (dr:=.both) (B:=4) Tryz.func151 (show Tryz.f151.body=_ from rfl) rfl ⟨_,rfl,rfl,rfl,rfl⟩ ⟨_,rfl,rfl,rfl,rfl⟩ (by kernel_rfl) (by decide) λA=>?_;unfold Yy ZZ at*;simp only[Za O,Zc,Zp]at*;refine Zfu false false [] [] false ?_;refine wS ?_;refine ZN (H) (by first|rfl|(simp only[Ze,Zd,Zf,Zc,Za O];rfl)) λr ac U=>?_;(try simp only[Ze,Zd,Zf,Zc,Za O]at U);obtain⟨rfl,rfl⟩:=U;refine wS ?_;refine Zgo [0,2,3,8] [.tok 1 λ_=>0,.tok 1 λ_=>0,.tok 1 λ_=>0,.tok 1 λ_=>0] [(0,.gob (.chq A λ_=>KL 0))] (fid:=135) (first:=[]) ?_ rfl ?_ ?_
 ·rw[ab];(refine To.of [(1,false),(1,false),(1,false),(1,false)] ?_;cbv;(try simp only[nc]);(repeat' first|exact xT|refine⟨?_,?_⟩|refine ZK.cells ?_|refine Zz.agg ?_|refine Zz.tup ?_);all_goals try exact XU)
 ·exact Yk
 refine SC.mono (I (λi=>.gob (.chq A λ_=>KL i)) (λ_=>_) (λ_=>_) (λ_=>_) (λ_=>_) (λ_=>_) (λ_=>false) ?_ ?_ ?_ ?_ ?_ ?_ ?_) ?_;iterate 6 exact λi=>QP.of rfl
 ·intro i hi ae;have e1:(((Z (G i)).lookup [f,fo]).getD []).headD 0=(HH (G i) f fo).comes:=by rw[aa];rfl
  have e2:(((Z (G i)).lookup [r,to]).getD []).tail.tail.headD 0=(HH (G i) r to).goes:=by rw[S];rfl
  refine YC.less (Zdi false false [] rfl rfl ?_);refine wS ?_;simp only[e1,e2,<-Y,<-J];refine⟨.bool λ_=>true,_,?_,rfl,rfl⟩;exact ZB
 intro v h hh;obtain⟨m,hm,rfl⟩:=hh;have V:m=manyT t:=by
  rcases hm with h|⟨_,_,_,h,_⟩
  ·exact h.1
  cases h
 subst V;refine wS ?_;exact⟨_,rfl⟩
theorem Zm4 {o:Option TypeInfo} {n:Nat} {z:Option Value} (h:o.map (λi=>(i.size,i.zero))=some (n,z)):∃i,o=some i/\i.size=n/\i.zero=z:=by
 cases o with
 |none=>cases h
 |some i=>
  have h:some (i.size,i.zero)=some (n,z):=h;simp only[aC,aK]at h;exact⟨i,rfl,h.1,h.2⟩
theorem Zg7 (w v:Bool):∀(l:List Bool) (n:Int),cnt w (l++[v]) n=if v=w then IntKind.i64.wrap (cnt w l n+1)else cnt w l n
 |[],_=>rfl
 |x::l,n=>Zg7 w v l _
theorem Zf1 {x:Int} (h:0<=x/\x<1000000):IntKind.i64.wrap x=x:=Zb2 x ⟨by omega,by omega⟩
theorem ZmV {ds:List ZR} (h:∀d∈ds,d.by_.length<=3):∀m,m<=ds.length->Yu ds m<=3^ m
 |0,_=>aI _
 |m+1,hm=>by
  unfold Yu;rw[Nat.pow_succ];refine Nat.mul_le_mul (ZmV h m (by omega)) ?_;unfold lenAt;rw[aA,aD hm];exact h _ (bM hm)
theorem ZsV {t:Zb} (hw:ZA t):manyT t<=729:=by
 have h:=ZmV (λd A=>(hw.d d A).2.1) t.delays.length (aI _);have G:3^ t.delays.length<=3^ 6:=Nat.pow_le_pow_right (by omega) hw.dlen;exact cD h (cD G (by decide))
theorem count_bd (p:Nat->Bool):∀n,0<=QC p n/\QC p n<=n
 |0=>⟨bS _,bS _⟩
 |n+1=>by
  have:=count_bd p n;unfold QC;split<;>omega
theorem Zrb (t:Zb) (f r st:Int):∀n,n<=729->cnt true (Zde t f r st n) 0=QC (Xs t f r st) n/\cnt false (Zde t f r st n) 0=QC (λi=> !Xs t f r st i) n
 |0,_=>⟨rfl,rfl⟩
 |n+1,h=>by
  have G:=Zrb t f r st n (by omega);have H:=count_bd (Xs t f r st) n;have I:=count_bd (λi=> !Xs t f r st i) n;unfold Zde;rw[Zg7,Zg7,G.1,G.2,Zf1 (by omega),Zf1 (by omega)];have A:∀p,QC p (n+1)=if p n then QC p n+1 else QC p n:=λ_=>rfl
  rw[A,A];cases Xs t f r st n<;>exact⟨rfl,rfl⟩
theorem Zxm (t : Zb) (f r st : Int) (hw : ZA t) (hc : ZcC t f r st) : SC (λ_ => aB) 97 [.iptr (ZZ t) 0, .int .i64 λ_ => f, .int .i64 λ_ => r, .int .i64 λ_ => st] [.main] λv h => v = .int .i64 (λ_ => Zbc t f r st) /\ h = [.main] := by
  obtain ⟨I, O⟩ := Zm;have U := hc.1;have J := hc.2;have aa := (J8 hw.calls U).2.2;have S := (J8 hw.calls J).2.2;unfold StopIn at U J;rw [ZaM O] at U J aa S;have Y := Zvz (I (List Sp.Call) [] (callsOf t) f) st (by omega);have ab := Zxn (I (List Sp.Call) [] (callsOf t) r) st (by omega);have ac := hw.calls.len;have Z := ZxU t f r st hw hc;obtain ⟨hy, hn⟩ := Zrb t f r st (manyT t) (ZsV hw);have hV : Zbc t f r st = Zbq (QC (Xs t f r st) (manyT t)) (QC (λi => !Xs t f r st i) (manyT t)) := rfl;have H := Zyl (QC (Xs t f r st) (manyT t)) (QC (λi => !Xs t f r st i) (manyT t));rw [<- hV] at H;rw [ZaM O, ZaM O] at Z;generalize Zbc t f r st = V at *;generalize QC (Xs t f r st) (manyT t) = CY at *;generalize QC (λi => !Xs t f r st i) (manyT t) = CN at *;generalize Zde t f r st (manyT t) = KL at *;unfold Yy at Z;unfold ZZ at *;simp only [Za O, Zc, Zp] at *;generalize Zv (I (List Sp.Call) [] (callsOf t) f) st = fo at *;generalize ZJ (I (List Sp.Call) [] (callsOf t) r) st = to at *;refine SC.less (Zvr false false [] [2] false 1 Tryz.func97 (body := Zj Tryz.f97) rfl (by decide +kernel) rfl ?_);refine vS ?_;repeat' first
    | (with_reducible refine Zlg.mk ?_ ?_)
    | (with_reducible refine Chk.mk (ZH) ?_)
    | (refine ZN Y (by first | rfl | (simp only [Ze, Zd, Zf, Zc, Za O]; rfl)) λr G A => ?_
       obtain ⟨rfl, rfl⟩ := A
       refine vS ?_)
    | (refine ZN ab (by first | rfl | (simp only [Ze, Zd, Zf, Zc, Za O]; rfl)) λr G A => ?_
       obtain ⟨rfl, rfl⟩ := A
       refine vS ?_)
  all_goals
    refine Zs1 (p := λ_ => aB) (dr := .both) (B := 4) ⟨rfl, rfl, rfl, rfl, rfl, rfl, rfl, rfl, rfl, ⟨_, rfl, rfl, rfl, rfl⟩, ⟨_, rfl, rfl, rfl, rfl⟩, ⟨_, rfl, rfl, rfl, rfl⟩, ⟨_, rfl, rfl, rfl, rfl⟩, ⟨_, rfl, rfl, rfl, rfl⟩, ⟨_, rfl, rfl, rfl, rfl⟩, ⟨_, rfl, rfl, rfl, rfl⟩, ⟨_, rfl, rfl, rfl, rfl⟩, ⟨_, rfl, rfl, rfl, rfl⟩, ⟨_, rfl, rfl, rfl, rfl⟩, ⟨_, rfl, rfl, rfl, rfl⟩, ⟨_, rfl, rfl, rfl, rfl⟩, ⟨_, rfl, rfl, rfl, rfl⟩, ⟨_, rfl, rfl, rfl, rfl⟩, ⟨_, rfl, rfl, rfl, rfl⟩, ⟨_, rfl, rfl, rfl, rfl⟩, ⟨_, rfl, rfl, rfl, rfl⟩, ⟨_, rfl, rfl, rfl, rfl⟩, ⟨_, rfl, rfl, rfl, rfl⟩⟩ (by kernel_rfl) (Zm4 (by kernel_rfl)) ((Zm4 (n := 1) (z := some (.bool false)) (by kernel_rfl)).imp λi h => ⟨h.1, h.2.2⟩)
      Tryz.func151 rfl (by decide +kernel) rfl rfl rfl rfl rfl rfl Z ?_
    rw [hy, hn];refine Zfu false false [] [] false ?_;refine wS ?_;refine ZN (H) (by first | rfl | (simp only [Ze, Zd, Zf, Zc, Za O]; rfl)) λr G A => ?_;(try simp only [Ze, Zd, Zf, Zc, Za O] at A);obtain ⟨rfl, rfl⟩ := A;refine wS ?_;refine ⟨_, _, ?_, rfl, rfl⟩;exact ZB
theorem PR.nilw {w:World} {ok:Nat->Nat->Nat->Prop} {s s':Nat} {m m':Unit->Int} {f G:(Unit->Int)->List AV} {v:Value} (h:PR w ok (.isl s m f .nil) v) (hm:m' ()=0):PR w ok (.isl s' m' G .none) v:=by
 cases h with
 |isl0 _ _ _ _ H A=>exact .isl0 _ _ _ _ hm rfl
 |islE _ _ _ _ a H A=>exact .islE _ _ _ _ a hm (.inl rfl)
 |isl _ _ _ _ b o len I J U S A=>rcases A with h|h<;>cases h
theorem Zxt (m:Int):SC (λ_=>aB) 69 [.int .i64 λ_=>m] [] λv h=>v=Zf (Qf m)/\h=[]:=by
 obtain⟨H,O⟩:=Zm;have I:=Zmn 0 0 60;have J:=Zmn 1 100 110;have S:=Zmn 2 160 0;have Y:=Zmn 1 0 120;have V:=Zmn 3 200 0;have U:=Zmn 1 0 180;have Z:=Zmn 3 260 0;refine SC.less (Qq Tryz.func69 (body:=Zj Tryz.f69) rfl (by decide+kernel) ?_);refine wS ?_;refine Zri (I) ?_;refine wS ?_;refine Zri (J) ?_;refine wS ?_;refine Zri (S) ?_;refine wS ?_;refine Zri (Y) ?_;refine wS ?_;refine Zri (V) ?_;refine wS ?_;refine Zri (U) ?_;refine wS ?_;refine Zri (Z) ?_;refine wS ?_;refine⟨Zf (Qf m),[],?_,rfl,rfl⟩;unfold Zf;simp only[Za O,encTrain,encZone,Zp];(refine To.of [] ?_;cbv;(try simp only[nc]);(repeat' first|exact xT|refine⟨?_,?_⟩|refine ZK.cells ?_|refine Zz.agg ?_|refine Zz.tup ?_);all_goals try exact XU)
 ·refine Zjb O (λz:Sp.Zone=>[.int .i64 λ_=>z.base,.isl 2 (λ_=>(z.chs.length:Int)) (λe=>Jo (H Chg default z.chs (e ()))) .none]) default [⟨0,[]⟩] _ ?_ λi G=>?_
  ·rfl
  match i,G with
  |0,_=>exact Ya.two λw ok v h=>h.nilw rfl
 ·refine Zjb O (λt:Sp.Train=>[.int .i64 λ_=>t.number,.int .i64 λ_=>t.days,.isl 4 (λ_=>(t.stops.length:Int)) (λe=>QK (H Stop default t.stops (e ()))) .none]) default (Qf m).book.old _ ?_ λi G=>?_
  ·rfl
  match i,G with
  |0,_=>
   refine Ya.three λw ok v h=>h.wk rfl (λj A=>?_) (.inl rfl);match j,A with
   |0,_=>(rw[O];rfl)
   |1,_=>(rw[O];rfl)
   |2,_=>(rw[O];rfl)
   |j+3,A=>exact absurd A (by show¬((j+3:Nat):Int)<3;omega)
  |1,_=>
   refine Ya.three λw ok v h=>h.wk rfl (λj A=>?_) (.inl rfl);match j,A with
   |0,_=>(rw[O];rfl)
   |1,_=>(rw[O];rfl)
   |j+2,A=>exact absurd A (by show¬((j+2:Nat):Int)<2;omega)
  |2,_=>
   refine Ya.three λw ok v h=>h.wk rfl (λj A=>?_) (.inl rfl);match j,A with
   |0,_=>(rw[O];rfl)
   |1,_=>(rw[O];rfl)
   |j+2,A=>exact absurd A (by show¬((j+2:Nat):Int)<2;omega)
 refine Zjb O (λt:Sp.ZR=>[.int .i64 λ_=>t.run,.int .i64 λ_=>t.leg,.isl 1 (λ_=>(t.by_.length:Int)) (λe=>QO (H Int 0 t.by_ (e ()))) .none]) default (Qf m).delays _ ?_ λi G=>?_
 ·rfl
 match i,G with
 |0,_=>
  refine Ya.three λw ok v h=>h.wk rfl (λj A=>?_) (.inl rfl);match j,A with
  |0,_=>(rw[O];rfl)
  |1,_=>(rw[O];rfl)
  |2,_=>(rw[O];rfl)
  |j+3,A=>exact absurd A (by show¬((j+3:Nat):Int)<3;omega)
theorem ZyD (l:List Sp.Zhq) (G:l.length<=100000):SC (λ_=>aB) 26 [lst 2 encSp default l,lst 2 encSp default l] [] λv h=>v= .bool (λ_=>true)/\h=[]:=by
 obtain⟨H,O⟩:=Zm;refine Qq Tryz.func26 (body:=Zj Tryz.f26) rfl (by decide+kernel) ?_;simp only[Za O];refine wS ?_;refine Br.isF (by simp) ?_;refine wS ?_;refine ZG false false [] [0,1,5] [] (λ(i:Nat)=>[(5,.int .i64 λ_=>(i:Int))]) (λ_=>[]) (λi=>i<=l.length) (λi=>l.length-i+0) 0 (aT _) ?_ ?_
 ·exact ZB
 intro i I;refine wS ?_;refine⟨λA=>?_,λA=>?_⟩
 ·simp only[iU]at A;refine wS ?_;refine Br.isF (by simp) ?_;refine wS ?_;refine⟨i+1,by omega,by omega,?_⟩;exact ZB
 (cbv;(try simp only[nc]at*);(try refine Chk.mk (ZH) ?_))
 (try first|exact⟨rfl,trivial⟩|exact⟨trivial,trivial⟩)
theorem Zb6 (m:Int):Qe (Qf m):=⟨⟨by show 1<=1000000;decide,by show 3<=1000000;decide,by show 0<=1000000;decide,λz H=>by simp only[Qf,aN]at H;subst H;decide,λt A=>by simp only[Qf,bG,dU,or_false]at A;rcases A with rfl|rfl|rfl<;>decide,λt A=>by cases A⟩,by show 3<=1000000;decide,by show 1<=1000000;decide,by show 1<=1000000;decide,λd G=>by simp only[Qf,aN]at G;subst G;decide⟩
theorem Zxy:SC (λ_=>aB) 17 [] [.main] λv h=>v= .bool (λ_=>true)/\h=[.main]:=by
 obtain⟨nt,O⟩:=Zm;have I:=Zxt 30;have A:=Zxt 15;have hw:∀t,Zn t=0->ZA t:=λt h=>Yx h;have J:=ZyK (Qf 30) 1 (Zb6 30) (hw _);have k2:=Zxu (Qf 15) 0 (Zb6 15) Zxm;have U:=ZyE (Qf 15) Zky (Zb6 15) (by decide) (hw _);have k4:=Zxv (Qf 30) 0 (Zb6 30);have Y:=ZyJ (Qf 15) Zn3 0 (Zb6 15) (by decide) (hw _);have V:J7 (Qf 30) 1=0:=by
  unfold J7;rw[iN (λh=>h Zvo.2)];rfl
 rw[V,iP rfl,iP rfl,ZqT]at J;rw[Zn6]at k2;rw[Zl7]at U;rw[ZqU.1]at k4;rw[Zta]at Y;have kh:=Zxs;have ki:=ZyB;have ks:=ZyD [⟨120,140⟩,⟨200,220⟩] (by decide);have kz:=c39 [0,1] [0,1] (by decide);have S:=ZvC 200 260;have Z:=ZvC 120 140;have aa:=ZvC 200 220;generalize Zjo (Qf 30) 1=C at*;generalize Qf 30=ac at*;generalize Qf 15=ab at*;generalize Zky=H1 at*;generalize Zn3=H2 at*;unfold Zf Yt encSp at*;simp only[Za O,Zc,Zp,Yr]at*;refine SC.less (Qq Tryz.func17 (body:=Zj Tryz.f17) rfl (by decide+kernel) ?_);refine wS ?_;refine Zri (I) ?_;refine wS ?_;refine Zri (J) ?_;refine wS ?_;refine Zri (A) ?_;refine wS ?_;refine cL1 [0] (k2) λr H G=>?_;(try simp only[Ze,Zd,Zf,Zc,Za O]at G);obtain⟨rfl,rfl⟩:=G;refine wS ?_;refine Zri (A) ?_;refine wS ?_;refine Zri (kh) ?_;refine wS ?_;refine Zri (U) ?_;refine wS ?_;refine Zri (I) ?_;refine wS ?_;refine Zri (k4) ?_;refine wS ?_;refine Zri (A) ?_;refine wS ?_;refine Zri (ki) ?_;refine wS ?_;refine Zri (Y) ?_;refine vS ?_;refine Chk.mk (by simp only[nc,Xx,Xw,XM,Xv,Cn.p,beq_self_eq_true,cond_true,imp_self,and_true,true_and];(repeat' (first|apply And.intro|intro _))<;>first|rfl|trivial|exact Or.inl rfl|decide|decide+kernel|(simp;done)) ?_
 repeat (first
  |(with_reducible refine Br.isT rfl ?_;refine vS ?_)
  |(with_reducible refine Chk.mk (by simp only[nc,Xx,Xw,XM,Xv,Cn.p,beq_self_eq_true,cond_true,imp_self,and_true,true_and];(repeat' (first|apply And.intro|intro _))<;>first|rfl|trivial|exact Or.inl rfl|decide|decide+kernel|(simp;done)) ?_))
 refine Zri (S) ?_;refine vS ?_
 repeat (first
  |(with_reducible refine Br.isT rfl ?_;refine vS ?_)
  |(with_reducible refine Chk.mk (by simp only[nc,Xx,Xw,XM,Xv,Cn.p,beq_self_eq_true,cond_true,imp_self,and_true,true_and];(repeat' (first|apply And.intro|intro _))<;>first|rfl|trivial|exact Or.inl rfl|decide|decide+kernel|(simp;done)) ?_))
 refine Zri (Z) ?_;refine vS ?_
 repeat (first
  |(with_reducible refine Br.isT rfl ?_;refine vS ?_)
  |(with_reducible refine Chk.mk (by simp only[nc,Xx,Xw,XM,Xv,Cn.p,beq_self_eq_true,cond_true,imp_self,and_true,true_and];(repeat' (first|apply And.intro|intro _))<;>first|rfl|trivial|exact Or.inl rfl|decide|decide+kernel|(simp;done)) ?_))
 refine Zri (aa) ?_;refine vS ?_
 repeat (first
  |(with_reducible refine Br.isT rfl ?_;refine vS ?_)
  |(with_reducible refine Chk.mk (by simp only[nc,Xx,Xw,XM,Xv,Cn.p,beq_self_eq_true,cond_true,imp_self,and_true,true_and];(repeat' (first|apply And.intro|intro _))<;>first|rfl|trivial|exact Or.inl rfl|decide|decide+kernel|(simp;done)) ?_))
 refine ZbQ ks (by(refine To.of [] ?_;cbv;(try simp only[nc]);(repeat' first|exact xT|refine⟨?_,?_⟩|refine ZK.cells ?_|refine Zz.agg ?_|refine Zz.tup ?_);all_goals try exact XU);all_goals exact lit_nt O encSp default _ _ rfl) (by first|rfl|(simp only[Ze,Zd,Zf,Zc,Za O];rfl)) λr H G=>?_;obtain⟨rfl,rfl⟩:=G;refine vS ?_
 repeat (first
  |(with_reducible refine Br.isT rfl ?_;refine vS ?_)
  |(with_reducible refine Chk.mk (by simp only[nc,Xx,Xw,XM,Xv,Cn.p,beq_self_eq_true,cond_true,imp_self,and_true,true_and];(repeat' (first|apply And.intro|intro _))<;>first|rfl|trivial|exact Or.inl rfl|decide|decide+kernel|(simp;done)) ?_))
 refine ZbQ (kz) (by(try simp only[Ze,Zd,Zf,Zc,Za O]);exact ZB) (by first|rfl|(simp only[Ze,Zd,Zf,Zc,Za O];rfl)) λr H G=>?_;(try simp only[Ze,Zd,Zf,Zc,Za O]at G);obtain⟨rfl,rfl⟩:=G;refine vS ?_
 repeat (first
  |(with_reducible refine Br.isT rfl ?_;refine vS ?_)
  |(with_reducible refine Chk.mk (by simp only[nc,Xx,Xw,XM,Xv,Cn.p,beq_self_eq_true,cond_true,imp_self,and_true,true_and];(repeat' (first|apply And.intro|intro _))<;>first|rfl|trivial|exact Or.inl rfl|decide|decide+kernel|(simp;done)) ?_))
 refine⟨.bool λ_=>true,[.main],?_,rfl,rfl⟩;(refine To.of [] ?_;cbv;(try simp only[nc]);(repeat' first|exact xT|refine⟨?_,?_⟩|refine ZK.cells ?_|refine Zz.agg ?_|refine Zz.tup ?_);all_goals try exact XU);all_goals exact .bool rfl
end Vm
end Go.Proofs.YtjgpiclllehgmaaGreat
