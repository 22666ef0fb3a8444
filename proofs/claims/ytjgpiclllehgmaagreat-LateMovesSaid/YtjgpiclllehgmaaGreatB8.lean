/- Lemmas. -/
import Derived.Test.YtjgpiclllehgmaaGreatB7
import Derived.Test.YtjgpiclllehgmaaGreatB5
import Derived.Test.YtjgpiclllehgmaaGreatB6
set_option linter.all false
open Bool renaming false_ne_true->aO
open Int renaming toNat_natCast->aV
open List renaming length_set->bP
open Nat renaming zero_le->aT
open Go.Proofs.Tryz renaming prog->aB
namespace Go.Proofs.YtjgpiclllehgmaaGreat
namespace Vm
attribute [local irreducible] Dn
open Go Go.Proofs Sp
set_option maxRecDepth 100000
set_option maxHeartbeats 4000000
theorem Zxh (t:Zb) (w:Int) (H:Qe t):SC (λ_=>aB) 107 [Zf t,.int .i64 λ_=>w] [] λv h=>v= .int .i64 (λ_=>ZV t w)/\h=[]:=by
 obtain⟨S,O⟩:=Zm;refine Qq Tryz.func107 (body:=Zj Tryz.f107) rfl (by decide+kernel) ?_;have G:=ZvD t H;have I:=Zhc w 0 ((t.waits.length:Int)-1);have J:=H.waits;generalize A:ZV t w=e;unfold ZV at A;unfold Zf at*;simp only[Za O]at*;by_cases hbe:Zn t=0
 ·rw[iP hbe]at A;rw[hbe]at G;refine wS ?_;refine Zri (G) ?_;refine wS ?_;refine Br.isF rfl ?_;refine wS ?_;refine Zri (I) ?_;cases ho:Qw w 0 ((t.waits.length:Int)-1)with
  |true=>
   rw[ho,iP rfl]at A;subst A;refine wS ?_;refine Br.isT rfl ?_;exact zW
  |false=>
   rw[ho,iN aO]at A;subst A;refine wS ?_;refine Br.isF rfl ?_;exact zW
 rw[iN hbe]at A;subst A;generalize Zn t=e at*;refine wS ?_;refine Zri (G) ?_;refine wS ?_;refine Br.isT (by simpa using hbe) ?_;exact zW
theorem Zxk (t:Zb) (w n:Int) (V:Qe t) (hw:0<=w/\w<t.waits.length):SC (λ_=>aB) 103 [Zf t,.int .i64 λ_=>w,.int .i64 λ_=>n] [] λv h=>v=Zf (ZS t w n)/\h=[]:=by
 obtain⟨H,O⟩:=Zm;have Z:=V.waits;obtain⟨G,A⟩:∃G,G=ZS t w n:=⟨_,rfl⟩;have S:G.waits.length=t.waits.length:=by rw[A];unfold ZS;simp
 have J:∀i:Nat,i<t.waits.length->[AV.int .i64 λ_=>(H Sp.QH default t.waits (i:Int)).feeder,.int .i64 λ_=>(H Sp.QH default t.waits (i:Int)).train,.int .i64 λ_=>(H Sp.QH default t.waits (i:Int)).station,.int .i64 λ_=>bif decide ((i:Int)=w)then n else(H Sp.QH default t.waits (i:Int)).minutes]=Qz (H Sp.QH default G.waits (i:Int)):=λi I=>by
  have e:H Sp.QH default G.waits (i:Int)=if(i:Int)=w then {H Sp.QH default t.waits (i:Int)with minutes:=n}else H Sp.QH default t.waits (i:Int):=by
   rw[O,O,aV,A];show(t.waits.set w.toNat _).getD i default=_;by_cases h:(i:Int)=w
   ·subst h;rw[iP rfl,aV,Vm.Zco _ _ _ _ I]
   rw[iN h,Vm.ZaC _ _ _ _ _ (by omega)]
  rw[e];by_cases h:(i:Int)=w
  ·rw[iP h,iZ h];rfl
  rw[iN h,iY h];rfl
 have Y:G.book=t.book:=by rw[A];rfl
 have hr:G.runs=t.runs:=by rw[A];rfl
 have U:G.delays=t.delays:=by rw[A];rfl
 rw[<-A];unfold Zf;rw[Y,hr,U];simp only[Za O];refine SC.less (Zoh false false [] Tryz.func103 (body:=Zj Tryz.f103) rfl (by decide+kernel) ?_);refine wS ?_;refine⟨_,[],?_,rfl,rfl⟩;refine Ji ?_
 exact .gd (by simp) (.none (by show(([]:List Sp.QH).length:Int)+(t.waits.length:Int)=G.waits.length;rw[S];simp) λi I=>by
  have I:(i:Int)<(([]:List Sp.QH).length:Int)+(t.waits.length:Int):=I;rw[Qu (len:=0) rfl (aT _)]
  exact J i (by simp at I;omega))
theorem Zf3 {t:Zb} {w:Int} (A:ZV t w=0):Zn t=0/\0<=w/\w<t.waits.length:=by
 have G:Zn t=0:=by
  unfold ZV at A;split at A
  ·assumption
  exact A
 refine⟨G,?_⟩;unfold ZV at A;rw[iP G]at A;split at A
 ·cases A
 rename_i H;have:=QE (by simpa using H);omega
theorem ZyG (t:Zb) (w n:Int) (A:Qe t):SC (λ_=>aB) 44 [Zf t,.int .i64 λ_=>w,.int .i64 λ_=>n] [] λv h=>v= .tup [Zf (ZaF t w n).1,.int .i64 λ_=>(ZaF t w n).2]/\h=[]:=by
 obtain⟨S,O⟩:=Zm;have k:=Zxh t w A;obtain⟨W,hW⟩:∃W,W=ZaF t w n:=⟨_,rfl⟩;rw[<-hW];unfold ZaF at hW;refine SC.less (Qq Tryz.func44 (body:=Zj Tryz.f44) rfl (by decide+kernel) ?_);by_cases he:ZV t w=0
 ·have I:=(Zf3 he).2;have G:=Zhc n 0 60;have H:=Zxk t w n A I;rw[iN (λh=>h he)]at hW;rw[he]at k;generalize ZS t w n=J at*;generalize Qw n 0 60=B at*;unfold Zf at*;simp only[Za O]at*;refine wS ?_;refine Zri (k) ?_;refine wS ?_;refine Br.isF rfl ?_;refine wS ?_;refine Zri (G) ?_;cases B with
  |true=>
   rw[iP rfl]at hW;subst hW;refine wS ?_;refine Br.isT rfl ?_;refine wS ?_;refine⟨_,_,?_,rfl,rfl⟩;exact ZB
  |false=>
   rw[iN aO]at hW;subst hW;refine wS ?_;refine Br.isF rfl ?_;refine wS ?_;refine Zri (H) ?_;refine wS ?_;refine⟨_,_,?_,rfl,rfl⟩;exact ZB
 rw[iP he]at hW;subst hW;generalize ZV t w=e at*;unfold Zf at*;simp only[Za O]at*;refine wS ?_;refine Zri (k) ?_;refine wS ?_;refine Br.isT (by simpa using he) ?_;refine wS ?_;refine⟨_,_,?_,rfl,rfl⟩;exact ZB
theorem ZyF (t:Zb) (w:Int) (G:Qe t):SC (λ_=>aB) 46 [Zf t,.int .i64 λ_=>w] [] λv h=>v= .tup [.int .i64 λ_=>(XH t w).1,.int .i64 λ_=>(XH t w).2]/\h=[]:=by
 obtain⟨U,O⟩:=Zm;have k:=Zxh t w G;have ai:=G.waits;refine Qq Tryz.func46 (body:=Zj Tryz.f46) rfl (by decide+kernel) ?_;by_cases he:ZV t w=0
 ·have S:=(Zf3 he).2;have hb:=(Zf3 he).1;have k1:=λn:Int=>Zxk t w n G S;have Z:∀n,Qe (ZS t w n):=λn=>⟨G.book,G.runs,by show(t.waits.set _ _).length<=_;rw[bP];exact G.waits,G.delays,G.bys⟩;have k2:=λ(n:Int) (h:0<=n/\n<=60)=>Zys (ZS t w n) (QG t w).feeder (QG t w).train (QG t w).station (Z n) (Zlm hb h) (Znd hb S);have aa:QG t w=U Sp.QH default t.waits w:=by rw[O];rfl
  have I:XH t w=if(Xu (YP t w) 0 61).2 then((Xu (YP t w) 0 61).1,0)else(0,11):=by unfold XH;rw[iN (λh=>h he)]
  have hP:∀n:Nat,YP t w n=decide (Zbc (ZS t w n) (QG t w).feeder (QG t w).train (QG t w).station=1):=λn=>rfl;rw[he]at k;rw[aa]at k2 hP;have ab:∀n,(ZS t w n).book=t.book:=λ_=>rfl;have Y:∀n,(ZS t w n).runs=t.runs:=λ_=>rfl;have ac:∀n,(ZS t w n).delays=t.delays:=λ_=>rfl;obtain⟨F,hF⟩:∃F,F=Xu (YP t w) 0 61:=⟨_,rfl⟩;rw[<-hF]at I;generalize XH t w=E at*;generalize YP t w=P at*;unfold Zf Qz at*;simp only[ab,Y,ac]at k1 k2;simp only[Za O]at*;clear ab Y ac Z aa;generalize ZS t w=WT at*;refine wS ?_;refine Zri (k) ?_;refine wS ?_;refine Br.isF rfl ?_;refine wS ?_;refine XD λQ hQ=>?_;refine ZG false false [] [1,2,7,8] [] (λ(i:Nat)=>[(8,.int .i64 λ_=>(i:Int))]) (λ_=>[]) (λi=>i<=61/\F=Xu P i (61-i)) (λi=>61-i+0) 0 ⟨aT _,hF⟩ ?_ ?_
  ·exact ZB
  intro i S;have ah:=S.1;have A:=S.2;refine wS ?_;refine⟨λJ=>?_,λJ=>?_⟩
  ·have J:=iW J;have k3:=k1 (i:Int);have k4:=k2 (i:Int) (by omega);have hp:=hP i;rw[Zg0 (by omega)]at A;generalize Zbc (WT (i:Int)) (U Sp.QH default t.waits w).feeder (U Sp.QH default t.waits w).train (U Sp.QH default t.waits w).station=V at*;refine wS ?_;refine Zri (k3) ?_;refine wS ?_;refine Zri (k4) ?_;refine wS ?_;refine⟨λH=>?_,λH=>?_⟩
   ·have H:V=1:=eq_of_beq H;rw[iP (by rw[hp,H];rfl)]at A;rw[A,iP rfl]at I;subst I;refine wS ?_;refine hQ _ _ _ ?_;exact zW
   have H:V≠1:=by simpa using H
   rw[iN (by rw[hp];simpa using H)]at A;refine wS ?_;refine⟨i+1,⟨by omega,by rw[A];rfl⟩,by show 61-(i+1)+0<61-i+0;omega,?_⟩;exact ZB
  have J:=iX J;obtain rfl:i=61:=by omega
  have ae:F=(0,false):=A;rw[ae,iN aO]at I;subst I;refine wS ?_;refine hQ _ _ _ ?_;exact zW
 have I:XH t w=(0,ZV t w):=by unfold XH;rw[iP he]
 rw[I];generalize ZV t w=e at*;unfold Zf at*;simp only[Za O]at*;refine wS ?_;refine Zri (k) ?_;refine wS ?_;refine Br.isT (by simpa using he) ?_;exact zW
set_option maxHeartbeats 8000000
theorem Zxx (t:Zb) (G:Qe t):SC (λ_=>aB) 20 [Zf t] [] λv h=>v=Zf t/\h=[]:=by
 obtain⟨A,O⟩:=Zm;have S:=c23 t.book G.book;have Y:=G.bys;have ab:=G.runs;have aa:=G.waits;have ac:=G.delays;refine SC.less (ZkO false false [] Tryz.func20 (body:=Zj Tryz.f20) rfl (by decide+kernel) ?_);unfold Zf Zd at*;simp only[Za O,Jx O]at*;refine wS ?_;refine Zri (S) ?_;refine wS ?_;refine ZG false false [] [1,2,3,4] [.tok 3 λ_=>0] (λ(i:Nat)=>[(4,.int .i64 λ_=>(i:Int))])
  (λi=>[(0,.cells [.isl 2 (λ_=>(t.book.zones.length:Int)) (λe=>encZone (A Zone default t.book.zones (e ()))) .none,.isl 3 (λ_=>(t.book.old.length:Int)) (λe=>encTrain (A Train default t.book.old (e ()))) .none,.isl 3 (λ_=>(t.book.new.length:Int)) (λe=>encTrain (A Train default t.book.new (e ()))) .none,.int .i64 λ_=>t.book.night,.int .i64 λ_=>t.book.last,.isl 2 (λ_=>(t.runs.length:Int)) (λe=>Zk (A Sp.Z6 default t.runs (e ()))) (.own 2),.isl 4 (λ_=>(t.waits.length:Int)) (λe=>Qz (A Sp.QH default t.waits (e ()))) (.own 3),.isl 3 (λ_=>((t.delays.take i).length:Int)) (λe=>Zp (A Sp.ZR default (t.delays.take i) (e ()))) (.own 4)]),(2,.tok 2 λ_=>(t.runs.length:Int)),(3,.tok 4 λ_=>(t.waits.length:Int)),(4,.tok 3 λ_=>((t.delays.take i).length:Int))])
  (λi=>i<=t.delays.length) (λi=>t.delays.length-i+0) 0 (aT _) ?_ ?_
 ·(refine To.of [(3,false)] ?_;cbv;(try simp only[nc]);(repeat' first|exact xT|refine⟨?_,?_⟩|refine ZK.cells ?_|refine Zz.agg ?_|refine Zz.tup ?_);all_goals try exact XU)
  ·exact .isl (by simp) λi H=>by rw[Qu (len:=0) rfl (aT _)];rfl
  exact .isl (by simp) λi H=>by rw[Qu (len:=0) rfl (aT _)];rfl
 intro i H;have H:i<=t.delays.length:=H;refine wS ?_;refine⟨λI=>?_,λI=>?_⟩
 ·simp only[iU]at I;have U:=Y _ (Qr (d:=default) O (l:=t.delays) (i:=i) (by omega));have V:=X9 (d:=default) O (l:=t.delays) (i:=i) (by omega);have Z:(t.delays.take i).length=i:=by rw[List.length_take];omega
  refine wS ?_;have J:=Zyy (A Sp.ZR default t.delays (i:Int)).by_ U;refine Zri (J) ?_;refine wS ?_;refine⟨i+1,by show i+1<=_;omega,by show t.delays.length-(i+1)+0<t.delays.length-i+0;omega,?_⟩;rw[V];refine Ji ?_;exact .snoc O rfl (by simp) (by unfold Zp;rw[Za O];rfl)
 obtain rfl:i=t.delays.length:=by simp only[iV]at I;omega
 rw[List.take_length];refine wS ?_;refine⟨_,[],?_,rfl,rfl⟩;exact ZB
theorem ZoI {t:Zb} (A:Qe t) (w n:Int):Qe (ZaF t w n).1:=by
 have G:Qe ⟨⟨[],[],[],0,0⟩,[],[],[]⟩:=⟨⟨by simp,by simp,by simp,by simp,by simp⟩,by simp,by simp,by simp,by simp⟩;unfold ZaF;split
 ·exact G
 split
 ·exact G
 exact⟨A.book,A.runs,by show(t.waits.set _ _).length<=_;rw[bP];exact A.waits,A.delays,A.bys⟩
theorem ZyO (t:Zb) (dl wt mn:Int) (l:List Int) (h0:Zrt t) (h1:I64 dl) (h2:I64 wt) (h3:I64 mn) (h4:(l.length:Int)<=9223372036854775807):
  SC (λ_=>aB) 7 [Zf t,.int .i64 λ_=>dl,.int .i64 λ_=>wt,.int .i64 λ_=>mn,lst 1 QO 0 l] [.main] λr _=>r= .bool λ_=>true:=by
 obtain⟨Y,O⟩:=Zm;have ak:=ZyM t h0;refine Qq Tryz.func7 (body:=Zj Tryz.f7) rfl (by decide+kernel) ?_;unfold Zf at*;simp only[Za O]at*;refine wS ?_;refine ZN (ak) (by first|rfl|(simp only[Ze,Zd,Zf,Zc,Za O];rfl)) λr H G=>?_;(try simp only[Ze,Zd,Zf,Zc,Za O]at G);obtain⟨b,rfl,hb,rfl⟩:=G;cases b with
 |true=>
  refine wS ?_;refine Br.isT rfl ?_;refine wS ?_;refine cL1 [0] (Zxy) λr H G=>?_;(try simp only[Ze,Zd,Zf,Zc,Za O]at G);obtain⟨rfl,rfl⟩:=G;exact zW
 |false=>
  have ao:=hb rfl;refine wS ?_;refine Br.isF rfl ?_;refine wS ?_;refine ZN (c14 l h4) (by first|rfl|(simp only[Ze,Zd,Zf,Zc,Za O];rfl)) λr H G=>?_;(try simp only[Ze,Zd,Zf,Zc,Za O]at G);obtain⟨s,rfl,rfl⟩:=G;refine wS ?_;refine cL1 [2] (ZyL s 4 4 2 (by omega) (by omega) (by omega)) λr H G=>?_;(try simp only[Ze,Zd,Zf,Zc,Za O]at G);obtain⟨m,s',hm,rfl,rfl⟩:=G;have he:=hm.1.begin;have aq:=hm.2.1;have au:=hm.2.2.1;have bh:=hm.2.2.2;have ae:=Zr1 he;refine wS ?_;refine cL1 [2] (c17 s' ((m.delays.length:Int)-1) (by omega)) λr H G=>?_;(try simp only[Ze,Zd,Zf,Zc,Za O]at G);obtain⟨r1,s1,bc,rfl,rfl⟩:=G;refine wS ?_;refine cL1 [2] (c17 s1 ((m.waits.length:Int)-1) (by omega)) λr H G=>?_;(try simp only[Ze,Zd,Zf,Zc,Za O]at G);obtain⟨r2,s2,ar,rfl,rfl⟩:=G;refine wS ?_;refine cL1 [2] (c17 s2 60 (by omega)) λr H G=>?_;(try simp only[Ze,Zd,Zf,Zc,Za O]at G);obtain⟨r3,s3,bg,rfl,rfl⟩:=G;obtain⟨Z,aa⟩:∃Z:List Zb,Z=[t,m,m]:=⟨_,rfl⟩;obtain⟨DS,ab⟩:∃DS:List Int,DS=[dl,r1,dl]:=⟨_,rfl⟩;obtain⟨WS,ah⟩:∃WS:List Int,WS=[wt,r2,wt]:=⟨_,rfl⟩;obtain⟨MS,ac⟩:∃MS:List Int,MS=[mn,r3,mn]:=⟨_,rfl⟩;have az:Z.length=3:=by rw[aa];rfl
  have a9:DS.length=3:=by rw[ab];rfl
  have aw:WS.length=3:=by rw[ah];rfl
  have ba:MS.length=3:=by rw[ac];rfl
  have aj:∀x∈Z,Qe x:=by
   intro x V;rw[aa]at V;simp only[List.mem_cons,List.not_mem_nil,or_false]at V;rcases V with rfl|rfl|rfl
   ·exact ao.fit
   ·exact ae
   exact ae
  refine wS ?_;refine ZG false false [] [13,14,15,16,17] [] (λ(i:Nat)=>[(13,.isl 8 (λ_=>(Z.length:Int)) (λe=>Zq0 Y (Y Zb default Z (e ()))) .none),(14,.isl 1 (λ_=>(DS.length:Int)) (λe=>QO (Y Int 0 DS (e ()))) .none),(15,.isl 1 (λ_=>(WS.length:Int)) (λe=>QO (Y Int 0 WS (e ()))) .none),(16,.isl 1 (λ_=>(MS.length:Int)) (λe=>QO (Y Int 0 MS (e ()))) .none),(17,.int .i64 λ_=>(i:Int))]) (λ_=>[]) (λi=>i<=3) (λi=>3-i+0) 0 (aT _) ?_ ?_
  ·(refine To.of [] ?_;cbv;(try simp only[nc]);(repeat' first|exact xT|refine⟨?_,?_⟩|refine ZK.cells ?_|refine Zz.agg ?_|refine Zz.tup ?_);all_goals try exact XU)
   ·subst aa;refine Zjb O (Zq0 Y) default _ _ rfl λi hi=>?_;match i,hi with
    |0,_=>exact .refl _
    |1,_=>exact .refl _
    |2,_=>exact .refl _
    |i+3,hi=>exact absurd hi (by show¬i+3<3;omega)
   ·subst ab;exact lit_nt O QO 0 [dl,r1,dl] _ rfl
   ·subst ah;exact lit_nt O QO 0 [wt,r2,wt] _ rfl
   subst ac;exact lit_nt O QO 0 [mn,r3,mn] _ rfl
  intro i hi;have hi:i<=3:=hi;clear aa ab ah ac;refine wS ?_;refine⟨λai=>?_,λai=>?_⟩
  ·have ai:=iW ai;have V:=aj _ (Qr (d:=default) O (l:=Z) (i:=i) (by omega));refine vS ?_;generalize J:Y Zb default Z (i:Int)=x at*;generalize U:Y Int 0 DS (i:Int)=d at*;generalize I:Y Int 0 WS (i:Int)=w at*;generalize S:Y Int 0 MS (i:Int)=n at*;have kc:=Zxx x V;have k1:=Zxv x d V;have k2:=ZyI x d V;have k3:=ZyH x w n V;have k4:=ZyG x w n V;have k5:=Zxu x w V Zxm;have k6:=ZyF x w V;have am:(X8 x d).1.length<=1000000000:=by
    unfold X8;split
    ·exact aT _
    split
    ·exact aT _
    unfold Zce;rw[List.length_map];exact Nat.le_trans (List.length_filter_le _ _) (by rw[List.length_range];decide)
   have k7:=c39 (X8 x d).1 (X8 x d).1 am;simp only[decide_true]at k7;have k8:=Zxw (ZaF x w n).1 (ZoI V w n);have k9:=Zxw x V;generalize X8 x d=A at*;generalize ZaF x w n=B at*;generalize XH x w=C at*;clear aj;unfold Zf at kc k1 k2 k3 k4 k5 k6 k8 k9;simp only[Za O]at kc k1 k2 k3 k4 k5 k6 k7 k8 k9;refine Chk.mk (ZH) ?_;refine Zri (kc) ?_;refine vS ?_;try simp only[J,U,I,S]
   try refine Chk.mk (ZH) ?_
   refine Zri (k1) ?_;refine vS ?_;try simp only[J,U,I,S]
   try refine Chk.mk (ZH) ?_
   refine Zri (k2) ?_;refine vS ?_;try simp only[J,U,I,S]
   try refine Chk.mk (ZH) ?_
   repeat' (first|refine Zlg.mk ?_ ?_|refine Chk.mk (ZH) ?_|simp only[I,S]|simp only[J]|(refine ZN k3 (by first|rfl|(simp only[Ze,Zd,Zf,Zc,Za O];rfl)) λr H G=>?_;obtain⟨rfl,rfl⟩:=G;refine vS ?_)|(refine ZN k4 (by first|rfl|(simp only[Ze,Zd,Zf,Zc,Za O];rfl)) λr H G=>?_;obtain⟨rfl,rfl⟩:=G;refine vS ?_))
   all_goals
    refine cL1 [0] (k5) λr H G=>?_;(try simp only[Ze,Zd,Zf,Zc,Za O]at G);obtain⟨rfl,rfl⟩:=G;refine vS ?_;try simp only[J,U,I,S]
    try refine Chk.mk (ZH) ?_
    refine Zri (k6) ?_;refine vS ?_;try simp only[J,U,I,S]
    try refine Chk.mk (ZH) ?_
    refine Br.isT (by simp) ?_;refine vS ?_;try simp only[J,U,I,S]
    try refine Chk.mk (ZH) ?_
    refine Zri (k7) ?_;refine vS ?_;try simp only[J,U,I,S]
    try refine Chk.mk (ZH) ?_
    refine Br.isT (by simp) ?_;refine vS ?_;try simp only[J,U,I,S]
    try refine Chk.mk (ZH) ?_
    refine Zri (k8) ?_;refine vS ?_;try simp only[J,U,I,S]
    try refine Chk.mk (ZH) ?_
    refine Br.isT (by simp) ?_;refine vS ?_;try simp only[J,U,I,S]
    try refine Chk.mk (ZH) ?_
    refine Zri (k9) ?_;refine vS ?_;try simp only[J,U,I,S]
    try refine Chk.mk (ZH) ?_
    refine Br.isF (by simp) ?_;refine wS ?_;refine⟨i+1,by show i+1<=3;omega,by show 3-(i+1)+0<3-i+0;omega,?_⟩;exact ZB
  refine wS ?_;refine cL1 [0] (Zxy) λr H G=>?_;(try simp only[Ze,Zd,Zf,Zc,Za O]at G);obtain⟨rfl,rfl⟩:=G;exact zW
end Vm
end Go.Proofs.YtjgpiclllehgmaaGreat
