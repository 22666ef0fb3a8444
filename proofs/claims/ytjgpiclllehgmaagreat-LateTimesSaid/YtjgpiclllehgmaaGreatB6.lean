/- Lemmas. -/
import Derived.Test.YtjgpiclllehgmaaGreatB5
import Derived.Test.YtjgpiclllehgmaaGreatB4
import Derived.Test.YtjgpiclllehgmaaGreatB3
import Derived.Test.YtjgpiclllehgmaaGreatB2
import Derived.Test.YtjgpiclllehgmaaGreatB1
import Derived.Test.YtjgpiclllehgmaaGreatB0
set_option linter.all false
open Array renaming getD_eq_getD_getElem?->aI,getElem?_eq_getElem->aY,getElem?_push->bK,getElem?_setIfInBounds_ne->aF
open Bool renaming false_eq_true->aX,false_ne_true->aS,false_or->cC,or_false->eN,true_or->cT
open Go.Frame renaming enter->dM
open Int renaming le_refl->bT,toNat_natCast->aV
open List.cons renaming injEq->cB
open List renaming drop_eq_nil_of_le->bB,filter->gL,filter_append->gY,getD_eq_getElem?_getD->aA,getElem?_eq_getElem->aD,getElem?_set_ne->cR,getElem_mem->bM,length_append->bf,length_take->bX,lookup->eV,map->eM,map_append->dD,mem_cons->bG,not_mem_nil->dS,range->aR,take_length->eW
open Nat renaming le_refl->aJ,le_trans->cF,not_lt_zero->fe,zero_le->aW
open Prod renaming fst->gt
open Go.Result renaming andThen_ok->aH
open Go.Sem renaming run_bind->aP
open Go.Proofs.Tryz renaming prog->aB
open Go.World renaming cell?->bU
namespace Go.Proofs.YtjgpiclllehgmaaGreat
namespace Sp
open Vm
theorem Zom {t:Zb} (G:Zr t=0):∀w∈t.waits,w.feeder≠w.train:=fun w hw=>by
 obtain⟨p,A⟩:=LOk.mem (Zfc G).2.2.2.1 hw;unfold Qd at A;split at A
 ·cases A
 split at A
 ·cases A
 assumption
end Sp
namespace Vm
attribute [local irreducible] Dn
open Go Go.Proofs Sp
set_option maxRecDepth 100000
set_option maxHeartbeats 4000000
theorem Zks {f:FuncId} {xs I:List AV} {h:List Zh} {A Q:AV->List Zh->Prop} {B:Prop} (H:SC (fun _=>aB) f I [] Q) (k:B) (t:SC (fun _=>aB) f I [] Q->HdW B->SC (fun _=>aB) f xs h A:=by intro J hW;refine ZL J (by first|rfl|(simp only[Ze,Zd,Zf,Zc,Qa,Xl,encSp,Za O];rfl)) fun r S G=>?_;(try simp only[Ze,Zd,Zf,Zc,Qa,Xl,encSp,Za O]at G);obtain⟨rfl,rfl⟩:=G;exact hW.out):SC (fun _=>aB) f xs h A:=t H ⟨k⟩
theorem ZmW {t:Zb} (A:QC t) (h:Zr t=0):SC (fun _=>aB) 85 [Zf t] [] fun v h=>v=lst 3 Xl default (QK t)/\h=[]:=ZxM t A.book (Yo h) (Zom h) A.runs fun d G=>((Yo h).d d G).2.1
theorem ZwI (x:Sp.Yc) (n:Int) (b:Bool):SC (fun _=>aB) 86 [.agg (encSp x),.int .i64 fun _=>n,.bool fun _=>b] [] fun v h=>v= .agg (encSp (ZbR x n b))/\h=[]:=by
 refine SC.less (QN Tryz.func86 (body:=Zj Tryz.f86) rfl (by decide+kernel) ?_);unfold encSp ZbR;cases b with
 |true=>
  refine wS ?_;refine Br.isT rfl ?_;refine wS ?_;refine⟨_,[],?_,rfl,rfl⟩;exact ZF
 |false=>
  have A:min x.fr n=if n<x.fr then n else x.fr:=by split<;>omega
  have G:max x.to_ n=if x.to_<n then n else x.to_:=by split<;>omega
  rw[A,G];refine wS ?_;refine Br.isF rfl ?_;refine wS ?_;refine⟨_,[],?_,rfl,rfl⟩;exact ZF
theorem Zsh {A:(α:Type)->α->List α->Int->α} (O:∀(α:Type) (d:α) (l:List α) (i:Int),A α d l i=l.getD i.toNat d) {α:Type} {d v:α} {l:List α} {j x:Nat} (G:j<l.length):A α d (l.set j v) (x:Int)=if(x:Int)=j then v else A α d l (x:Int):=by
 rw[O,O,aV];by_cases h:x=j
 ·subst h;rw[if_pos rfl];exact Zcd _ _ _ _ G
 rw[if_neg (by omega)];exact Zak _ _ _ _ _ (by omega)
theorem ZfD {n k:Nat} {A:(α:Type)->α->List α->Int->α} (O:∀(α:Type) (d:α) (l:List α) (i:Int),A α d l i=l.getD i.toNat d) {L G:List Sp.Yc} {j:Nat} {v:Sp.Yc} {N:Unit->Int} (h:L.set j v=G) (H:j<L.length):
  ZG n k (.gar 2 N fun e=>encSp ⟨bif decide (e ()=(j:Int))then v.fr else(A Sp.Yc default L (e ())).fr,bif decide (e ()=(j:Int))then v.to_ else(A Sp.Yc default L (e ())).to_⟩) (.gar 2 N fun e=>encSp (A Sp.Yc default G (e ()))):=by
 refine .gar rfl fun x _=>?_;refine congrArg encSp ?_;rw[<-h,Zsh O H];show Sp.Yc.mk (bif decide ((x:Int)=(j:Int))then _ else _) (bif decide ((x:Int)=(j:Int))then _ else _)=_;by_cases hx:(x:Int)=j
 ·rw[if_pos hx,decide_eq_true hx];rfl
 rw[if_neg hx,decide_eq_false hx];rfl
theorem ZxY (t:Zb) (run:Int) (hf:QC t):SC (fun _=>aB) 23 [Zf t,.int .i64 fun _=>run] [] fun v h=>
  v= .tup [lst 2 encSp default (if Qy t run=0 then Zaa t run else []),lst 2 encSp default (if Qy t run=0 then Zcc t run else []),.int .i64 fun _=>Qy t run]/\h=[]:=by
 obtain⟨A,O⟩:=Zo;refine SC.less (Zu3 false [16] [] Tryz.func23 (body:=Zj Tryz.f23) rfl (by decide+kernel) ?_);have k1:=Zvd t hf;have k2:=Zi4 run 0 ((t.runs.length:Int)-1);have aw:=hf.runs;generalize H:Qy t run=e;unfold Qy at H;by_cases hbe:Zr t=0
 ·have hw:=Yo hbe;have aj:¬(Zr t≠0):=fun h=>h hbe;rw[if_neg aj]at H;have k3:=ZmW hf hbe;rw[hbe]at k1;cases ho:QG run 0 ((t.runs.length:Int)-1)with
  |true=>
   rw[ho,if_pos rfl]at H;rw[ho]at k2;subst H;unfold Zf at*;simp only[Za O]at*;refine wS ?_;refine Zks (k1) ?_;refine wS ?_;refine Br.isF rfl ?_;refine wS ?_;refine Zks (k2) ?_;refine wS ?_;refine Br.isT rfl ?_;refine wS ?_;refine⟨_,[],?_,rfl,rfl⟩;exact ZF
  |false=>
   rw[ho,if_neg aS]at H;rw[ho]at k2;subst H;rw[if_pos rfl,if_pos rfl];have hb:=QE ho;have ap:t.runs.length=(callsOf t).length:=by unfold callsOf;rw[List.length_map]
   obtain⟨r,rfl⟩:∃r:Nat,run=r:=⟨run.toNat,by omega⟩
   have aq:=hw.calls.row (Sp.Zl (callsOf t) r) (by
    unfold Sp.Zl;rw[aA,aD (by omega)]
    exact bM _)
   have au:=Zgr hw;have ar:=ZjO hw.dlen fun d hd=>(hw.d d hd).2.1;have az:=ZfI t;have ac:=fun(n j:Nat) (Z:n<manyT t) (h2:j<(Sp.Zl (callsOf t) r).length)=>Zoi O Z (r:=r) (a:=j) (t:=t) ⟨by omega,by omega,by omega,by omega⟩;have U:∀i j:Nat,i<manyT t->j<(Sp.Zl (callsOf t) r).length->A Int 0 (A (List Int) [] (A WorldL default (QK t) (i:Int)).come r) (j:Int)=YU t r (2*j+0) i:=fun i j Z h2=>by
    simp only[O,aV];exact ZkQ Z (by omega) h2
   have ab:∀i j:Nat,i<manyT t->j<(Sp.Zl (callsOf t) r).length->A Int 0 (A (List Int) [] (A WorldL default (QK t) (i:Int)).go r) (j:Int)=YU t r (2*j+1) i:=fun i j Z h2=>by
    simp only[O,aV];exact Zoj Z (by omega) h2
   have aa:∀p i k:Nat,k<(Sp.Zl (callsOf t) r).length->(Zav t r p (Sp.Zl (callsOf t) r).length i k).set k (ZbR (A Sp.Yc default (Zav t r p (Sp.Zl (callsOf t) r).length i k) (k:Int)) (YU t r (2*k+p) i) ((i:Int)==0))=Zav t r p (Sp.Zl (callsOf t) r).length i (k+1):=fun p i k h=>by
    rw[show((i:Int)==0)=(i==0) by rw[Bool.eq_iff_iff,beq_iff_eq,beq_iff_eq];omega,O,aV];exact Znt h
   have ae:∀p j:Nat,j<(Sp.Zl (callsOf t) r).length->A Sp.Yc default (Zav t r p (Sp.Zl (callsOf t) r).length 0 0) (j:Int)=⟨0,0⟩:=fun p j h=>by
    rw[O,aV,ZjM h,if_neg (by omega)];rfl
   have G:=fun(p i k:Nat)=> @ZdF t r p (Sp.Zl (callsOf t) r).length i k;have V:=fun(p i:Nat)=> @Zqd t r p (Sp.Zl (callsOf t) r).length i;have ai:=Zlp t r;have ah:=Znu t r;generalize (Sp.Zl (callsOf t) r).length=n at*;generalize Zav t r=I at*;generalize YU t r=VT at*;generalize Zaa t r=CL at*;generalize Zcc t r=GL at*;generalize QK t=W at*;generalize manyT t=M at*;have am:CL.length=n:=by rw[<-ai,G]
   have al:GL.length=n:=by rw[<-ah,G]
   unfold Zf at*;simp only[Za O,Zkg O]at*;refine wS ?_;refine Zks (k1) ?_;refine wS ?_;refine Br.isF rfl ?_;refine wS ?_;refine Zks (k2) ?_;refine wS ?_;refine Br.isF rfl ?_;refine wS ?_;refine Zks (k3) ?_;have w0:=(ac 0 0 (by omega) (by omega)).1;rw[show((0:Nat):Int)=0 from rfl]at w0;refine vS ?_;simp only[w0.2.1];refine Chk.mk (ZE) ?_;refine Zjh.mk ?_ ?_;all_goals refine Chk.mk (ZE) ?_
   case' refine_1=>obtain⟨p,q,hp,hq⟩:∃p q:Nat,p=0/\q=1:=⟨_,_,rfl,rfl⟩
   case' refine_2=>obtain⟨p,q,hp,hq⟩:∃p q:Nat,p=1/\q=0:=⟨_,_,rfl,rfl⟩
   all_goals
    refine ZnS false false [] 50 [10,11] (fun _:Unit=>[(10,.isl 2 (fun _=>(CL.length:Int)) (fun e=>encSp (A Sp.Yc default CL (e ()))) .none),(11,.isl 2 (fun _=>(GL.length:Int)) (fun e=>encSp (A Sp.Yc default GL (e ()))) .none)]) (fun _=>[(1,.dead),(2,.dead)]) (fun _=>True) (fun _ _ h=>h) (by decide) ?_ (fun _ _=>?_);rotate_left
    ·refine wS ?_;refine⟨_,[],?_,rfl,rfl⟩;exact ZF
    refine wS ?_;refine Zgs false [] [1,8,9,10,11,12] [] (fun(i:Nat)=>[(12,.int .i64 fun _=>(i:Int))]) (fun i=>[(1,.gar 2 (fun _=>(n:Int)) (fun e=>encSp (A Sp.Yc default (I p n i 0) (e ())))),(2,.gar 2 (fun _=>(n:Int)) (fun e=>encSp (A Sp.Yc default (I q n i 0) (e ()))))]) (fun i=>i<=M) (fun i=>M-i+0) 0 (aW _) ?_ ?_
    ·refine ZoM ?_ ?_
     ·exact .gar rfl fun x hx=>by
       have hx:(x:Int)<(n:Int):=hx;rw[ae p x (by omega)];rfl
     exact .gar rfl fun x hx=>by
      have hx:(x:Int)<(n:Int):=hx;rw[ae q x (by omega)];rfl
    intro i hi;have hi:i<=M:=hi;refine wS ?_;refine⟨fun S=>?_,fun S=>?_⟩
    ·have S:=of_decide_eq_true S;refine wS ?_;refine XX fun Q hQ=>?_;refine Zgs false [] [1,8,9,10,11,12,13] [] (fun(k:Nat)=>[(13,.int .i64 fun _=>(k:Int))]) (fun k=>[(1,.gar 2 (fun _=>(n:Int)) (fun e=>encSp (A Sp.Yc default (I p n i k) (e ())))),(2,.gar 2 (fun _=>(n:Int)) (fun e=>encSp (A Sp.Yc default (I q n i k) (e ()))))]) (fun k=>k<=n) (fun k=>n-k+0) 0 (aW _) ?_ ?_
     ·exact ZF
     intro k hk;have hk:k<=n:=hk;refine wS ?_;refine⟨fun J=>?_,fun J=>?_⟩
     ·have J:=of_decide_eq_true J;have w:=ac i k (by omega) (by omega);have wa:=w.1.1;have wb:=w.1.2.1;have wc:=w.2.2.1;have wd:=w.2.2.2.1;have s1:=aa 0 i k (by omega);have s2:=aa 1 i k (by omega);rw[<-U i k (by omega) (by omega)]at s1;rw[<-ab i k (by omega) (by omega)]at s2;have l1:=G 0 i k;have l2:=G 1 i k;have c1:=ZwI (A Sp.Yc default (I 0 n i k) (k:Int)) (A Int 0 (A (List Int) [] (A WorldL default W (i:Int)).come (r:Int)) (k:Int)) ((i:Int)==0);have c2:=ZwI (A Sp.Yc default (I 1 n i k) (k:Int)) (A Int 0 (A (List Int) [] (A WorldL default W (i:Int)).go (r:Int)) (k:Int)) ((i:Int)==0);generalize ZbR (A Sp.Yc default (I 0 n i k) (k:Int)) (A Int 0 (A (List Int) [] (A WorldL default W (i:Int)).come (r:Int)) (k:Int)) ((i:Int)==0)=X at*;generalize ZbR (A Sp.Yc default (I 1 n i k) (k:Int)) (A Int 0 (A (List Int) [] (A WorldL default W (i:Int)).go (r:Int)) (k:Int)) ((i:Int)==0)=Y at*;subst hp hq;clear aa ae U ab ac G V w;refine vS ?_;refine Chk.mk (ZE) ?_;refine Zks (c1) ?_;refine vS ?_;try refine Chk.mk (ZE) ?_
      refine Zks (c2) ?_;refine vS ?_;try refine Chk.mk (ZE) ?_
      refine⟨k+1,by show k+1<=n;omega,by show n-(k+1)+0<n-k+0;omega,?_⟩;refine ZoM ?_ ?_
      ·first|exact ZfD O s1 (by omega)|exact ZfD O s2 (by omega)
      first|exact ZfD O s1 (by omega)|exact ZfD O s2 (by omega)
     have ao:k=n:=by have:=of_decide_eq_false J;omega
     subst ao;rw[V p i,V q i];refine wS ?_;refine hQ _ _ _ ?_;refine wS ?_;refine⟨i+1,by show i+1<=M;omega,by show M-(i+1)+0<M-i+0;omega,?_⟩;exact ZF
    have ak:i=M:=by have:=of_decide_eq_false S;omega
    subst ak;refine wS ?_;refine⟨(),trivial,?_⟩;refine(To.froze (id:=1) rfl).trans ((To.froze (id:=2) rfl).trans ((To.rsv _ _).trans ?_));subst hp hq;rw[ai,ah];(refine To.of [] ?_;cbv;(try simp only[nc]);(repeat' (first|exact trivial|exact Zy.refl _|exact ZG.refl _|refine⟨?_,?_⟩|refine ZG.cells ?_|refine Zy.agg ?_|refine Zy.tup ?_));(all_goals (first|exact XQ|skip)))
    ·exact .gd rfl (.none (by show(n:Int)=CL.length;rw[am]) fun _ _=>rfl)
    ·exact .gd rfl (.none (by show(n:Int)=GL.length;rw[al]) fun _ _=>rfl)
    ·exact .dead
    exact .dead
 rw[if_pos hbe]at H;subst H;rw[if_neg hbe,if_neg hbe];generalize Zr t=e at*;unfold Zf at*;simp only[Za O]at*;refine wS ?_;refine Zks (k1) ?_;refine wS ?_;refine Br.isT (by simpa using hbe) ?_;refine wS ?_;refine⟨_,[],?_,rfl,rfl⟩;exact ZF
theorem ZxR (b:Xs) (hf:Zrl b):SC (fun _=>aB) 68 [Zd b] [] fun v h=>v= .bool (fun _=>Zgx b)/\h=[]:=by
 obtain⟨V,O⟩:=Zo;obtain⟨hz,ho,hn,hc,hs⟩:=hf;unfold Zgx;have e1:decide (20<b.zones.length)=decide ((20:Int)<(b.zones.length:Int)):=decide_eq_decide.2 (by omega);have e2:decide (20<b.old.length)=decide ((20:Int)<(b.old.length:Int)):=decide_eq_decide.2 (by omega);have e3:decide (20<b.new.length)=decide ((20:Int)<(b.new.length:Int)):=decide_eq_decide.2 (by omega);rw[e1,e2,e3];clear e1 e2 e3;generalize I:(decide ((20:Int)<(b.zones.length:Int))||decide ((20:Int)<(b.old.length:Int))||decide ((20:Int)<(b.new.length:Int))||b.zones.any (fun z=>decide (20<z.chs.length))||(b.old++b.new).any (fun t=>decide (20<t.stops.length)))=E;refine QN Tryz.func68 (body:=Zj Tryz.f68) rfl (by decide+kernel) ?_;unfold Zd at*;simp only[Za O]at*;refine wS ?_;refine⟨fun U=>?_,fun U=>?_⟩
 ·have aa:E=true:=by
   rw[<-I];revert U;cases decide ((20:Int)<(b.zones.length:Int))<;>cases decide ((20:Int)<(b.old.length:Int))<;>cases decide ((20:Int)<(b.new.length:Int))<;>simp
  rw[aa];(cbv;(try simp only[nc]at*);(try refine Chk.mk (ZE) ?_));(try first|exact⟨rfl,trivial⟩|exact⟨trivial,trivial⟩)
 have ac:¬(20:Int)<(b.zones.length:Int)/\¬(20:Int)<(b.old.length:Int)/\¬(20:Int)<(b.new.length:Int):=by
  simp only[<-decide_eq_false_iff_not];revert U;cases decide ((20:Int)<(b.zones.length:Int))<;>cases decide ((20:Int)<(b.old.length:Int))<;>cases decide ((20:Int)<(b.new.length:Int))<;>simp
 obtain⟨g1,g2,g3⟩:=ac;clear U;rw[decide_eq_false g1,decide_eq_false g2,decide_eq_false g3,cC,cC,cC]at I;generalize ae:b.zones.any (fun z=>decide (20<z.chs.length))=A1 at*;generalize ab:(b.old++b.new).any (fun t=>decide (20<t.stops.length))=A2 at*;refine wS ?_;refine XX fun Q Z=>?_;refine ZJ false false [] [1,3] [] (fun(i:Nat)=>[(3,.int .i64 fun _=>(i:Int))]) (fun _=>[]) (fun i=>i<=b.zones.length/\(b.zones.drop i).any (fun z=>decide (20<z.chs.length))=A1) (fun i=>b.zones.length-i+0) 0 ⟨aW _,by simpa using ae⟩ ?_ ?_
 ·exact ZF
 rintro i ⟨hi,G⟩;refine wS ?_;refine⟨fun J=>?_,fun J=>?_⟩
 ·simp only[decide_eq_true_eq]at J;have S:i<b.zones.length:=by omega
  rw[ZkB (d:=default) O S]at G;refine vS ?_;generalize V Zone default b.zones (i:Int)=z at*;refine Chk.mk (ZE) ?_;refine⟨fun H=>?_,fun H=>?_⟩
  ·have H:20<z.chs.length:=by have Y:(20:Int)<(z.chs.length:Int):=of_decide_eq_true H;omega
   rw[decide_eq_true H,cT]at G;subst G;rw[cT]at I;subst I;refine wS ?_;refine Z _ _ _ ?_;(cbv;(try simp only[nc]at*);(try refine Chk.mk (ZE) ?_));(try first|exact⟨rfl,trivial⟩|exact⟨trivial,trivial⟩)
  have H:¬20<z.chs.length:=by have Y:¬(20:Int)<(z.chs.length:Int):=of_decide_eq_false H;omega
  rw[decide_eq_false H,cC]at G;refine wS ?_;refine⟨i+1,⟨by omega,G⟩,by show b.zones.length-(i+1)+0<b.zones.length-i+0;omega,?_⟩;exact ZF
 simp only[decide_eq_false_iff_not]at J;rw[bB (by omega)]at G;have G:A1=false:=G.symm;rw[G,cC]at I;refine wS ?_;refine Z _ _ _ ?_;clear Z;refine wS ?_;have ah:(b.old++b.new).length<=40:=by rw[bf];omega
 refine ZJ false false [] [4,5] [] (fun(i:Nat)=>[(4,.isl 3 (fun _=>((b.old++b.new).length:Int)) (fun e=>encTrain (V Train default (b.old++b.new) (e ()))) .none),(5,.int .i64 fun _=>(i:Int))]) (fun _=>[]) (fun i=>i<=(b.old++b.new).length/\((b.old++b.new).drop i).any (fun t=>decide (20<t.stops.length))=A2) (fun i=>(b.old++b.new).length-i+0) 0 ⟨aW _,by simpa using ab⟩ ?_ ?_
 ·refine toR ?_;exact Zvq O rfl (by simp) (by simp)
 generalize b.old++b.new=A at*;rintro i ⟨hi,G⟩;refine wS ?_;refine⟨fun J=>?_,fun J=>?_⟩
 ·simp only[decide_eq_true_eq]at J;have S:i<A.length:=by omega
  rw[ZkB (d:=default) O S]at G;refine vS ?_;generalize V Train default A (i:Int)=t at*;refine Chk.mk (ZE) ?_;refine⟨fun H=>?_,fun H=>?_⟩
  ·have H:20<t.stops.length:=by have Y:(20:Int)<(t.stops.length:Int):=of_decide_eq_true H;omega
   rw[decide_eq_true H,cT]at G;rw[<-G]at I;subst I;(cbv;(try simp only[nc]at*);(try refine Chk.mk (ZE) ?_));(try first|exact⟨rfl,trivial⟩|exact⟨trivial,trivial⟩)
  have H:¬20<t.stops.length:=by have Y:¬(20:Int)<(t.stops.length:Int):=of_decide_eq_false H;omega
  rw[decide_eq_false H,cC]at G;refine wS ?_;refine⟨i+1,⟨by omega,G⟩,by show A.length-(i+1)+0<A.length-i+0;omega,?_⟩;exact ZF
 simp only[decide_eq_false_iff_not]at J;rw[bB (by omega)]at G;rw[<-G]at I;have I:E=false:=I.symm;subst I;(cbv;(try simp only[nc]at*);(try refine Chk.mk (ZE) ?_));(try first|exact⟨rfl,trivial⟩|exact⟨trivial,trivial⟩)
structure ZkM (t:Zb):Prop where
 fit:QC t
 runs:t.runs.length<=20
 waits:t.waits.length<=20
 delays:t.delays.length<=20
 bys:∀d∈t.delays,d.by_.length<=20
theorem Zx0 (t:Zb) (hi:Zq8 t):SC (fun _=>aB) 16 [Zf t] [] fun v h=>∃b:Bool,v= .bool (fun _=>b)/\(b=false->ZkM t)/\h=[]:=by
 obtain⟨nt,O⟩:=Zo;have k1:=ZxR t.book hi.book;have Y:=fun h=>Zvd t h;have H:= @ZnA t.book;obtain⟨ae,hr,hw,G,ab⟩:=hi;refine QN Tryz.func16 (body:=Zj Tryz.f16) rfl (by decide+kernel) ?_;generalize hB:Zgx t.book=B at*;generalize Z:decide ((20:Int)<(t.runs.length:Int))=R;generalize hW:decide ((20:Int)<(t.waits.length:Int))=W;generalize U:decide ((20:Int)<(t.delays.length:Int))=D;have A:(B=true\/R=true\/W=true\/D=true)\/(B=false/\R=false/\W=false/\D=false):=by cases B<;>cases R<;>cases W<;>cases D<;>simp
 unfold Zf Zd at*;simp only[Za O,Zq]at*;refine wS ?_;refine ZL (k1) (by first|rfl|(simp only[Ze,Zd,Zf,Zc,Zq,Za O];rfl)) fun r aa J=>?_;(try simp only[Ze,Zd,Zf,Zc,Zq,Za O]at J);obtain⟨rfl,rfl⟩:=J;refine vS ?_;simp only[Z,hW,U];refine Chk.mk (ZE) ?_;rcases A with A|A
 ·refine Br.isT (by revert A;cases B<;>cases R<;>cases W<;>cases D<;>simp) ?_;refine wS ?_;exact⟨true,rfl,(fun h=>nomatch h),trivial⟩
 refine Br.isF (by rw[A.1,A.2.1,A.2.2.1,A.2.2.2];rfl) ?_;have hr:¬20<(t.runs.length:Int):=of_decide_eq_false (Z.trans A.2.1);have hw:¬20<(t.waits.length:Int):=of_decide_eq_false (hW.trans A.2.2.1);have G:¬20<(t.delays.length:Int):=of_decide_eq_false (U.trans A.2.2.2);have H:=(H A.1).1;clear A Z hW U hB;refine wS ?_;refine XX fun Q hQ=>?_;refine ZJ false false [] [1,3,4] [] (fun(⟨i,n⟩:Nat×Int)=>[(3,.int .i64 fun _=>n),(4,.int .i64 fun _=>(i:Int))]) (fun _=>[]) (fun⟨i,n⟩=>i<=t.delays.length/\(0<=n/\n<=100)/\∀d∈t.delays.take i,d.by_.length<=20) (fun i=>t.delays.length-i.1+0) (0,1) ⟨aW _,⟨by decide,by decide⟩,fun d G=>by simp at G⟩ ?_ ?_
 ·exact ZF
 intro ⟨i,n⟩ hi;have ah:=hi.1;have hn:=hi.2.1;refine wS ?_;refine⟨fun I=>?_,fun I=>?_⟩
 ·have I:=of_decide_eq_true I;have ac:=XW (d:=default) O (l:=t.delays) (i:=i) (by omega);have ai:=ab _ (Qu (d:=default) O (l:=t.delays) (i:=i) (by omega));generalize hx:nt ZP default t.delays i=x at*;refine vS ?_;try simp only[hx]
  try refine Chk.mk (ZE) ?_
  refine⟨fun h1=>?_,fun h1=>?_⟩
  ·refine wS ?_;refine hQ _ _ _ ?_;refine wS ?_;exact⟨true,rfl,(fun h=>nomatch h),trivial⟩
  have h1:¬20<(x.by_.length:Int):=of_decide_eq_false h1;refine vS ?_;simp only[hx];have hM:1<=(if 1<(x.by_.length:Int)then(x.by_.length:Int)else 1)/\(if 1<(x.by_.length:Int)then(x.by_.length:Int)else 1)<=20:=by split<;>omega
  have h5:0<=n*(if 1<(x.by_.length:Int)then(x.by_.length:Int)else 1):=Int.mul_nonneg hn.1 (by omega);have h6:n*(if 1<(x.by_.length:Int)then(x.by_.length:Int)else 1)<=100*20:=Int.mul_le_mul hn.2 hM.2 (by omega) (by omega);clear hM;refine Chk.mk (ZE) ?_;generalize n*(if 1<(x.by_.length:Int)then(x.by_.length:Int)else 1)=P at*;refine⟨(i+1,min 100 P),⟨by omega,⟨by omega,by omega⟩,fun d G=>?_⟩,by show t.delays.length-(i+1)+0<t.delays.length-i+0;omega,?_⟩
  ·rw[ac]at G;rcases List.mem_append.1 G with G|G
   ·exact hi.2.2 d G
   rw[List.mem_singleton.1 G];omega
  exact ZF
 have I:=of_decide_eq_false I;have S:∀d∈t.delays,d.by_.length<=20:=fun d G=>hi.2.2 d (by rw[List.take_of_length_le (by omega)];exact G);have V:ZkM t:=⟨⟨H,by omega,by omega,by omega,fun d G=>by have:=S d G;omega⟩,by omega,by omega,by omega,S⟩;have Y:=Y V.fit;clear hi;refine wS ?_;refine hQ _ _ _ ?_;clear hQ;refine vS ?_;refine⟨fun h=>?_,fun h=>?_⟩
 ·have h:=of_decide_eq_true h;refine wS ?_;refine ZL (Y) (by first|rfl|(simp only[Ze,Zd,Zf,Zc,Zq,Za O];rfl)) fun r aa J=>?_;(try simp only[Ze,Zd,Zf,Zc,Zq,Za O]at J);obtain⟨rfl,rfl⟩:=J;refine wS ?_;exact⟨_,rfl,fun _=>V,trivial⟩
 refine wS ?_;exact⟨false,rfl,fun _=>V,trivial⟩
theorem ZxW (t:Zb) (H:QC t):SC (fun _=>aB) 27 [Zf t,Zf t] [] fun v h=>v= .bool (fun _=>true)/\h=[]:=by
 obtain⟨Y,O⟩:=Zo;have V:=Zx7 t.book H.book;have U:=fun(l:List Int) (h:l.length<=1000000)=>c39 l l (by omega);simp only[decide_true]at U;have S:=H.bys;have ab:=H.runs;have ac:=H.waits;have aa:=H.delays;refine QN Tryz.func27 (body:=Zj Tryz.f27) rfl (by decide+kernel) ?_;unfold Zf Zd at*;simp only[Za O]at*;refine wS ?_;refine ZL (V) (by first|rfl|(simp only[Ze,Zd,Zf,Zq,Za O];rfl)) fun r I G=>?_;(try simp only[Ze,Zd,Zf,Zq,Za O]at G);obtain⟨rfl,rfl⟩:=G;refine wS ?_;refine ZJ false false [] [2,3,5,6] [] (fun(i:Nat)=>[(5,.bool fun _=>true),(6,.int .i64 fun _=>(i:Int))]) (fun _=>[]) (fun i=>i<=t.runs.length) (fun i=>t.runs.length-i+0) 0 (aW _) ?_ ?_
 ·refine toR ?_;exact .bool (by simp)
 intro i J;refine wS ?_;refine⟨fun A=>?_,fun A=>?_⟩
 ·have A:=of_decide_eq_true A;refine wS ?_;refine⟨i+1,by omega,by omega,?_⟩;refine toR ?_;exact .bool (by simp)
 refine wS ?_;refine ZJ false false [] [2,3,5,7] [] (fun(i:Nat)=>[(5,.bool fun _=>true),(7,.int .i64 fun _=>(i:Int))]) (fun _=>[]) (fun i=>i<=t.waits.length) (fun i=>t.waits.length-i+0) 0 (aW _) ?_ ?_
 ·exact ZF
 intro i J;refine wS ?_;refine⟨fun A=>?_,fun A=>?_⟩
 ·have A:=of_decide_eq_true A;refine wS ?_;refine⟨i+1,by omega,by omega,?_⟩;refine toR ?_;exact .bool (by simp)
 refine wS ?_;refine ZJ false false [] [2,3,5,8] [] (fun(i:Nat)=>[(5,.bool fun _=>true),(8,.int .i64 fun _=>(i:Int))]) (fun _=>[]) (fun i=>i<=t.delays.length) (fun i=>t.delays.length-i+0) 0 (aW _) ?_ ?_
 ·exact ZF
 intro i J;refine wS ?_;refine⟨fun A=>?_,fun A=>?_⟩
 ·have A:=of_decide_eq_true A;have hd:=S _ (Qu (d:=default) O (l:=t.delays) (i:=i) (by omega));simp only[Zq,Za O];generalize Z:Y ZP default t.delays i=x at*;refine vS ?_;try simp only[Z]
  try refine Chk.mk (ZE) ?_
  refine Br.isT (by simp) ?_;refine wS ?_;refine ZL (U x.by_ hd) (by first|rfl|(simp only[Ze,Zd,Zf,Zq,Za O];rfl)) fun r I G=>?_;(try simp only[Ze,Zd,Zf,Zq,Za O]at G);obtain⟨rfl,rfl⟩:=G;refine wS ?_;refine⟨i+1,by omega,by omega,?_⟩;refine toR ?_;exact .bool (by simp)
 (cbv;(try simp only[nc]at*);(try refine Chk.mk (ZE) ?_))
 (try first|exact⟨rfl,trivial⟩|exact⟨trivial,trivial⟩)
set_option maxHeartbeats 1600000
theorem Zx1 (z:Zone) (A:z.chs.length<=1000000):SC (fun _=>aB) 129 [Ze z] [] fun v h=>v=Ze z/\h=[]:=by
 obtain⟨G,O⟩:=Zo;refine SC.less (Zkl false false [] Tryz.func129 (body:=Zj Tryz.f129) rfl (by decide+kernel) ?_);unfold Ze;simp only[Za O,YE O];refine wS ?_;refine⟨_,_,?_,rfl,rfl⟩;refine toR ?_;refine .isl (by simp) fun i H=>?_;show(if((i:Nat):Int)<(([]:List Chg).length:Int)then _ else _)=_;rw[if_neg (by simp)];simp
theorem c69 (l:List Train) (Y:l.length<=1000000) (I:∀t∈l,t.stops.length<=1000000):SC (fun _=>aB) 130 [lst 3 encTrain default l] [] fun v h=>v=lst 3 encTrain default l/\h=[]:=by
 obtain⟨G,O⟩:=Zo;refine SC.less (Zkl false false [] Tryz.func130 (body:=Zj Tryz.f130) rfl (by decide+kernel) ?_);simp only[Za O];refine wS ?_;refine ZJ false false [] [0,3,4] [.tok 3 fun _=>0] (fun(i:Nat)=>[(3,.isl 3 (fun _=>((l.take i).length:Int)) (fun e=>encTrain (G Train default (l.take i) (e ()))) (.own 0)),(4,.int .i64 fun _=>(i:Int))])
  (fun i=>[(0,.tok 3 fun _=>((l.take i).length:Int))]) (fun i=>i<=l.length) (fun i=>l.length-i+0) 0 (aW _) ?_ ?_
 ·(refine To.of [(3,false)] ?_;cbv;(try simp only[nc]);(repeat' (first|exact trivial|exact Zy.refl _|exact ZG.refl _|refine⟨?_,?_⟩|refine ZG.cells ?_|refine Zy.agg ?_|refine Zy.tup ?_));(all_goals (first|exact XQ|skip)))
 intro i hi;refine wS ?_;refine⟨fun A=>?_,fun A=>?_⟩
 ·simp only[decide_eq_true_eq]at A;have S:=I _ (Qu (d:=default) O (l:=l) (i:=i) (by omega));have H:=XW (d:=default) O (l:=l) (i:=i) (by omega);have U:(l.take i).length=i:=by rw[bX];omega
  refine vS ?_;generalize G Train default l (i:Int)=t at*;have V:(t.stops.length:Int)<=1000000:=by omega
  have J:((0:Nat):Int)+(t.stops.length:Int)<=1000000:=by omega
  refine Chk.mk (ZE) ?_;refine⟨i+1,by omega,by omega,?_⟩;rw[H];refine toR ?_;refine .snocO O rfl rfl (by simp) (.three fun w ok v h=>?_);rw[Za O];exact Zsx rfl (by simp) (fun j Z=>by rw[YE O];rfl) h
 obtain rfl:i=l.length:=by simp only[decide_eq_false_iff_not]at A;omega
 rw[eW];refine wS ?_;refine⟨_,[],?_,rfl,rfl⟩;exact ZF
theorem c23 (b:Xs) (A:Xe b):SC (fun _=>aB) 77 [Zd b] [] fun v h=>v=Zd b/\h=[]:=by
 obtain⟨G,O⟩:=Zo;have S:=c69 b.old A.old A.stops.1;have V:=c69 b.new A.new A.stops.2;have Z:=A.zones;have U:=A.chs;refine SC.less (Zkl false false [] Tryz.func77 (body:=Zj Tryz.f77) rfl (by decide+kernel) ?_);unfold Zd at*;simp only[Za O]at*;refine wS ?_;refine ZJ false false [] [1,2,3,4] [.tok 2 fun _=>0] (fun(i:Nat)=>[(4,.int .i64 fun _=>(i:Int))])
  (fun i=>[(0,.cells [.isl 2 (fun _=>((b.zones.take i).length:Int)) (fun e=>encZone (G Zone default (b.zones.take i) (e ()))) (.own 2),.isl 3 (fun _=>(b.old.length:Int)) (fun e=>encTrain (G Train default b.old (e ()))) .none,.isl 3 (fun _=>(b.new.length:Int)) (fun e=>encTrain (G Train default b.new (e ()))) .none,.int .i64 fun _=>b.night,.int .i64 fun _=>b.last]),(2,.tok 2 fun _=>((b.zones.take i).length:Int))]) (fun i=>i<=b.zones.length) (fun i=>b.zones.length-i+0) 0 (aW _) ?_ ?_
 ·(refine To.of [(2,false)] ?_;cbv;(try simp only[nc]);(repeat' (first|exact trivial|exact Zy.refl _|exact ZG.refl _|refine⟨?_,?_⟩|refine ZG.cells ?_|refine Zy.agg ?_|refine Zy.tup ?_));(all_goals (first|exact XQ|skip)))
 intro i hi;refine wS ?_;refine⟨fun H=>?_,fun H=>?_⟩
 ·simp only[decide_eq_true_eq]at H;have J:=U _ (Qu (d:=default) O (l:=b.zones) (i:=i) (by omega));have I:=XW (d:=default) O (l:=b.zones) (i:=i) (by omega);have Y:(b.zones.take i).length=i:=by rw[bX];omega
  refine vS ?_;generalize G Zone default b.zones (i:Int)=z at*;refine Chk.mk (ZE) ?_;refine ZcQ (Zx1 z J) ?_;refine wS ?_;refine⟨i+1,by omega,by omega,?_⟩;rw[I];exact ZF
 obtain rfl:i=b.zones.length:=by simp only[decide_eq_false_iff_not]at H;omega
 rw[eW];refine wS ?_;refine ZcQ (S) ?_;refine wS ?_;refine ZcQ (V) ?_;refine wS ?_;refine⟨_,[],?_,rfl,rfl⟩;exact ZF
theorem ZxN (l:List Int) (A:l.length<=1000000):SC (fun _=>aB) 78 [lst 1 Q9 0 l] [] fun v h=>v=lst 1 Q9 0 l/\h=[]:=by
 obtain⟨G,O⟩:=Zo;refine SC.less (Zkl false false [] Tryz.func78 (body:=Zj Tryz.f78) rfl (by decide+kernel) ?_);simp only[Za O];refine wS ?_;refine⟨_,_,?_,rfl,rfl⟩;refine toR ?_;refine .isl (by simp) fun i H=>?_;show(if((i:Nat):Int)<(([]:List Int).length:Int)then _ else _)=_;rw[if_neg (by simp)];simp
set_option maxHeartbeats 4000000
def Zmc (t:Zb) (i j k:Nat):AV:=.agg [lst 2 encZone default t.book.zones,lst 3 encTrain default t.book.old,lst 3 encTrain default t.book.new,.int .i64 fun _=>t.book.night,.int .i64 fun _=>t.book.last,
 .isl 2 (fun _=>(t.runs.length:Int)) (Zb9 Zi default t.runs) (.own i),.isl 4 (fun _=>(t.waits.length:Int)) (Zb9 Qk default t.waits) (.own j),.isl 3 (fun _=>(t.delays.length:Int)) (Zb9 Zq default t.delays) (.own k)]
theorem Zum (t:Zb) (H:QC t):SC (fun _=>aB) 20 [Zf t] [] fun v h=>v=Zmc t 0 1 2/\h=[.tok 2 fun _=>(t.runs.length:Int),.tok 4 fun _=>(t.waits.length:Int),.tok 3 fun _=>(t.delays.length:Int)]:=by
 obtain⟨A,O⟩:=Zo;have Y:=c23 t.book H.book;have hb:=H.bys;have ac:=H.runs;have ae:=H.waits;have aa:=H.delays;refine SC.less (Zkl true false [] Tryz.func20 (body:=Zj Tryz.f20) rfl (by decide+kernel) ?_);unfold Zf Zmc Zd at*;simp only[Za O,YE O]at*;refine wS ?_;refine ZL (Y) (by first|rfl|(simp only[Ze,Zd,Zf,Zc,Zi,Za O];rfl)) fun r U G=>?_;(try simp only[Ze,Zd,Zf,Zc,Zi,Za O]at G);obtain⟨rfl,rfl⟩:=G;refine wS ?_;refine ZJ true false [] [1,2,3,4] [.tok 3 fun _=>0] (fun(i:Nat)=>[(4,.int .i64 fun _=>(i:Int))])
  (fun i=>[(0,.cells [.isl 2 (fun _=>(t.book.zones.length:Int)) (fun e=>encZone (A Zone default t.book.zones (e ()))) .none,.isl 3 (fun _=>(t.book.old.length:Int)) (fun e=>encTrain (A Train default t.book.old (e ()))) .none,.isl 3 (fun _=>(t.book.new.length:Int)) (fun e=>encTrain (A Train default t.book.new (e ()))) .none,.int .i64 fun _=>t.book.night,.int .i64 fun _=>t.book.last,.isl 2 (fun _=>(t.runs.length:Int)) (fun e=>Zi (A Sp.Z4 default t.runs (e ()))) (.own 2),.isl 4 (fun _=>(t.waits.length:Int)) (fun e=>Qk (A Sp.QV default t.waits (e ()))) (.own 3),.isl 3 (fun _=>((t.delays.take i).length:Int)) (fun e=>Zq (A Sp.ZP default (t.delays.take i) (e ()))) (.own 4)]),(2,.tok 2 fun _=>(t.runs.length:Int)),(3,.tok 4 fun _=>(t.waits.length:Int)),(4,.tok 3 fun _=>((t.delays.take i).length:Int))])
  (fun i=>i<=t.delays.length) (fun i=>t.delays.length-i+0) 0 (aW _) ?_ ?_
 ·(refine To.of [(3,false)] ?_;cbv;(try simp only[nc]);(repeat' (first|exact trivial|exact Zy.refl _|exact ZG.refl _|refine⟨?_,?_⟩|refine ZG.cells ?_|refine Zy.agg ?_|refine Zy.tup ?_));(all_goals (first|exact XQ|skip)))
  ·exact .isl (by simp) fun i I=>by rw[Qz (len:=0) rfl (aW _)];rfl
  exact .isl (by simp) fun i I=>by rw[Qz (len:=0) rfl (aW _)];rfl
 intro i I;have I:i<=t.delays.length:=I;refine wS ?_;refine⟨fun S=>?_,fun S=>?_⟩
 ·simp only[decide_eq_true_eq]at S;have Z:=hb _ (Qu (d:=default) O (l:=t.delays) (i:=i) (by omega));have V:=XW (d:=default) O (l:=t.delays) (i:=i) (by omega);have ab:(t.delays.take i).length=i:=by rw[bX];omega
  refine wS ?_;have J:=ZxN (A Sp.ZP default t.delays (i:Int)).by_ Z;refine ZL (J) (by first|rfl|(simp only[Ze,Zd,Zf,Zc,Zi,Za O];rfl)) fun r U G=>?_;(try simp only[Ze,Zd,Zf,Zc,Zi,Za O]at G);obtain⟨rfl,rfl⟩:=G;refine wS ?_;refine⟨i+1,by show i+1<=_;omega,by show t.delays.length-(i+1)+0<t.delays.length-i+0;omega,?_⟩;rw[V];refine toR ?_;exact .snoc O rfl (by simp) (by unfold Zq;rw[Za O];rfl)
 obtain rfl:i=t.delays.length:=by simp only[decide_eq_false_iff_not]at S;omega
 rw[eW];refine wS ?_;refine⟨_,_,?_,rfl,rfl⟩;exact ZF
theorem ZlW (st a d:Int):SC (fun _=>aB) 126 [.int .i64 fun _=>st,.int .i64 fun _=>a,.int .i64 fun _=>d] [] fun v h=>v= .agg (QM (ZdM st a d))/\h=[]:=by
 unfold QM ZdM;refine SC.less (QN Tryz.func126 (body:=Zj Tryz.f126) rfl (by decide+kernel) ?_);refine wS ?_;refine⟨_,[],?_,rfl,rfl⟩;exact ZF
theorem Zvb (a b:Int):SC (fun _=>aB) 64 [.int .i64 fun _=>a,.int .i64 fun _=>b] [] fun v h=>v= .agg (encSp ⟨a,b⟩)/\h=[]:=by
 unfold encSp;refine SC.less (QN Tryz.func64 (body:=Zj Tryz.f64) rfl (by decide+kernel) ?_);refine wS ?_;refine⟨_,[],?_,rfl,rfl⟩;exact ZF
theorem ZwN:SC (fun _=>aB) 70 [] [] fun v h=>v=Yk Zj3/\h=[]:=by
 obtain⟨A,O⟩:=Zo;unfold Yk;simp only[Za O];refine SC.less (QN Tryz.func70 (body:=Zj Tryz.f70) rfl (by decide+kernel) ?_);refine wS ?_;refine⟨_,[],?_,rfl,rfl⟩;exact ZF
theorem ZxQ:SC (fun _=>aB) 71 [] [] fun v h=>v=Yk ZnG/\h=[]:=by
 obtain⟨G,O⟩:=Zo;have k:=ZwN;have U:ZnG.steps=Zj3.steps.take 2:=rfl;have e:Yk ZnG= .agg [.int .i64 fun _=>0,.int .i64 fun _=>0,.int .i64 fun _=>3,lst 3 Yi default (Zj3.steps.take 2)]:=rfl;rw[e];unfold Yk at k;simp only[Za O]at k|-;have A:Zj3.steps.length=3:=rfl;generalize Zj3.steps=S at*;refine SC.less (QN Tryz.func71 (body:=Zj Tryz.f71) rfl (by decide+kernel) ?_);refine wS ?_;refine ZL (k) (by first|rfl|(simp only[Ze,Zd,Zf,Zc,Za O];rfl)) fun r J H=>?_;(try simp only[Ze,Zd,Zf,Zc,Za O]at H);obtain⟨rfl,rfl⟩:=H;refine wS ?_;refine⟨_,[],?_,rfl,rfl⟩;refine toR ?_;refine .isl (by show(2:Int)=((S.take 2).length:Int);rw[bX,A];rfl) fun i I=>?_;have I:(i:Int)<2:=I;show Yi (G Sp.Step default S (i:Int))=Yi (G Sp.Step default (S.take 2) (i:Int));rw[O,O,aV,aA,aA,List.getElem?_take,if_pos (by omega)]
theorem Zu6 (t:Zb) (hf:Zx t) (V J H I S U Y:Nat->Zh) (stop:Nat->Bool)
  (hs:∀i X,sel true [0,1,2,3,4,5,6] [V i,J i,H i,I i,S i,U i,Y i,X]=[V i,J i,H i,I i,S i,U i,Y i])
  (ah:∀i (f0 f1 f2 f3 f4 f5:Unit->Int),sel true [0,1,2,3,4,5,6,7] [V i,J i,H i,I i,S i,U i,Y i,.cells [.int .i64 f0,.int .i64 f1,.int .i64 f2,.int .i64 f3,.int .i64 f4,.int .i64 f5]]=[V i,J i,H i,I i,S i,U i,Y i,.cells [.int .i64 f0,.int .i64 f1,.int .i64 f2,.int .i64 f3,.int .i64 f4,.int .i64 f5]])
  (aq:∀i X,sel false [0,1,2,3,4,5,6] [V i,J i,H i,I i,S i,U i,Y i,X]=[V i,J i,H i,I i,S i,U i,Y i])
  (al:∀i j X,back [0,1,2,3,4,5,6] [V i,J i,H i,I i,S i,U i,Y i,X] [V j,J j,H j,I j,S j,U j,Y j]=[V j,J j,H j,I j,S j,U j,Y j,X])
  (hy:∀i,i<manyT t->(∀j,j<i->stop j=false)->YC (fun _=>aB) 6 [.agg (Yq (Zk t i))] [V i,J i,H i,I i,S i,U i,Y i] fun v h=>v= .bool (fun _=> !stop i)/\h=[V (i+1),J (i+1),H (i+1),I (i+1),S (i+1),U (i+1),Y (i+1)])
  (hB:zOk [V 0,J 0,H 0,I 0,S 0,U 0,Y 0]=true:=by rfl):
  SC (fun _=>aB) 176 [.yld 6,Yp t] [V 0,J 0,H 0,I 0,S 0,U 0,Y 0] fun v h=>∃m,EndAt stop (manyT t) m/\h=[V m,J m,H m,I m,S m,U m,Y m]:=by
 obtain⟨nt,O⟩:=Zo;have ae:=YI hf;have ai:=fun n=> @Zdp t hf n;have au:=Zgr hf;have ba:=hf.dlen;have ao:=Zdo hf;have ac:∀k,k<t.delays.length->lenAt t.delays k<=3:=fun k h=>by
  unfold lenAt;rw[aA,aD h];exact(hf.d _ (bM h)).2.1
 have am:∀k:Nat,(nt Sp.ZP default t.delays (k:Int)).by_.length=lenAt t.delays k:=fun k=>by rw[O];rfl
 have ar:∀n k,0<=(Zk t n).getD k 0/\(Zk t n).getD k 0<=3:=fun n k=>by
  by_cases h:k<t.delays.length
  ·have h1:=(ae n).d k h;have h2:=ac k h;unfold lenAt at h2;omega
  have:=ZaZ (ds:=t.delays) t.delays.length n k (by omega);unfold Zk;omega
 generalize manyT t=N at*;generalize Zk t=TA at*;unfold Yp ZX;simp only[Za O,Zc,Zq];refine QN Tryz.func176 (body:=Zj Tryz.f176) rfl (by decide+kernel) ?_ hB;refine wS ?_;refine ZJ false false [] [0,1,3] [] (fun(i:Nat)=>[]) (fun i=>[(0,V i),(1,J i),(2,H i),(3,I i),(4,S i),(5,U i),(6,Y i),(7,.cells (Yq (TA i)))]) (fun i=>i<N/\∀j,j<i->stop j=false) (fun i=>N-i+0) 0 ⟨by omega,fun j h=>by omega⟩ ?_ ?_
 ·unfold Yq;rw[ao];have A:=ah 0 (fun _=>0) (fun _=>0) (fun _=>0) (fun _=>0) (fun _=>0) (fun _=>0);cbv at A;simp only[cB,and_true]at A;obtain⟨e0,e1,e2,e3,e4,e5,e6⟩:=A;(refine To.of [] ?_;cbv;(try simp only[nc]);(repeat' (first|exact trivial|exact Zy.refl _|exact ZG.refl _|refine⟨?_,?_⟩|refine ZG.cells ?_|refine Zy.agg ?_|refine Zy.tup ?_));(all_goals (first|exact XQ|skip)));all_goals first|(rw[e0];exact ZG.refl _)|(rw[e1];exact ZG.refl _)|(rw[e2];exact ZG.refl _)|(rw[e3];exact ZG.refl _)|(rw[e4];exact ZG.refl _)|(rw[e5];exact ZG.refl _)|(rw[e6];exact ZG.refl _)
 intro i hh;unfold Yq at*;refine wS ?_;have hi:=hh.1;have ab:=hh.2;have G:=ai i hi;refine YC.frameB [0,1,2,3,4,5,6] (by decide) (by simp) rfl rfl (aq i _) (hy i hi ab) (al i (i+1) _) ?_;refine wS ?_;refine⟨fun aa=>?_,fun aa=>?_⟩
 ·have aa:stop i=true:=by simpa using aa
  have A:=fun X=>hs (i+1) X;refine wS ?_;refine⟨i+1,.inr ⟨i,rfl,hi,aa,ab⟩,?_⟩;have A:=A (.cells [.int .i64 fun _=>(TA i).getD 0 0,.int .i64 fun _=>(TA i).getD 1 0,.int .i64 fun _=>(TA i).getD 2 0,.int .i64 fun _=>(TA i).getD 3 0,.int .i64 fun _=>(TA i).getD 4 0,.int .i64 fun _=>(TA i).getD 5 0]);cbv at A;simp only[cB,and_true]at A|-;exact A
 have aa:stop i=false:=by simpa using aa
 refine wS ?_;refine XX fun Q hQ=>?_;refine ZJ false false [] [0,1,3,4] [] (fun p:Nat×List Int=>[(4,.int .i64 fun _=>(p.1:Int)-1)]) (fun p=>[(7,.cells [.int .i64 fun _=>p.2.getD 0 0,.int .i64 fun _=>p.2.getD 1 0,.int .i64 fun _=>p.2.getD 2 0,.int .i64 fun _=>p.2.getD 3 0,.int .i64 fun _=>p.2.getD 4 0,.int .i64 fun _=>p.2.getD 5 0])])
  (fun p=>p.1<=t.delays.length/\p.2.length=6/\(∀k,0<=p.2.getD k 0/\p.2.getD k 0<=3)/\Sp.stepT t.delays t.delays.length (TA i)=Sp.stepT t.delays p.1 p.2) (fun p=>p.1+0) (t.delays.length,TA i) ⟨aJ _,(ae i).len,ar i,rfl⟩ ?_ ?_
 ·exact ZF
 intro p hp;refine vS ?_;have hm:=hp.1;have ap:=hp.2.1;have aj:=hp.2.2.1;have Z:=hp.2.2.2;clear hp;by_cases h0:p.1=0
 ·rw[h0,Sp.stepT]at Z;rw[Z]at G;have az:¬i+1<N:=fun h=>by rw[if_pos h]at G;cases G
  refine Chk.mk (ZE) ?_;refine Br.isF (by show(bif decide (0<=(p.1:Int)-1)then _ else false)=false;rw[decide_eq_false (by omega)];rfl) ?_;refine wS ?_;refine hQ _ _ _ ?_;refine wS ?_;refine Br.isT (decide_eq_true (by show(p.1:Int)-1<0;omega)) ?_;refine wS ?_;have A:=hs (i+1) (.cells [.int .i64 fun _=>p.2.getD 0 0,.int .i64 fun _=>p.2.getD 1 0,.int .i64 fun _=>p.2.getD 2 0,.int .i64 fun _=>p.2.getD 3 0,.int .i64 fun _=>p.2.getD 4 0,.int .i64 fun _=>p.2.getD 5 0]);cbv at A;simp only[cB,and_true]at A;refine⟨i+1,.inl ⟨by omega,fun j hj=>?_⟩,?_⟩
  ·by_cases h:j=i
   ·rw[h];exact aa
   exact ab j (by omega)
  simp only[cB,and_true];exact A
 obtain⟨k,hk⟩:∃k,p.1=k+1:=⟨p.1-1,by omega⟩;have e1:=Zfu (x:=p.2) (e:=(p.1:Int)-1) (i:=k) (by omega) (by omega);have e2:(nt Sp.ZP default t.delays ((p.1:Int)-1)).by_.length=lenAt t.delays k:=by rw[show(p.1:Int)-1=(k:Int) by omega];exact am k
 have a9:=ac k (by omega);have aw:=aj k;refine Chk.mk (ZE) ?_;refine⟨fun h1=>?_,fun h1=>?_⟩
 ·have h1:p.2.getD k 0=(lenAt t.delays k:Int)-1:=by
   rw[decide_eq_true (by omega),e1,e2]at h1;exact eq_of_beq h1
  rw[hk,Sp.stepT,if_pos h1]at Z;refine wS ?_;refine⟨(k,p.2.set k 0),⟨by show k<=_;omega,by show(p.2.set k 0).length=6;rw[List.length_set];exact ap,fun j=>?_,Z⟩,by show k+0<p.1+0;omega,?_⟩
  ·show 0<=(p.2.set k 0).getD j 0/\(p.2.set k 0).getD j 0<=3;rw[<-Z3 (e:=(k:Int)) rfl (by omega)];have:=aj j;cases decide ((k:Int)=j)
   ·exact this
   exact⟨bT _,by show(0:Int)<=3;decide⟩
  have g0:=Z3 (x:=p.2) (e:=(p.1:Int)-1) (k:=k) (j:=0) (v:=0) (by omega) (by omega);have g1:=Z3 (x:=p.2) (e:=(p.1:Int)-1) (k:=k) (j:=1) (v:=0) (by omega) (by omega);have g2:=Z3 (x:=p.2) (e:=(p.1:Int)-1) (k:=k) (j:=2) (v:=0) (by omega) (by omega);have g3:=Z3 (x:=p.2) (e:=(p.1:Int)-1) (k:=k) (j:=3) (v:=0) (by omega) (by omega);have g4:=Z3 (x:=p.2) (e:=(p.1:Int)-1) (k:=k) (j:=4) (v:=0) (by omega) (by omega);have g5:=Z3 (x:=p.2) (e:=(p.1:Int)-1) (k:=k) (j:=5) (v:=0) (by omega) (by omega);have A:=ah (i+1) (fun _=>bif decide ((p.1:Int)-1=((0:Nat):Int))then 0 else p.2.getD 0 0) (fun _=>bif decide ((p.1:Int)-1=((1:Nat):Int))then 0 else p.2.getD 1 0) (fun _=>bif decide ((p.1:Int)-1=((2:Nat):Int))then 0 else p.2.getD 2 0) (fun _=>bif decide ((p.1:Int)-1=((3:Nat):Int))then 0 else p.2.getD 3 0) (fun _=>bif decide ((p.1:Int)-1=((4:Nat):Int))then 0 else p.2.getD 4 0) (fun _=>bif decide ((p.1:Int)-1=((5:Nat):Int))then 0 else p.2.getD 5 0);cbv at A;simp only[cB,and_true]at A;obtain⟨e3,e4,e5,e6,e7,e8,e9⟩:=A;(refine To.of [] ?_;cbv;(try simp only[nc]);(repeat' (first|exact trivial|exact Zy.refl _|exact ZG.refl _|refine⟨?_,?_⟩|refine ZG.cells ?_|refine Zy.agg ?_|refine Zy.tup ?_));(all_goals (first|exact XQ|skip)));all_goals first|(rw[e3];exact ZG.refl _)|(rw[e4];exact ZG.refl _)|(rw[e5];exact ZG.refl _)|(rw[e6];exact ZG.refl _)|(rw[e7];exact ZG.refl _)|(rw[e8];exact ZG.refl _)|(rw[e9];exact ZG.refl _)
 have h1:p.2.getD k 0≠(lenAt t.delays k:Int)-1:=by
  rw[decide_eq_true (by omega),e1,e2]at h1;exact ne_of_beq_false h1
 rw[hk,Sp.stepT,if_neg h1]at Z;rw[Z]at G;have ak:i+1<N:=by
  by_cases h:i+1<N
  ·exact h
  rw[if_neg h]at G;cases G
 rw[if_pos ak]at G;have G:=Option.some.inj G;refine wS ?_;refine hQ _ _ _ ?_;refine wS ?_;refine Br.isF (decide_eq_false (by show¬(p.1:Int)-1<0;omega)) ?_;refine vS ?_;simp only[e1];refine Chk.mk (ZE) ?_;have A:=ah (i+1) (fun _=>bif decide ((p.1:Int)-1=((0:Nat):Int))then p.2.getD k 0+1 else p.2.getD 0 0) (fun _=>bif decide ((p.1:Int)-1=((1:Nat):Int))then p.2.getD k 0+1 else p.2.getD 1 0) (fun _=>bif decide ((p.1:Int)-1=((2:Nat):Int))then p.2.getD k 0+1 else p.2.getD 2 0) (fun _=>bif decide ((p.1:Int)-1=((3:Nat):Int))then p.2.getD k 0+1 else p.2.getD 3 0) (fun _=>bif decide ((p.1:Int)-1=((4:Nat):Int))then p.2.getD k 0+1 else p.2.getD 4 0) (fun _=>bif decide ((p.1:Int)-1=((5:Nat):Int))then p.2.getD k 0+1 else p.2.getD 5 0);cbv at A;simp only[cB,and_true]at A;obtain⟨e3,e4,e5,e6,e7,e8,e9⟩:=A;refine⟨i+1,⟨ak,fun j hj=>?_⟩,by show N-(i+1)+0<N-i+0;omega,?_⟩
 ·by_cases h:j=i
  ·rw[h];exact aa
  exact ab j (by omega)
 rw[<-G];have g0:=Z3 (x:=p.2) (e:=(p.1:Int)-1) (k:=k) (j:=0) (v:=p.2.getD k 0+1) (by omega) (by omega);have g1:=Z3 (x:=p.2) (e:=(p.1:Int)-1) (k:=k) (j:=1) (v:=p.2.getD k 0+1) (by omega) (by omega);have g2:=Z3 (x:=p.2) (e:=(p.1:Int)-1) (k:=k) (j:=2) (v:=p.2.getD k 0+1) (by omega) (by omega);have g3:=Z3 (x:=p.2) (e:=(p.1:Int)-1) (k:=k) (j:=3) (v:=p.2.getD k 0+1) (by omega) (by omega);have g4:=Z3 (x:=p.2) (e:=(p.1:Int)-1) (k:=k) (j:=4) (v:=p.2.getD k 0+1) (by omega) (by omega);have g5:=Z3 (x:=p.2) (e:=(p.1:Int)-1) (k:=k) (j:=5) (v:=p.2.getD k 0+1) (by omega) (by omega);(refine To.of [] ?_;cbv;(try simp only[nc]);(repeat' (first|exact trivial|exact Zy.refl _|exact ZG.refl _|refine⟨?_,?_⟩|refine ZG.cells ?_|refine Zy.agg ?_|refine Zy.tup ?_));(all_goals (first|exact XQ|skip)));all_goals first|(rw[e3];exact ZG.refl _)|(rw[e4];exact ZG.refl _)|(rw[e5];exact ZG.refl _)|(rw[e6];exact ZG.refl _)|(rw[e7];exact ZG.refl _)|(rw[e8];exact ZG.refl _)|(rw[e9];exact ZG.refl _)
theorem Zs2 (t:Zb) (hf:Zx t) (U I G H J S V:Nat->Zh) (stop:Nat->Bool)
  (h0:∀i,QD 7 (U i)) (h1:∀i,QD 7 (I i)) (h2:∀i,QD 7 (G i)) (h3:∀i,QD 7 (H i)) (h4:∀i,QD 7 (J i)) (h5:∀i,QD 7 (S i)) (h6:∀i,QD 7 (V i))
  (hy:∀i,i<manyT t->(∀j,j<i->stop j=false)->YC (fun _=>aB) 6 [.agg (Yq (Zk t i))] [U i,I i,G i,H i,J i,S i,V i] fun v h=>v= .bool (fun _=> !stop i)/\h=[U (i+1),I (i+1),G (i+1),H (i+1),J (i+1),S (i+1),V (i+1)]):
  SC (fun _=>aB) 176 [.yld 6,Yp t] [U 0,I 0,G 0,H 0,J 0,S 0,V 0] fun v h=>∃m,EndAt stop (manyT t) m/\h=[U m,I m,G m,H m,J m,S m,V m]:=by
 have A:∀j,j<7->Ql j [0,1,2,3,4,5,6] 0=some j:=by decide
 have Z:∀j,j<7->Ql j [0,1,2,3,4,5,6,7] 0=some j:=by decide
 have Y:∀j,j<7->Y7 [0,1,2,3,4,5,6] 8 j=j:=by decide
 refine Zu6 t hf U I G H J S V stop (fun i X=>?_) (fun i f0 f1 f2 f3 f4 f5=>?_) (fun i X=>?_) (fun i j X=>?_) hy (Zd3 fun b hb=>?_)
 ·show [ZQ true _ _ (U i),ZQ true _ _ (I i),ZQ true _ _ (G i),ZQ true _ _ (H i),ZQ true _ _ (J i),ZQ true _ _ (S i),ZQ true _ _ (V i)]=_;rw[(h0 i).s _ _ _ A,(h1 i).s _ _ _ A,(h2 i).s _ _ _ A,(h3 i).s _ _ _ A,(h4 i).s _ _ _ A,(h5 i).s _ _ _ A,(h6 i).s _ _ _ A]
 ·show [ZQ true _ _ (U i),ZQ true _ _ (I i),ZQ true _ _ (G i),ZQ true _ _ (H i),ZQ true _ _ (J i),ZQ true _ _ (S i),ZQ true _ _ (V i),_]=_;rw[(h0 i).s _ _ _ Z,(h1 i).s _ _ _ Z,(h2 i).s _ _ _ Z,(h3 i).s _ _ _ Z,(h4 i).s _ _ _ Z,(h5 i).s _ _ _ Z,(h6 i).s _ _ _ Z];rfl
 ·show [ZQ false _ _ (U i),ZQ false _ _ (I i),ZQ false _ _ (G i),ZQ false _ _ (H i),ZQ false _ _ (J i),ZQ false _ _ (S i),ZQ false _ _ (V i)]=_;rw[(h0 i).s _ _ _ A,(h1 i).s _ _ _ A,(h2 i).s _ _ _ A,(h3 i).s _ _ _ A,(h4 i).s _ _ _ A,(h5 i).s _ _ _ A,(h6 i).s _ _ _ A]
 ·show [Xp (Y7 [0,1,2,3,4,5,6] 8) (U j),Xp (Y7 [0,1,2,3,4,5,6] 8) (I j),Xp (Y7 [0,1,2,3,4,5,6] 8) (G j),Xp (Y7 [0,1,2,3,4,5,6] 8) (H j),Xp (Y7 [0,1,2,3,4,5,6] 8) (J j),Xp (Y7 [0,1,2,3,4,5,6] 8) (S j),Xp (Y7 [0,1,2,3,4,5,6] 8) (V j),X]=_;rw[(h0 j).r _ Y,(h1 j).r _ Y,(h2 j).r _ Y,(h3 j).r _ Y,(h4 j).r _ Y,(h5 j).r _ Y,(h6 j).r _ Y]
 simp only[bG,dS,or_false]at hb;rcases hb with rfl|rfl|rfl|rfl|rfl|rfl|rfl
 ·exact(h0 0).z
 ·exact(h1 0).z
 ·exact(h2 0).z
 ·exact(h3 0).z
 ·exact(h4 0).z
 ·exact(h5 0).z
 exact(h6 0).z
theorem Zu8 (t:Zb) (hf:Zx t) (J H A G I:Nat->Zh) (stop:Nat->Bool)
  (h0:∀i,QD 5 (J i)) (h1:∀i,QD 5 (H i)) (h2:∀i,QD 5 (A i)) (h3:∀i,QD 5 (G i)) (Z:∀i,QD 5 (I i))
  (hy:∀i,i<manyT t->(∀j,j<i->stop j=false)->YC (fun _=>aB) 4 [.agg (Yq (Zk t i)),.imap 2 3 fun _=>Qj t (Zk t i)] [J i,H i,A i,G i,I i] fun v h=>v= .bool (fun _=> !stop i)/\h=[J (i+1),H (i+1),A (i+1),G (i+1),I (i+1)]):
  SC (fun _=>aB) 135 [.yld 4,Yp t] [J 0,H 0,A 0,G 0,I 0] fun v h=>∃m,EndAt stop (manyT t) m/\h=[J m,H m,A m,G m,I m]:=by
 obtain⟨nt,O⟩:=Zo;have V:∀j,j<5->Ql j [0,1,2,3,4] 0=some j:=by decide
 have p5:∀j,j<5->Ql j [0,1,2,3,4,5] 0=some j:=by decide
 have p6:∀j,j<5->Ql j [0,1,2,3,4,5,6] 0=some j:=by decide
 have f7:∀j,j<5->Y7 [0,1,2,3,4] 8 j=j:=by decide
 have al:∀i X4 X5 X6,sel false [0,1,2,3,4] [J i,H i,A i,G i,I i,X4,X5,X6]=[J i,H i,A i,G i,I i]:=fun i X4 X5 X6=>by
  show [ZQ false _ _ (J i),ZQ false _ _ (H i),ZQ false _ _ (A i),ZQ false _ _ (G i),ZQ false _ _ (I i)]=_;rw[(h0 i).s _ _ _ V,(h1 i).s _ _ _ V,(h2 i).s _ _ _ V,(h3 i).s _ _ _ V,(Z i).s _ _ _ V]
 have ak:∀i j X4 X5 X6,back [0,1,2,3,4] [J i,H i,A i,G i,I i,X4,X5,X6] [J j,H j,A j,G j,I j]=[J j,H j,A j,G j,I j,X4,X5,X6]:=fun i j X4 X5 X6=>by
  show [Xp (Y7 [0,1,2,3,4] 8) (J j),Xp (Y7 [0,1,2,3,4] 8) (H j),Xp (Y7 [0,1,2,3,4] 8) (A j),Xp (Y7 [0,1,2,3,4] 8) (G j),Xp (Y7 [0,1,2,3,4] 8) (I j),X4,X5,X6]=_;rw[(h0 j).r _ f7,(h1 j).r _ f7,(h2 j).r _ f7,(h3 j).r _ f7,(Z j).r _ f7]
 have e5:∀m L,sel true (aR 6) [J m,H m,A m,G m,I m,.cells [.yld 4],L]=[J m,H m,A m,G m,I m,.cells [.yld 4]]:=fun m L=>by
  show [ZQ true [0,1,2,3,4,5] _ (J m),ZQ true [0,1,2,3,4,5] _ (H m),ZQ true [0,1,2,3,4,5] _ (A m),ZQ true [0,1,2,3,4,5] _ (G m),ZQ true [0,1,2,3,4,5] _ (I m),_]=_;rw[(h0 m).s _ _ _ p5,(h1 m).s _ _ _ p5,(h2 m).s _ _ _ p5,(h3 m).s _ _ _ p5,(Z m).s _ _ _ p5];rfl
 have hz:zOk [J 0,H 0,A 0,G 0,I 0]=true:=Zd3 fun b S=>by
  simp only[bG,dS,or_false]at S;rcases S with rfl|rfl|rfl|rfl|rfl
  ·exact(h0 0).z
  ·exact(h1 0).z
  ·exact(h2 0).z
  ·exact(h3 0).z
  exact(Z 0).z
 have am:∀i a s d,zOk [J i,H i,A i,G i,I i,.cells a,.loop s d]=true:=fun i a s d=>Zd3 fun b S=>by
  simp only[bG,dS,or_false]at S;rcases S with rfl|rfl|rfl|rfl|rfl|rfl|rfl
  ·exact(h0 i).z
  ·exact(h1 i).z
  ·exact(h2 i).z
  ·exact(h3 i).z
  ·exact(Z i).z
  ·rfl
  rfl
 have ah:=ZwB t;have aj:=fun s ps a x g4 g5=>Zs2 t hf J H A G I (fun _=>.cells [.yld 4]) (fun m=>.loop s ⟨ps,a,x,bif QL stop m then .done else .ready,bif QL stop m then some .ret else none⟩) stop (fun i=>(h0 i).mono (by decide)) (fun i=>(h1 i).mono (by decide)) (fun i=>(h2 i).mono (by decide)) (fun i=>(h3 i).mono (by decide)) (fun i=>(Z i).mono (by decide)) g4 g5;have ac:=fun i=>ZwA t (Zk t i) hf (YI hf i);generalize Zk t=TA at*;generalize Qj t=HL at*;generalize manyT t=N at*;unfold Yp ZX Yq at*;simp only[Za O,Zc,Zq]at*;refine QN Tryz.func135 (body:=Zj Tryz.f135) rfl (by decide+kernel) ?_ hz;refine wS ?_;refine ZL (ah) (by first|rfl|(simp only[Ze,Zd,Zf,Zc,Za O];rfl)) fun r ai U=>?_;(try simp only[Ze,Zd,Zf,Zc,Za O]at U);obtain⟨rfl,rfl⟩:=U;refine wS ?_;refine Zp1 (fid:=176) (first:=[]) rfl Yb ?_;refine SC.mono (aj _ _ _ _ ?_ ?_ ?_) ?_
 ·exact fun i=>⟨fun fz ι h U=>by simp only[ZQ,Qs,eM,U 4 (by decide)],fun φ U=>by simp only[Xp,ren,eM,U 4 (by decide)],rfl⟩
 ·exact fun i=>⟨fun fz ι h U=>by simp only[ZQ,Qs,eM,U 4 (by decide),U 5 (by decide)],fun φ U=>by simp only[Xp,ren,eM,U 4 (by decide),U 5 (by decide)],rfl⟩
 ·intro i hi Y;have aa:QL stop i=false:=by
   cases i with
   |zero=>rfl
   |succ j=>exact Y j (by omega)
  simp only[aa,cond_false];refine YC.less (Zc3 false false [] rfl rfl ?_ (am i _ _ _));refine wS ?_;refine ZL (ac i) (by first|rfl|(simp only[Ze,Zd,Zf,Zc,Za O];rfl)) fun r ai U=>?_;(try simp only[Ze,Zd,Zf,Zc,Za O]at U);obtain⟨rfl,rfl⟩:=U;refine wS ?_;refine YC.frameB [0,1,2,3,4] (by decide) (by simp) rfl rfl (al i _ _ _) (hy i hi Y) (ak i (i+1) _ _ _) ?_;refine wS ?_;refine⟨fun S=>?_,fun S=>?_⟩
  ·have S:stop i=true:=by simpa using S
   have ab:QL stop (i+1)=true:=S;refine wS ?_;simp only[ab,cond_true];refine⟨.bool fun _=> !stop i,_,?_,rfl,rfl⟩;(refine To.of [] ?_;cbv;(try simp only[nc]);(repeat' (first|exact trivial|exact Zy.refl _|exact ZG.refl _|refine⟨?_,?_⟩|refine ZG.cells ?_|refine Zy.agg ?_|refine Zy.tup ?_));(all_goals (first|exact XQ|skip)));all_goals first|exact .bool (by rw[S];rfl)|exact(h0 _).wk p6|exact(h1 _).wk p6|exact(h2 _).wk p6|exact(h3 _).wk p6|exact(Z _).wk p6
  have S:stop i=false:=by simpa using S
  have ab:QL stop (i+1)=false:=S;refine wS ?_;simp only[ab,cond_false];refine⟨.bool fun _=> !stop i,_,?_,rfl,rfl⟩;(refine To.of [] ?_;cbv;(try simp only[nc]);(repeat' (first|exact trivial|exact Zy.refl _|exact ZG.refl _|refine⟨?_,?_⟩|refine ZG.cells ?_|refine Zy.agg ?_|refine Zy.tup ?_));(all_goals (first|exact XQ|skip)));all_goals first|exact .bool (by rw[S];rfl)|exact(h0 _).wk p6|exact(h1 _).wk p6|exact(h2 _).wk p6|exact(h3 _).wk p6|exact(Z _).wk p6
 intro v h hh;obtain⟨m,hm,rfl⟩:=hh;rcases hm with⟨hm,Y⟩|⟨j,hm,hj,aa,Y⟩
 ·have aa:QL stop m=false:=by
   cases m with
   |zero=>rfl
   |succ j=>exact Y j (by omega)
  simp only[aa,cond_false];refine ZhH rfl rfl rfl (e5 m _) ?_;refine wS ?_;refine⟨m,.inl ⟨hm,Y⟩,?_⟩;show [ZQ true [0,1,2,3,4] _ (J m),ZQ true [0,1,2,3,4] _ (H m),ZQ true [0,1,2,3,4] _ (A m),ZQ true [0,1,2,3,4] _ (G m),ZQ true [0,1,2,3,4] _ (I m)]=_;rw[(h0 m).s _ _ _ V,(h1 m).s _ _ _ V,(h2 m).s _ _ _ V,(h3 m).s _ _ _ V,(Z m).s _ _ _ V]
 have ae:QL stop m=true:=by rw[hm];exact aa
 simp only[ae,cond_true];refine ZhG rfl rfl rfl (e5 m _) ?_;refine wS ?_;refine⟨m,.inr ⟨j,hm,hj,aa,Y⟩,?_⟩;show [ZQ true [0,1,2,3,4] _ (J m),ZQ true [0,1,2,3,4] _ (H m),ZQ true [0,1,2,3,4] _ (A m),ZQ true [0,1,2,3,4] _ (G m),ZQ true [0,1,2,3,4] _ (I m)]=_;rw[(h0 m).s _ _ _ V,(h1 m).s _ _ _ V,(h2 m).s _ _ _ V,(h3 m).s _ _ _ V,(Z m).s _ _ _ V]
theorem Zw8 (M:Nat->Bool) {i:Nat} (hi:i<4):Zjw [fun _=>M 0,fun _=>M 1,fun _=>M 2,fun _=>M 3] (i:Int)=M i:=by
 match i,hi with
 |0,_=>rfl
 |1,_=>rfl
 |2,_=>rfl
 |3,_=>rfl
theorem ZxU (t:Zb) (d:Int) (hf:QC t):SC (fun _=>aB) 41 [Zf t,.int .i64 fun _=>d] [] fun v h=>
  v= .tup [lst 1 Q9 0 (ZbE t d).1,.int .i64 fun _=>(ZbE t d).2]/\h=[]:=by
 obtain⟨nt,O⟩:=Zo;have k:=ZqR t hf;have cn:=hf.delays;have k1:=ZdP d 0 ((t.delays.length:Int)-1);by_cases V:Zr t=0
 ·have hw:=Yo V;have aj:=Zs4 t;have k4:=fun B0 B1 B2 B3 B4 stop=>Zu8 t hw B0 B1 B2 B3 B4 stop;have k5:=fun B0 B1 B2 B3 B4 B5 stop=>Zs3 t hw B0 B1 B2 B3 B4 B5 stop;obtain⟨F,ar,aw⟩:∃F:Nat->List (List Int×List (List Int×List Int)),F 0=[]/\∀i,F (i+1)=if(Zk t i).getD d.toNat 0=0 then Jp (F i) (Sp.keyT (Zk t i)) (Qj t (Zk t i))else F i:=⟨ZaB t d.toNat,rfl,fun _=>rfl⟩
  have cq:=hw.dlen;have bm:=fun i (h:d.toNat<6)=> @ZuL (Zk t i) d.toNat (XY _ _) h;have bx:=fun i h r=> @Zk9 t d.toNat i h r;have bg:=fun L W r=> @ZsV L W r;have ba:=fun L W S e V hn r=> @ZqI L W S e V hn r;have ap:=fun x=> @Zj0 t x;have ao:=fun x p hp=> @Zj1 t hw x p hp;have bz:∀W p,Zlz W p=(p.2.headD 0 !=((W.lookup p.1).getD []).headD 0||p.2.tail.tail.headD 0 !=((W.lookup p.1).getD []).tail.tail.headD 0):=fun _ _=>rfl;have bk:=fun i h0 S hS r=> @ZsW t d.toNat i h0 S hS r;have U:∀i,(Zk t i).length=6:=fun i=>XY _ _;obtain⟨H,ai,am⟩:∃M:Nat->Nat->Bool,(∀r,M 0 r=false)/\∀i r,M (i+1) r=(M i r||Zbk t d.toNat i r):=⟨Zfx t d.toNat,fun _=>rfl,fun _ _=>rfl⟩;have a9:Zgg t d.toNat=((aR 4).filter fun r=>H (manyT t) r).map fun(r:Nat)=>(r:Int):=by
   have e:∀n r,H n r=Zfx t d.toNat n r:=fun n=>by
    induction n with
    |zero=>intro r;rw[ai];rfl
    |succ n ih=>intro r;rw[am,ih];rfl
   unfold Zgg;simp only[e]
  have ce:∀i,d.toNat<t.delays.length->(F (manyT t)).lookup (Sp.keyT ((Zk t i).set d.toNat 0))=some (Qj t ((Zk t i).set d.toNat 0)):=fun i hd=>by
   have e:∀n,F n=ZaB t d.toNat n:=fun n=>by
    induction n with
    |zero=>exact ar
    |succ n ih=>rw[aw,ZaB,ih]
   rw[e];exact ZnI hw hd
  have hE:ZbE t d=if QG d 0 ((t.delays.length:Int)-1)then([],3)else(Zgg t d.toNat,0):=by
   unfold ZbE;rw[if_neg (fun h=>h V)]
  unfold QW at k;rw[if_pos V,V]at k;generalize ZbE t d=BE at*;generalize ck:cvE=J at*;generalize ci:Zlz=b9 at*;generalize Zbk t d.toNat=MI at*;generalize Zk t=A at*;generalize Qj t=G at*;unfold Yp ZX Zf Yq Sp.keyT at*;simp only[Za O,Zc,Zq]at*;refine SC.less (QN Tryz.func41 (body:=Zj Tryz.f41) rfl (by decide+kernel) ?_);refine wS ?_;refine ZqW (k) ?_;refine wS ?_;refine Br.isF rfl ?_;refine wS ?_;refine ZqW (k1) ?_;refine wS ?_;refine⟨fun h=>?_,fun h=>?_⟩
  ·rw[if_pos h]at hE;subst hE;refine wS ?_;refine⟨_,[],?_,rfl,rfl⟩;exact ZF
  have hb:=QE h;rw[if_neg (by rw[h];exact aS)]at hE;have bl:=fun i=> @Zfu (A i) d d.toNat (by omega) (by omega);refine wS ?_;refine ZqW (aj) ?_;refine wS ?_;refine Zf4 [3,6,8,37] [] [(2,.gob (.mapM 6 2 3 fun _=>F 0))] (fid:=135) (first:=[]) ?_ rfl ?_ ?_
  ·rw[ar];exact ZF
  ·exact Yb
  refine SC.mono (k4 (fun _=>_) (fun _=>_) (fun i=>.gob (.mapM 6 2 3 fun _=>F i)) (fun _=>_) (fun _=>_) (fun _=>false) ?_ ?_ ?_ ?_ ?_ ?_) ?_;iterate 5 exact fun i=>QD.of rfl
  ·intro i hi bw;have ae:=aw i;have ab:=bl i;refine YC.less (Zc3 false false [] rfl rfl ?_);refine vS ?_;simp only[ab];refine Chk.mk (ZE) ?_;refine⟨fun I=>?_,fun I=>?_⟩
   ·have I:=eq_of_beq I;rw[if_pos I]at ae;refine wS ?_;refine⟨.bool fun _=>true,_,?_,rfl,rfl⟩;rw[ae];exact ZF
   have I:=ne_of_beq_false I;rw[if_neg I]at ae;refine wS ?_;refine⟨.bool fun _=>true,_,?_,rfl,rfl⟩;rw[ae];exact ZF
  intro v h hh;obtain⟨m,hm,rfl⟩:=hh;have cg:m=manyT t:=by
   rcases hm with h|⟨_,_,_,h,_⟩
   ·exact h.1
   cases h
  have al:=fun i=>ce i;rw[<-cg]at al;refine wS ?_;refine ZqW (aj) ?_;refine wS ?_;refine Zf4 [3,8,11,48] [] [(4,.cells [.bool fun _=>H 0 0,.bool fun _=>H 0 1,.bool fun _=>H 0 2,.bool fun _=>H 0 3])] (fid:=135) (first:=[]) ?_ rfl ?_ ?_
  ·(refine To.of [] ?_;cbv;(try simp only[nc]);(repeat' (first|exact trivial|exact Zy.refl _|exact ZG.refl _|refine⟨?_,?_⟩|refine ZG.cells ?_|refine Zy.agg ?_|refine Zy.tup ?_));(all_goals (first|exact XQ|skip)))
   all_goals exact .bool (by rw[ai])
  ·exact Yb
  refine SC.mono (k5 (fun _=>_) (fun _=>_) (fun _=>_) (fun _=>_) (fun i=>.cells [.bool fun _=>H i 0,.bool fun _=>H i 1,.bool fun _=>H i 2,.bool fun _=>H i 3]) (fun _=>_) (fun _=>false) ?_ ?_ ?_ ?_ ?_ ?_ ?_) ?_;iterate 6 exact fun i=>QD.of rfl
  ·intro i hi bw;have ak:=am i;have g0:=Z3 (x:=A i) (e:=d) (k:=d.toNat) (j:=0) (v:=0) (by omega) (by rw[U];omega);have g1:=Z3 (x:=A i) (e:=d) (k:=d.toNat) (j:=1) (v:=0) (by omega) (by rw[U];omega);have g2:=Z3 (x:=A i) (e:=d) (k:=d.toNat) (j:=2) (v:=0) (by omega) (by rw[U];omega);have g3:=Z3 (x:=A i) (e:=d) (k:=d.toNat) (j:=3) (v:=0) (by omega) (by rw[U];omega);have g4:=Z3 (x:=A i) (e:=d) (k:=d.toNat) (j:=4) (v:=0) (by omega) (by rw[U];omega);have g5:=Z3 (x:=A i) (e:=d) (k:=d.toNat) (j:=5) (v:=0) (by omega) (by rw[U];omega);refine YC.less (Zc3 false false [] rfl rfl ?_);refine vS ?_;simp only[g0,g1,g2,g3,g4,g5];refine Chk.mk (ZE) ?_;have ab:=bm i (by omega);refine⟨fun I=>?_,fun I=>?_⟩
   ·have I:(A i).getD d.toNat 0=0:=of_decide_eq_true (ab.symm.trans I);have bu:=bx i I;simp only[bu,eN]at ak;refine wS ?_;refine⟨.bool fun _=>true,_,?_,rfl,rfl⟩;(refine To.of [] ?_;cbv;(try simp only[nc]);(repeat' (first|exact trivial|exact Zy.refl _|exact ZG.refl _|refine⟨?_,?_⟩|refine ZG.cells ?_|refine Zy.agg ?_|refine Zy.tup ?_));(all_goals (first|exact XQ|skip)));all_goals exact .bool (by rw[ak])
   have I:(A i).getD d.toNat 0≠0:=of_decide_eq_false (ab.symm.trans I);refine wS ?_;refine Zui false false [] [3,8,11,14,49,50,58] [] (fun _:List (List Int)×List Int×List Int=>[]) (fun p=>[(4,.cells [.bool fun _=>H i 0||J (G (A i)) (G ((A i).set d.toNat 0)) p.1 0,.bool fun _=>H i 1||J (G (A i)) (G ((A i).set d.toNat 0)) p.1 1,.bool fun _=>H i 2||J (G (A i)) (G ((A i).set d.toNat 0)) p.1 2,.bool fun _=>H i 3||J (G (A i)) (G ((A i).set d.toNat 0)) p.1 3]),(8,.gob (.mapIt 2 3 (fun _=>G (A i)) (fun _=>p.1) fun _=>p.2))])
    (fun _=>True) (fun p=>((G (A i)).filter fun q=> !p.1.contains q.1).length+0) ([],[],[]) trivial ?_ ?_
   ·(refine To.of [] ?_;cbv;(try simp only[nc]);(repeat' (first|exact trivial|exact Zy.refl _|exact ZG.refl _|refine⟨?_,?_⟩|refine ZG.cells ?_|refine Zy.agg ?_|refine Zy.tup ?_));(all_goals (first|exact XQ|skip)))
    all_goals exact .bool (by rw[bg,eN])
   intro p _;refine wS ?_;have bq:=ap (A i);have bp:=al i (by omega);refine NC.next rfl (fun bc=>?_) fun e aa au=>?_
   ·have hM:∀r,H (i+1) r=(H i r||J (G (A i)) (G ((A i).set d.toNat 0)) p.1 r):=fun r=>by rw[ak r,bk i I p.1 bc r]
    refine wS ?_;refine Br.isF rfl ?_;refine wS ?_;refine⟨.bool fun _=>true,_,?_,rfl,rfl⟩;(refine To.of [] ?_;cbv;(try simp only[nc]);(repeat' (first|exact trivial|exact Zy.refl _|exact ZG.refl _|refine⟨?_,?_⟩|refine ZG.cells ?_|refine Zy.agg ?_|refine Zy.tup ?_));(all_goals (first|exact XQ|skip)));all_goals exact .bool (by rw[hM])
   have ca:=ao (A i) e aa;have aq:=ba (G (A i)) (G ((A i).set d.toNat 0)) p.1 e aa bq;refine wS ?_;refine Br.isT rfl ?_;refine vS ?_;simp only[g0,g1,g2,g3,g4,g5,bp,Option.getD_some,ca.1];refine Chk.mk (by(try simp only[nc,Xo,Xn,XA,Xm,Cn.p,and_true,true_and,decide_eq_true_eq,imp_self,List.length_cons,List.length_nil]);(repeat' (first|apply And.intro|intro _))<;>first|omega|assumption|exact nb1 (by assumption)|exact nb2 (by assumption)|exact nb3 (by assumption)|exact nb4 (by assumption)|(simp;done)|rfl|exact Or.inl rfl|decide+kernel|(exfalso;rename_i hx;exact absurd hx (by simp))|skip) ?_;have ah:(bif e.2.headD 0 !=((eV e.1 (G ((A i).set d.toNat 0))).getD []).headD 0 then true else e.2.tail.tail.headD 0 !=((eV e.1 (G ((A i).set d.toNat 0))).getD []).tail.tail.headD 0)=b9 (G ((A i).set d.toNat 0)) e:=by
    rw[bz];cases (e.2.headD 0 !=((eV e.1 (G ((A i).set d.toNat 0))).getD []).headD 0)<;>rfl
   refine⟨fun Y=>?_,fun Y=>?_⟩
   ·have hh:=ah.symm.trans Y;have Z:∀k:Nat,(bif decide (e.1.headD 0=(k:Int))then true else(H i k||J (G (A i)) (G ((A i).set d.toNat 0)) p.1 k))=(H i k||J (G (A i)) (G ((A i).set d.toNat 0)) (p.1++[e.1]) k):=fun k=>by
     rw[aq k,hh];by_cases h:e.1.headD 0=(k:Int)
     ·rw[decide_eq_true h,h];simp
     rw[decide_eq_false h,show(e.1.headD 0==(k:Int))=false by simpa using h];show(H i k||J (G (A i)) (G ((A i).set d.toNat 0)) p.1 k)=(H i k||(J (G (A i)) (G ((A i).set d.toNat 0)) p.1 k||false));rw[eN]
    refine vS ?_;refine Chk.mk (ZE) ?_;refine⟨(p.1++[e.1],e),trivial,by show(gL _ _).length+0<(gL _ _).length+0;exact Zmm aa au,?_⟩;(refine To.of [] ?_;cbv;(try simp only[nc]);(repeat' (first|exact trivial|exact Zy.refl _|exact ZG.refl _|refine⟨?_,?_⟩|refine ZG.cells ?_|refine Zy.agg ?_|refine Zy.tup ?_));(all_goals (first|exact XQ|skip)));all_goals exact .bool (Z _)
   have hh:=ah.symm.trans Y;have Z:∀k:Nat,(H i k||J (G (A i)) (G ((A i).set d.toNat 0)) p.1 k)=(H i k||J (G (A i)) (G ((A i).set d.toNat 0)) (p.1++[e.1]) k):=fun k=>by
    rw[aq k,hh,Bool.and_false,eN]
   refine wS ?_;refine⟨(p.1++[e.1],e),trivial,by show(gL _ _).length+0<(gL _ _).length+0;exact Zmm aa au,?_⟩;(refine To.of [] ?_;cbv;(try simp only[nc]);(repeat' (first|exact trivial|exact Zy.refl _|exact ZG.refl _|refine⟨?_,?_⟩|refine ZG.cells ?_|refine Zy.agg ?_|refine Zy.tup ?_));(all_goals (first|exact XQ|skip)));all_goals exact .bool (Z _)
  intro v h hh;obtain⟨m2,cf,rfl⟩:=hh;have bh:m2=manyT t:=by
   rcases cf with h|⟨_,_,_,h,_⟩
   ·exact h.1
   cases h
  rw[<-bh]at a9;generalize Zgg t d.toNat=ML at*;refine wS ?_;refine ZJ false false [] [18,84,85] [.tok 1 fun _=>0] (fun p:Nat×List Int=>[(85,.int .i64 fun _=>(p.1:Int)),(18,.isl 1 (fun _=>(p.2.length:Int)) (fun e=>Q9 (nt Int 0 p.2 (e ()))) (.own 5))]) (fun p=>[(5,.tok 1 fun _=>(p.2.length:Int))])
   (fun p=>p.1<=4/\p.2.length<=p.1/\p.2=((aR p.1).filter fun r=>H m2 r).map fun(r:Nat)=>(r:Int)) (fun p=>4-p.1+0) (0,[]) ⟨aW _,aJ _,rfl⟩ ?_ ?_
  ·(refine To.of [(1,false)] ?_;cbv;(try simp only[nc]);(repeat' (first|exact trivial|exact Zy.refl _|exact ZG.refl _|refine⟨?_,?_⟩|refine ZG.cells ?_|refine Zy.agg ?_|refine Zy.tup ?_));(all_goals (first|exact XQ|skip)))
  intro p hp;refine wS ?_;refine⟨fun h1=>?_,fun h1=>?_⟩
  ·simp only[decide_eq_true_eq]at h1;have bo:p.1<4:=by omega
   have az:=hp.2.2;have ac:= @List.range_succ p.1;have cj:=hp.2.1;have bt:=Zw8 (fun r=>H m2 r) (i:=p.1) bo;refine vS ?_;simp only[bt];try refine Chk.mk (ZE) ?_
   refine⟨fun Y=>?_,fun Y=>?_⟩
   ·refine wS ?_;refine⟨(p.1+1,p.2++[(p.1:Int)]),⟨by show p.1+1<=4;omega,by show(p.2++[(p.1:Int)]).length<=p.1+1;rw[bf];show p.2.length+1<=_;omega,?_⟩,by show 4-(p.1+1)+0<4-p.1+0;omega,?_⟩
    ·show p.2++[(p.1:Int)]=_;rw[ac,gY,dD,<-az];simp[Y]
    exact ZF
   refine wS ?_;refine⟨(p.1+1,p.2),⟨by show p.1+1<=4;omega,by show p.2.length<=p.1+1;omega,?_⟩,by show 4-(p.1+1)+0<4-p.1+0;omega,?_⟩
   ·show p.2=_;rw[ac,gY,dD,<-az];simp[Y]
   exact ZF
  simp only[decide_eq_false_iff_not]at h1;have h4:p.1=4:=by have:=hp.1;omega
  have hr:p.2=ML:=by rw[hp.2.2,h4,a9]
  subst hE;refine wS ?_;rw[hr];refine⟨_,[],?_,rfl,rfl⟩;exact ZF
 have hE:ZbE t d=([],Zr t):=by
  unfold ZbE;rw[if_pos V]
 rw[hE];unfold QW at k;rw[if_neg V]at k;generalize Zr t=e at*;unfold Zf at*;simp only[Za O,Zc,Zq]at*;refine SC.less (QN Tryz.func41 (body:=Zj Tryz.f41) rfl (by decide+kernel) ?_);refine wS ?_;refine ZqW (k) ?_;refine wS ?_;refine⟨fun h=>?_,fun h=>?_⟩
 ·refine wS ?_;refine⟨_,[],?_,rfl,rfl⟩;exact ZF
 exact absurd (by simpa only[bne_eq_false_iff_eq]using h) V
end Vm
namespace Vm
open Go Go.Conc Go.Proofs Conc1
def Zi0 (A:Array TypeId) (ty:TypeId) (cs:Array Bool) (ch:Nat):Deferred:={target:=.builtin .close A ty cs,args:= #[.chan (some ch)]}
def ZaO (n:Nat) (ds:List Deferred):Frame:={(default:Frame)with fn:=n,defers:=ds,mode:=.panicking [goexitEntry]}
section
variable {P:Program} {ch cell:Nat} {f:FuncId} {fn:Func} {t:Array Value} {todo:List Item}
theorem Zwa (J:P.funcs[f]? =some fn) (hr:fn.results= #[]):QuitsD P 2 0 (G {mkF ⟨f,true,none,[]⟩ t [] todo with mode:=.returning} [ZaO P.funcs.size []]):=by
 refine .inr ⟨rfl,G (ZaO P.funcs.size []) [], #[],by simp,fun w=>?_,.inr ⟨rfl,{frame:=ZaO P.funcs.size [],callers:=[],status:=.finished,dying:=none}, #[],by simp,fun w=>?_,⟨rfl,rfl⟩⟩⟩
 ·have A:results fn t=pure (.tuple #[]):=by
   unfold results;rw[hr];simp
  have I:(results fn t).run P w= .ok (.tuple #[]) w:=by rw[A];rfl
  have H:(results fn t).events P w #[]= #[]:=by rw[A];rfl
  simp[G,stepG,unwind,doReturn,mkF,FB.kind,J,I,H,GStep.after,ZaO,goexitEntry,seen_none]
 have h:(default:Frame).todo=[]:=rfl;simp[G,stepG,unwind,ZaO,goexitEntry,Frame.catches,h]
theorem ZqZ {H:Array TypeId} {ty:TypeId} {cs:Array Bool} (hf:P.funcs[f]? =some fn) (hr:fn.results= #[]):
  Zjj P (fun n=>n=cell\/n=ch) ch {mkF ⟨f,true,none,[]⟩ t [Zi0 H ty cs ch] todo with mode:=.returning} [ZaO P.funcs.size []]:=by
 refine⟨rfl,G {mkF ⟨f,true,none,[]⟩ t [] todo with mode:=.returning} [ZaO P.funcs.size []], #[⟨.obj ch,false,true⟩],2,fun w J s r Y h=>?_,fun e he=>.inr (by simpa using he),Zwa hf hr⟩
 have e:Builtin.close_ H ty #[.chan (some ch)]=(getObj ch>>=fun o=>match o with
   |.chan room J I U A S=>(do
    if I then runtimePanic (.plain "close of closed channel")
    setObj ch (.chan room J true U A S)
    pure (.tuple #[]))
   |_=>stuck "close: no channel in this block"):=rfl
 have V:invoke (.builtin .close H ty cs) #[.chan (some ch)]=(Builtin.close_ H ty #[.chan (some ch)]>>=fun x=>pure (.value x)):=rfl;have h1:(invoke (.builtin .close H ty cs) #[.chan (some ch)]).run P w= .ok (.value (.tuple #[])) (w.setChan ch 0 J true s r Y):=by
  rw[V,e];simp[getObj,setObj,aP,Sem.run,h,World.setChan]
 have h2:(invoke (.builtin .close H ty cs) #[.chan (some ch)]).events P w #[]= #[⟨.obj ch,false,true⟩,⟨.obj ch,true,true⟩]:=by
  rw[V,e];unfold Sem.events;show(Sem.runT P (Sem.getObj ch _) w #[]).2=_;simp only[Sem.runT,h];show(Sem.runT P (Sem.setObj ch _ _) w _).2=_;simp only[Sem.runT,h];rfl
 have Z:seen P f #[⟨.obj ch,false,true⟩,⟨.obj ch,true,true⟩]= #[⟨.obj ch,false,true⟩,⟨.obj ch,true,true⟩]:=by
  simp[seen]
 simp[G,stepG,unwind,callDeferred,mkF,Zi0,h1,h2,Z,GStep.after]
theorem Zqr {fr:Frame} {cs:List Frame} {w:World} {J S:Frame} {E:RP} {s:Nat} {tm:Bool} (hk:kf P fr cs=some (ch,cell,E)) (Y:Zn4 P fr cs J S) (hE:Zri P ch cell E (J,cs)) (U:w.heap[ch]? =some (.chan 0 #[] false s s tm))
  (H:w.cell? ⟨cell,0,none⟩=some (.chan (some ch))) (A:ch≠cell) {f1:Frame} {c1:List Frame} (h0:∀main w,stepG P main (G S []) w= .go (G f1 c1) w) {V:World} (hF:Fz cell V w) {b:Cf} (Z:StepsC P (some ch) ⟨f1,c1,V⟩ b)
  {L:List Bool} {s' r':Nat} {tm':Bool} (hb:b.w.heap[ch]? =some (.chan 0 (L.map Value.bool).toArray false s' r' tm')) (aa:Zjj P (fun n=>n=cell\/n=ch) ch b.fr b.cs):
  ∃I,Fz cell b.w I/\StepsC P none ⟨fr,cs,w⟩ ⟨(got (E L) false false).1,(got (E L) false false).2,I.setChan ch 0 #[] true s' s' tm'⟩:=by
 obtain⟨I,h1,h2,_⟩:=StepsC.child (KF:=kf P) (R:=E) A Z w hF ⟨#[],s,s,tm,(hF.ne ch A).symm.trans U⟩;refine⟨I,h2,.one ?_⟩;exact .head (.go hk Y hE U H A) (.head (.cown (Ow.ctl h0)) (ZdX.trans h1 (.head (.close aa ((h2.ne ch A).trans hb)) (.refl _))))
theorem Jk {x y:Frame×List Frame} (h:∀w,stepG P true (G x.1 x.2) w= .go (G y.1 y.2) w):ZeM P ch cell x y:=fun w _=>⟨#[],h w,fun e A=>by simp at A⟩
variable {b:FB} {ds:List Deferred} {k:List Item} {cs:List Frame}
theorem Zqg:ZeM P ch cell (mkF b t ds (.code .skip::k),cs) (mkF b t ds k,cs):=Jk fun _=>rfl
theorem Ze6 {id:Nat}:ZeM P ch cell (mkF b t ds (.inBlock id::k),cs) (mkF b t ds k,cs):=Jk fun _=>rfl
theorem JM {x y:Code}:ZeM P ch cell (mkF b t ds (.code (.seq x y)::k),cs) (mkF b t ds (.code x:: .code y::k),cs):=Jk fun _=>rfl
theorem ZjT {c:Operand} {x y:Code} {v:Bool} (h:QH t c= .bool v):ZeM P ch cell (mkF b t ds (.code (.cond c x y)::k),cs) (mkF b t ds (.code (if v then x else y)::k),cs):=
 Jk fun _=>by
  have h:(mkF b t ds (.code (.cond c x y)::k)).eval c= .bool v:=by rw[Zcz];exact h
  simp only[mkF]at h;simp[stepG,stepG.exec,mkF,G,h]
theorem ZhI {id:Nat} {c:Code}:ZeM P ch cell (mkF b t ds (.code (.block id c)::k),cs) (mkF b t ds (.code c:: .inBlock id::k),cs):=Jk fun _=>rfl
theorem Zqh {c:Code}:ZeM P ch cell (mkF b t ds (.code (.loop c)::k),cs) (mkF b t ds (.code c:: .inLoop c::k),cs):=Jk fun _=>rfl
theorem Zgv {c:Code}:ZeM P ch cell (mkF b t ds (.inLoop c::k),cs) (mkF b t ds (.code c:: .inLoop c::k),cs):=Jk fun _=>rfl
theorem XK {id:Nat} {ops:Array Oper} {l:List Nat} (A:aR ops.size=l):ZeM P ch cell (mkF b t ds (.code (.region id ops false)::k),cs) (mkF b t ds (.inRegion ops l::k),cs):=Jk fun _=>by subst A;simp[stepG,stepG.exec,mkF,G]
theorem XE {ops:Array Oper}:ZeM P ch cell (mkF b t ds (.inRegion ops []::k),cs) (mkF b t ds k,cs):=Jk fun _=>by simp[stepG,stepG.exec,mkF,G]
structure JE (ops:Array Oper) (i:Nat) (d:Option Tmp) (op:Op):Prop where
 ok:∃o,ops[i]? =some o/\o.op=op/\o.dst=d/\o.guard=none
theorem ZeG {ops:Array Oper} {i:Nat} {rest:List Nat} {o:Oper} {v:Value} {w w':World} {es:Array Event} (A:ops[i]? =some o) (J:o.guard=none) (I:∀c,o.op≠ .defer c) (hr:(execOp (QH t) o).runT P w #[]=(.ok (.value v) w',es)) (main:Bool):
  stepG P main (G (mkF b t ds (.inRegion ops (i::rest)::k)) cs) w= .go (G (mkF b (Z2 t o.dst v) ds (.inRegion ops rest::k)) cs) w' (seen P b.fn es):=by
 have H:(mkF b t ds (.inRegion ops (i::rest)::k)).finish v=mkF b (Z2 t o.dst v) ds (.inRegion ops rest::k):=by rw[Xq,A];rfl
 rw[Zc6 A (by simp[Region.wanted,J]) I,<-H];unfold stepG.apply;simp only[if_true,hr,b.not_early,show((mkF b t ds (.inRegion ops (i::rest)::k)).kind==CallKind.early)=false from b.not_early,aX,if_false];simp[GStep.after,G,mkF]
theorem Jz {ops:Array Oper} {i:Nat} {rest:List Nat} {d:Option Tmp} {op:Op} {v:Value} (H:JE ops i d op) (S:∀c,op≠ .defer c) (hr:∀o:Oper,o.op=op->execOp (QH t) o=pure (.value v)):
  ZeM P ch cell (mkF b t ds (.inRegion ops (i::rest)::k),cs) (mkF b (Z2 t d v) ds (.inRegion ops rest::k),cs):=by
 obtain⟨o,I,A,G,J⟩:=H.ok;refine Jk fun w=>?_;have:=ZeG (P:=P) (b:=b) (ds:=ds) (k:=k) (cs:=cs) (rest:=rest) (w:=w) (w':=w) (v:=v) (es:= #[]) I J (fun c=>by rw[A];exact S c) (by rw[hr o A];rfl) true;rw[seen_none,G]at this;exact this
theorem Zqi {ops:Array Oper} {i:Nat} {rest:List Nat} {d:Option Tmp} {T:TypeId} {a:Operand} {dr:ChanDir} {B:TypeId} (H:JE ops i d (.load T a)) (S:P.underlying T=some (.chan dr B)) (Z:QH t a= .pointer (some ⟨cell,0,none⟩)):
  ZeM P ch cell (mkF b t ds (.inRegion ops (i::rest)::k),cs) (mkF b (Z2 t d (.chan (some ch))) ds (.inRegion ops rest::k),cs):=by
 obtain⟨o,I,A,G,J⟩:=H.ok;intro w hw;have hr:(execOp (QH t) o).runT P w #[]=(.ok (.value (.chan (some ch))) w, #[⟨.cell ⟨cell,0,none⟩,false,false⟩]):=by
  have e:execOp (QH t) o=(Instr.loadAt T (.pointer (some ⟨cell,0,none⟩))>>=fun x=>pure (.value x)):=by
   unfold execOp;simp only[A,Z]
  rw[e];have Y:∀es,(isAgg T).runT P w es=(.ok false w,es):=fun es=>by
   unfold isAgg underlying;show(Sem.bind (Sem.bind program _) _).runT P w es=_;rw[Sem.runT_bind',Sem.runT_bind',show program.runT P w es=(.ok P w,es)from rfl];simp only[S];rfl
  have V:∀es,(load ⟨cell,0,none⟩).runT P w es=(.ok (.chan (some ch)) w,es.push ⟨.cell ⟨cell,0,none⟩,false,false⟩):=fun es=>by
   unfold load;simp only[Sem.runT,hw];rfl
  show(Sem.bind (Sem.bind (isAgg T) _) _).runT P w #[]=_;rw[Sem.runT_bind',Sem.runT_bind',Y];simp only[aX,if_false];rw[V];rfl
 have:=ZeG (P:=P) (b:=b) (ds:=ds) (k:=k) (cs:=cs) (rest:=rest) I J (fun c=>by rw[A];intro h;cases h) hr true;rw[G]at this;exact⟨_,this,fun e U=>by simpa using mem_seen U⟩
end
end Vm
namespace Vm
open Go Go.Conc Go.Proofs Conc1
structure ZbF (T I I':TypeId) (fid:FuncId) (o2 o3 o4 o5 o6 o7 o8 o9 o10:Array Oper):Prop where
 s2:aR o2.size=[0,1,2]
 s3:aR o3.size=[0,1]
 s4:aR o4.size=[0,1]
 s5:aR o5.size=[0]
 s6:aR o6.size=[0,1]
 s7:aR o7.size=[0,1]
 s8:aR o8.size=[0]
 s9:aR o9.size=[0,1,2]
 s10:aR o10.size=[0,1,2]
 a20:JE o2 0 (some 37) (.makeChan T (.const (.int .i64 0)))
 a21:JE o2 1 (some 11) (.alloc T)
 a22:JE o2 2 none (.store T (.tmp 11) (.tmp 37))
 a30:JE o3 0 (some 38) (.makeFunc (.func fid) #[] #[.tmp 11,.tmp 4,.tmp 9,.tmp 10])
 a31:JE o3 1 none (.go {callee:=.value (.tmp 38),args:= #[],argTypes:= #[]})
 a40:JE o4 0 (some 12) (.assign (.const (.int .i64 0)))
 a41:JE o4 1 (some 13) (.assign (.const (.int .i64 0)))
 a50:JE o5 0 (some 39) (.load T (.tmp 11))
 a60:JE o6 0 (some 40) (.recv T (.tmp 39) true)
 a61:JE o6 1 (some 41) (.extract (.tmp 40) 1)
 a70:JE o7 0 (some 42) (.extract (.tmp 40) 0)
 a71:JE o7 1 (some 14) (.assign (.tmp 42))
 a80:JE o8 0 (some 43) (.move (.tmp 14))
 a90:JE o9 0 (some 44) (.move (.tmp 12))
 a91:JE o9 1 (some 45) (.binOp .add I (.tmp 44) (.const (.int .i64 1)) I')
 a92:JE o9 2 (some 12) (.assign (.tmp 45))
 a100:JE o10 0 (some 46) (.move (.tmp 13))
 a101:JE o10 1 (some 47) (.binOp .add I (.tmp 46) (.const (.int .i64 1)) I')
 a102:JE o10 2 (some 13) (.assign (.tmp 47))
def Zjb:Value->Value
 |.int .i64 n=>.int .i64 (IntKind.i64.wrap (n+1))
 |v=>v
def st0 (ch:Nat) (t:Array Value):Array Value:=Z2 (Z2 (Z2 t (some 12) (.int .i64 0)) (some 13) (.int .i64 0)) (some 39) (.chan (some ch))
def Zfh (t:Array Value) (v:Bool):Array Value:=Z2 (Z2 (Z2 (Z2 (Z2 t (some 40) (.tuple #[.bool v,.bool true])) (some 41) (.bool true)) (some 42) (.bool v)) (some 14) (.bool v)) (some 43) (.bool v)
def stp (t:Array Value) (v:Bool):Array Value:=match v with
 |true=>Z2 (Z2 (Z2 (Zfh t v) (some 44) (t.getD 12 undef)) (some 45) (Zjb (t.getD 12 undef))) (some 12) (Zjb (t.getD 12 undef))
 |false=>Z2 (Z2 (Z2 (Zfh t v) (some 46) (t.getD 13 undef)) (some 47) (Zjb (t.getD 13 undef))) (some 13) (Zjb (t.getD 13 undef))
def cnt (w:Bool):List Bool->Int->Int
 |[],n=>n
 |v::l,n=>cnt w l (if v=w then IntKind.i64.wrap (n+1)else n)
theorem Z6 {t:Array Value} {d:Option Tmp} {v:Value}:(Z2 t d v).size=t.size:=by cases d<;>simp[Z2]
theorem YL {t:Array Value} {d:Nat} {v:Value} (h:d<t.size):(Z2 t (some d) v).getD d undef=v:=by
 simp[Z2,aI,h]
theorem QR {t:Array Value} {d i:Nat} {v:Value} (h:d≠i):(Z2 t (some d) v).getD i undef=t.getD i undef:=by
 simp[Z2,aI,aF h]
theorem Xv {t:Array Value} {d:Nat} {v:Value} (h:d<t.size):QH (Z2 t (some d) v) (.tmp d)=v:=YL h
theorem YQ {t:Array Value} {d i:Nat} {v:Value} (h:d≠i):QH (Z2 t (some d) v) (.tmp i)=QH t (.tmp i):=QR h
structure Zhq (t0 t:Array Value) (ch cell:Nat) (y n:Int):Prop where
 size:t.size=t0.size
 c11:t.getD 11 undef= .pointer (some ⟨cell,0,none⟩)
 c39:t.getD 39 undef= .chan (some ch)
 c12:t.getD 12 undef= .int .i64 y
 c13:t.getD 13 undef= .int .i64 n
theorem Zhq.step {G t:Array Value} {ch cell:Nat} {y n:Int} (h:Zhq G t ch cell y n) (H:47<G.size) (v:Bool):Zhq G (stp t v) ch cell (if v=true then IntKind.i64.wrap (y+1)else y) (if v=false then IntKind.i64.wrap (n+1)else n):=by
 have A:=h.size;cases v
 ·refine⟨?_,?_,?_,?_,?_⟩
  ·simp only[stp,Zfh,Z6];exact A
  ·simp only[stp,Zfh];repeat rw[QR (by decide)]
   exact h.c11
  ·simp only[stp,Zfh];repeat rw[QR (by decide)]
   exact h.c39
  ·simp only[stp,Zfh];repeat rw[QR (by decide)]
   exact h.c12
  simp only[stp];rw[YL (by simp only[Zfh,Z6];omega),h.c13];rfl
 refine⟨?_,?_,?_,?_,?_⟩
 ·simp only[stp,Zfh,Z6];exact A
 ·simp only[stp,Zfh];repeat rw[QR (by decide)]
  exact h.c11
 ·simp only[stp,Zfh];repeat rw[QR (by decide)]
  exact h.c39
 ·simp only[stp];rw[YL (by simp only[Zfh,Z6];omega),h.c12];rfl
 simp only[stp,Zfh];repeat rw[QR (by decide)]
 exact h.c13
theorem Zhq.fold {A:Array Value} {ch cell:Nat} (G:47<A.size):∀(L:List Bool) {t:Array Value} {y n:Int},Zhq A t ch cell y n->Zhq A (L.foldl stp t) ch cell (cnt true L y) (cnt false L n)
 |[],_,_,_,h=>h
 |v::L,_,_,_,h=>by
  have:=Zhq.fold G L (h.step G v);exact this
section
variable {P:Program} {ch cell:Nat} {b:FB} {ds:List Deferred} {k:List Item} {cs:List Frame}
variable {T I I':TypeId} {fid:FuncId} {o2 o3 o4 o5 o6 o7 o8 o9 o10:Array Oper}
theorem Zf0 {T:TypeId} {d:TypeDesc} {w:World} {es:Array Event} (h:P.underlying T=some d):(underlying T).runT P w es=(.ok d w,es):=by
 unfold underlying;show(Sem.bind program _).runT P w es=_;rw[Sem.runT_bind',show program.runT P w es=(.ok P w,es)from rfl];simp only[h];rfl
theorem Zd6 {T:TypeId} {i:TypeInfo} {w:World} {es:Array Event} (h:P.info? T=some i):(typeInfo T).runT P w es=(.ok i w,es):=by
 unfold typeInfo;show(Sem.bind program _).runT P w es=_;rw[Sem.runT_bind',show program.runT P w es=(.ok P w,es)from rfl];simp only[h];rfl
theorem ZfZ {T:TypeId} {i:TypeInfo} {v:Value} {w:World} {es:Array Event} (h:P.info? T=some i) (hv:i.zero=some v):(zeroValue T).runT P w es=(.ok v w,es):=by
 unfold zeroValue;show(Sem.bind (typeInfo T) _).runT P w es=_;rw[Sem.runT_bind',Zd6 h];simp only[hv];rfl
theorem Zew {t:Array Value} {x:Operand} {v:Value} (h:QH t x=v):∀o:Oper,o.op= .move x->execOp (QH t) o=pure (.value v):=fun o A=>by
 unfold execOp;simp only[A,h]
theorem Jt {t:Array Value} {x:Operand} {v:Value} (h:QH t x=v):∀o:Oper,o.op= .assign x->execOp (QH t) o=pure (.value v):=fun o A=>by
 unfold execOp;simp only[A,h]
theorem JN {t:Array Value} {x:Operand} {vs:Array Value} {i:Nat} {v:Value} (h:QH t x= .tuple vs) (hv:vs[i]? =some v):∀o:Oper,o.op= .extract x i->execOp (QH t) o=pure (.value v):=fun o A=>by
 unfold execOp;simp only[A,h,Instr.extract,hv];rfl
theorem Zkc {t:Array Value} {x:Operand} {n:Int} (h:QH t x= .int .i64 n):∀o:Oper,o.op= .binOp .add I x (.const (.int .i64 1)) I'->execOp (QH t) o=pure (.value (Zjb (.int .i64 n))):=fun o A=>by
 unfold execOp;simp only[A,h];rfl
def lpB (i6 i7 i8 i9 i10 b0 b1:Nat) (G I J H A:Array Oper):Code:=
 .seq (.region i6 G false) (.seq (.cond (.tmp 41) .skip (.exit b0)) (.block b1 (.seq (.region i7 I false) (.seq (.region i8 J false) (.cond (.tmp 43) (.region i9 H false) (.region i10 A false))))))
def atR (i6 i7 i8 i9 i10 b0 b1:Nat) (G I J H A:Array Oper) (k:List Item) (r:List Nat):List Item:=
 .inRegion G r:: .code (.seq (.cond (.tmp 41) .skip (.exit b0)) (.block b1 (.seq (.region i7 I false) (.seq (.region i8 J false) (.cond (.tmp 43) (.region i9 H false) (.region i10 A false)))))):: .inLoop (lpB i6 i7 i8 i9 i10 b0 b1 G I J H A):: .inBlock b0::k
theorem Zlx {J U i6 i7 i8 i9 i10 b0 b1:Nat} {A:Code} (H:ZbF T I I' fid o2 o3 o4 o5 o6 o7 o8 o9 o10) {dr:ChanDir} {B:TypeId} (S:P.underlying T=some (.chan dr B)) {t:Array Value} (G:QH t (.tmp 11)= .pointer (some ⟨cell,0,none⟩)):
  ZeL P ch cell 15 (mkF b t ds (.inRegion o3 []:: .code (.seq (.region J o4 false) (.seq (.seq (.region U o5 false) (.block b0 (.loop (lpB i6 i7 i8 i9 i10 b0 b1 o6 o7 o8 o9 o10)))) A))::k),cs) (mkF b (st0 ch t) ds (atR i6 i7 i8 i9 i10 b0 b1 o6 o7 o8 o9 o10 (.code A::k) [0,1]),cs):=by
 refine .succ XE (.succ JM (.succ (XK H.s4) (.succ (Jz H.a40 (fun _ h=>by cases h) (Jt rfl)) (.succ (Jz H.a41 (fun _ h=>by cases h) (Jt rfl)) (.succ XE ?_)))));refine .succ JM (.succ JM (.succ (XK H.s5) (.succ (Zqi H.a50 S ?_) (.succ XE ?_))))
 ·rw[YQ (by decide),YQ (by decide)];exact G
 exact .succ ZhI (.succ Zqh (.succ JM (.succ (XK H.s6) (.zero _))))
theorem ZnC {i6 i7 i8 i9 i10 b0 b1:Nat} (H:ZbF T I I' fid o2 o3 o4 o5 o6 o7 o8 o9 o10) {G t:Array Value} {y n:Int} (S:47<G.size) (h:Zhq G t ch cell y n) (v:Bool):
  ZeL P ch cell 25 (mkF b (Z2 t (some 40) (.tuple #[.bool v,.bool true])) ds (atR i6 i7 i8 i9 i10 b0 b1 o6 o7 o8 o9 o10 k [1]),cs) (mkF b (stp t v) ds (atR i6 i7 i8 i9 i10 b0 b1 o6 o7 o8 o9 o10 k [0,1]),cs):=by
 have J:=h.size;have A:QH (Z2 t (some 40) (.tuple #[.bool v,.bool true])) (.tmp 40)= .tuple #[.bool v,.bool true]:=Xv (by omega);refine .succ (Jz H.a61 (fun _ h=>by cases h) (JN (v:=.bool true) A rfl)) (.succ XE (.succ JM (.succ (ZjT (v:=true) (Xv (by simp only[Z6];omega))) ?_)));refine .succ Zqg (.succ ZhI (.succ JM (.succ (XK H.s7) ?_)));refine .succ (Jz H.a70 (fun _ h=>by cases h) (JN (v:=.bool v) ((YQ (by decide)).trans A) rfl)) ?_;refine .succ (Jz H.a71 (fun _ h=>by cases h) (Jt (Xv (by simp only[Z6];omega)))) (.succ XE (.succ JM (.succ (XK H.s8) ?_)));refine .succ (Jz H.a80 (fun _ h=>by cases h) (Zew (Xv (by simp only[Z6];omega)))) (.succ XE (.succ (ZjT (v:=v) (Xv (by simp only[Z6];omega))) ?_));cases v
 ·refine .succ (XK H.s10) (.succ (Jz H.a100 (fun _ h=>by cases h) (Zew (v:=t.getD 13 undef) ?_)) ?_)
  ·rw[YQ (by decide),YQ (by decide),YQ (by decide),YQ (by decide),YQ (by decide)];rfl
  have e:Zjb (.int .i64 n)=Zjb (t.getD 13 undef):=by rw[h.c13]
  refine .succ (Jz H.a101 (fun _ h=>by cases h) (Zkc (n:=n) ((Xv (by simp only[Z6];omega)).trans h.c13))) ?_;rw[e];exact .succ (Jz H.a102 (fun _ h=>by cases h) (Jt (Xv (by simp only[Z6];omega)))) (.succ XE (.succ Ze6 (.succ Zgv (.succ JM (.succ (XK H.s6) (.zero _))))))
 refine .succ (XK H.s9) (.succ (Jz H.a90 (fun _ h=>by cases h) (Zew (v:=t.getD 12 undef) ?_)) ?_)
 ·rw[YQ (by decide),YQ (by decide),YQ (by decide),YQ (by decide),YQ (by decide)];rfl
 have e:Zjb (.int .i64 y)=Zjb (t.getD 12 undef):=by rw[h.c12]
 refine .succ (Jz H.a91 (fun _ h=>by cases h) (Zkc (n:=y) ((Xv (by simp only[Z6];omega)).trans h.c12))) ?_;rw[e];exact .succ (Jz H.a92 (fun _ h=>by cases h) (Jt (Xv (by simp only[Z6];omega)))) (.succ XE (.succ Ze6 (.succ Zgv (.succ JM (.succ (XK H.s6) (.zero _))))))
def Zqo (i6 i7 i8 i9 i10 b0 b1:Nat) (G I J H A:Array Oper) (b:FB) (ds:List Deferred) (k:List Item) (cs:List Frame) (t:Array Value):RP:=fun L=>(mkF b (L.foldl stp t) ds (atR i6 i7 i8 i9 i10 b0 b1 G I J H A k [0,1]),cs)
theorem ZiP {t:Array Value} (G:47<t.size) (A:t.getD 11 undef= .pointer (some ⟨cell,0,none⟩)) (L:List Bool):Zhq t (L.foldl stp (st0 ch t)) ch cell (cnt true L 0) (cnt false L 0):=by
 have H:Zhq t (st0 ch t) ch cell 0 0:=by
  refine⟨?_,?_,?_,?_,?_⟩
  ·simp only[st0,Z6]
  ·simp only[st0];rw[QR (by decide),QR (by decide),QR (by decide)];exact A
  ·exact YL (by simp only[Z6];omega)
  ·simp only[st0];rw[QR (by decide),QR (by decide)];exact YL (by omega)
  simp only[st0];rw[QR (by decide)];exact YL (by simp only[Z6];omega)
 exact H.fold G L
theorem ZnE {U Y i6 i7 i8 i9 i10 b0 b1:Nat} {A:Code} (H:ZbF T I I' fid o2 o3 o4 o5 o6 o7 o8 o9 o10) {dr:ChanDir} {B:TypeId} (Z:P.underlying T=some (.chan dr B)) (hB:∃i,P.info? B=some i/\i.zero=some (.bool false)) {t:Array Value} (hs:47<t.size)
  (S:t.getD 11 undef= .pointer (some ⟨cell,0,none⟩)) (ae:t.getD 37 undef= .chan (some ch)) {fr:Frame} {ab:Frame} (ac:fr=mkF b t ds (.inRegion o3 [1]:: .code (.seq (.region U o4 false) (.seq (.seq (.region Y o5 false) (.block b0 (.loop (lpB i6 i7 i8 i9 i10 b0 b1 o6 o7 o8 o9 o10)))) A))::k))
  (aa:Zn4 P fr cs (mkF b t ds (.inRegion o3 []:: .code (.seq (.region U o4 false) (.seq (.seq (.region Y o5 false) (.block b0 (.loop (lpB i6 i7 i8 i9 i10 b0 b1 o6 o7 o8 o9 o10)))) A))::k)) ab):
  kf P fr cs=some (ch,cell,Zqo i6 i7 i8 i9 i10 b0 b1 o6 o7 o8 o9 o10 b ds (.code A::k) cs (st0 ch t))/\Zri P ch cell (Zqo i6 i7 i8 i9 i10 b0 b1 o6 o7 o8 o9 o10 b ds (.code A::k) cs (st0 ch t)) (mkF b t ds (.inRegion o3 []:: .code (.seq (.region U o4 false) (.seq (.seq (.region Y o5 false) (.block b0 (.loop (lpB i6 i7 i8 i9 i10 b0 b1 o6 o7 o8 o9 o10)))) A))::k),cs):=by
 have gd:∀i v,i<t.size->t.getD i undef=v->t[i]? =some v:=fun i v h e=>by
  rw[aI,aY h]at e;rw[aY h];exact congrArg some e
 have hL:=ZiP (ch:=ch) hs S;subst ac;refine Zwn (gd 37 _ (by omega) ae) (gd 11 _ (by omega) S) aa ⟨15,by decide,Zlx H Z S⟩ (fun L w hw=>⟨#[],?_,fun e he=>by simp at he⟩) fun L v=>⟨25,by decide,?_⟩
 ·obtain⟨o,V,J,hd,hg⟩:=H.a60.ok;obtain⟨i,hi,hz⟩:=hB;show stepG P true (G (mkF b (L.foldl stp (st0 ch t)) ds (.inRegion o6 [0,1]::_)) cs) w=_;rw[Zc6 V (by simp[Region.wanted,hg]) (fun c=>by rw[J];intro h;cases h)];have hr:(execOp (QH (L.foldl stp (st0 ch t))) o).runT P w #[]=(.ok (.comm #[rcase ch (.bool false)] true (.recv true)) w, #[]):=by
   unfold execOp;simp only[J,show QH (L.foldl stp (st0 ch t)) (.tmp 39)= .chan (some ch)from(hL L).c39];show(Sem.bind (underlying T) _).runT P w #[]=_;rw[Sem.runT_bind',Zf0 Z];show(Sem.bind (zeroValue B) _).runT P w #[]=_;rw[Sem.runT_bind',ZfZ hi hz];rfl
  unfold stepG.apply;simp only[if_true,hr];have hk:=b.not_early;simp[GStep.after,G,mkF,seen_none,hk];exact⟨rfl,rfl⟩
 have:=ZnC (P:=P) (b:=b) (ds:=ds) (k:=.code A::k) (cs:=cs) (i6:=i6) (i7:=i7) (i8:=i8) (i9:=i9) (i10:=i10) (b0:=b0) (b1:=b1) H hs (hL L) v;unfold Zqo;rw[List.foldl_append];obtain⟨o,V,J,hd,hg⟩:=H.a60.ok;have e:got (mkF b (L.foldl stp (st0 ch t)) ds (atR i6 i7 i8 i9 i10 b0 b1 o6 o7 o8 o9 o10 (.code A::k) [0,1]),cs) v true=(mkF b (Z2 (L.foldl stp (st0 ch t)) (some 40) (.tuple #[.bool v,.bool true])) ds (atR i6 i7 i8 i9 i10 b0 b1 o6 o7 o8 o9 o10 (.code A::k) [1]),cs):=by
  unfold got atR;rw[Xq,V];show(mkF b (Z2 _ o.dst _) ds _,cs)=_;rw[hd]
 rw[e];exact this
end
end Vm
namespace Vm
open Go Go.Conc Go.Proofs Conc1
section
variable {P:Program} {b:FB} {ds:List Deferred} {k:List Item} {cs:List Frame} {t:Array Value}
theorem ZfO {cx:Option Nat} {ops:Array Oper} {i:Nat} {rest:List Nat} {d:Option Tmp} {op:Op} {v:Value} {nv:Next} {w w':World} (H:JE ops i d op) (U:∀c,op≠ .defer c) (hm:∀o:Oper,o.op=op->Zv P (fun _=>False) (execOp (QH t) o))
  (hr:∀o:Oper,o.op=op->(execOp (QH t) o).run P w= .ok nv w') (I:nv= .value v\/(nv= .skip/\v=undef)):
  One P cx (ZH (mkF b t ds (.inRegion ops (i::rest)::k)) cs w) (ZH (mkF b (Z2 t d v) ds (.inRegion ops rest::k)) cs w'):=by
 obtain⟨o,J,A,G,S⟩:=H.ok;rw[<-G];exact ZaH J (by simp[Region.wanted,S]) (fun c=>by rw[A];exact U c) (hm o A) (hr o A) I
theorem Zjs {ops:Array Oper} {rest:List Nat} {i d:Nat} {T:TypeId} {dr:ChanDir} {B:TypeId} {w:World} (H:JE ops i (some d) (.makeChan T (.const (.int .i64 0)))) (U:P.underlying T=some (.chan dr B)) (Y:∃i,P.info? B=some i):
  One P none (ZH (mkF b t ds (.inRegion ops (i::rest)::k)) cs w) (ZH (mkF b (Z2 t (some d) (.chan (some w.heap.size))) ds (.inRegion ops rest::k)) cs {w with heap:=w.heap.push (.chan 0 #[] false 0 0 false)}):=by
 obtain⟨o,I,A,G,S⟩:=H.ok;obtain⟨iB,J⟩:=Y;have hr:∀w:World,(execOp (QH t) o).runT P w #[]=(.ok (.value (.chan (some w.heap.size))) {w with heap:=w.heap.push (.chan 0 #[] false 0 0 false)}, #[]):=fun w=>by
  have e:execOp (QH t) o=(Instr.makeChan T (.int .i64 0)>>=fun x=>pure (.value x)):=by
   unfold execOp;simp only[A];rfl
  rw[e];unfold Instr.makeChan;show(Sem.bind (Sem.bind (underlying T) _) _).runT P w #[]=_;rw[Sem.runT_bind',Sem.runT_bind',Zf0 U];dsimp only;rw[show∀f:TypeInfo->Sem Value,(typeInfo B>>=f)=Sem.bind (typeInfo B) f from fun _=>rfl,Sem.runT_bind',Zd6 J];dsimp only;rw[if_neg (by simp[IntKind.max];decide)];rfl
 refine StepsC.main ?_;refine .one (.head (.own ⟨Nat,Sem.new (.chan 0 #[] false 0 0 false) Sem.pure,fun n=>(mkF b (Z2 t (some d) (.chan (some n))) ds (.inRegion ops rest::k),cs),w.heap.size, #[],fun main w Z x es h=>?_,rfl,rfl,fun e V=>by simp at V⟩) (.refl _));have h:((.ok w.heap.size {w with heap:=w.heap.push (.chan 0 #[] false 0 0 false)}:Result Nat),(#[]:Array Event))=(.ok x Z,es):=h;simp only[Prod.mk.injEq,Result.ok.injEq]at h;obtain⟨⟨rfl,rfl⟩,rfl⟩:=h;have:=ZeG (P:=P) (b:=b) (ds:=ds) (k:=k) (cs:=cs) (rest:=rest) I S (fun c=>by rw[A];intro h;cases h) (hr w) main;rw[G]at this;exact this
theorem Zmv {α:Type} {A:Array α} {x y:α} {j:Nat} (h:j≠A.size):(A.push x)[j]? =(A.push y)[j]? :=by
 rw[bK,bK,if_neg h,if_neg h]
theorem VR.setCx {R:RC} {a:AV} {v:Value} (c:Option Nat) (h:VR R a v):VR {R with cx:=c} a v:=by
 induction h with
 |pure a v h=>exact .pure a v h
 |undef v=>exact .undef v
 |ptr id A h=>exact .ptr (R:={R with cx:=c}) id A h
 |own s n f id v h hp J G=>exact .own s n f id v h hp J G
 |nn s n f v hp hv=>exact .nn s n f v hp hv
 |aptr id s e A i h G=>exact .aptr (R:={R with cx:=c}) id s e A i h G
 |msl id s lo n c i len ae h ah J hc ab=>exact .msl (R:={R with cx:=_}) id s lo n c i len ae h ah J hc ab
 |gsl id n a l c h J G Y=>exact .gsl id n a l c h J G Y
 |gptr id s n e A a h J G=>exact .gptr id s n e A a h J G
 |nsub id e l a ll c H i h hv G V Y=>exact .nsub id e l a ll c H i h hv G V Y
 |nptr id s e k A H i b o l c j h hv G V hk=>exact .nptr id s e k A H i b o l c j h hv G V hk
 |lit s cs b o H hs U Z h3 I=>exact .lit s cs b o H hs U I h3
 |map id h=>exact .map (R:={R with cx:=c}) id h
 |mit id h h0=>exact .mit (R:={R with cx:=c}) id h h0
 |fn f xs bs H vs S hb U Z aa ac=>exact .fn f xs bs H vs S hb aa ac
 |yld id h=>exact .yld (R:={R with cx:=c}) id h
 |agg cs H S h I=>exact .agg cs H S I
 |tup cs H S h I=>exact .tup cs H S I
 |gd g a v h I=>exact .gd g a v I
 |ob g b v U Z=>exact .ob g b v U Z
structure KC (P:Program) (fid:FuncId) (xs:Nat->List AV) (L:List Bool):Prop where
 run:∀(ch:Nat) (R:RC) (vs:Array Value),HR (fun _ _ _=>True) R [.gob (.chq ch fun _=>[])]->R.cx=some ch->R.n0=1->X0 R (xs ch) vs->∀cs,∃t todo w' s r tm ts ty c,
  StepsC P (some ch) ⟨dM P fid vs .deferred,cs,R.w⟩ ⟨{mkF ⟨fid,true,none,[]⟩ t [Zi0 ts ty c ch] todo with mode:=.returning},cs,w'⟩/\w'.heap[ch]? =some (.chan 0 (L.map Value.bool).toArray false s r tm)/\
  (∀b,b<R.w.heap.size->b≠ch->w'.heap[b]? =R.w.heap[b]?)/\R.w.heap.size<=w'.heap.size/\w'.os=R.w.os/\w'.tape=R.w.tape/\w'.output=R.w.output
def wCh (w:World) (v:Value) (T:TypeId) (f:Nat×Nat):World:={w with heap:=(w.heap.push (.chan 0 #[] false 0 0 false)).push (.cells #[v] T f)}
theorem ZkS {w:World} {v:Value} {T:TypeId} {f:Nat×Nat} {b:Nat} (h:b<w.heap.size):(wCh w v T f).heap[b]? =w.heap[b]? :=by
 show((w.heap.push _).push _)[b]? =_;rw[bK,if_neg (by simp;omega),bK,if_neg (by omega)]
theorem Zon {w:World} {v:Value} {T:TypeId} {f:Nat×Nat}:(wCh w v T f).heap[w.heap.size]? =some (.chan 0 #[] false 0 0 false):=by
 show((w.heap.push _).push _)[w.heap.size]? =_;rw[bK,if_neg (by simp),bK,if_pos rfl]
theorem Zdn {w:World} {v:Value} {T:TypeId} {f:Nat×Nat}:(wCh w v T f).heap[w.heap.size+1]? =some (.cells #[v] T f):=by
 show((w.heap.push _).push _)[w.heap.size+1]? =_;rw[bK,if_pos (by simp)]
theorem ZbS {w:World} {v:Value} {T:TypeId} {f:Nat×Nat}:(wCh w v T f).heap.size=w.heap.size+2:=by
 show((w.heap.push _).push _).size=_;simp
theorem Zd4 {w:World} {v:Value} {T:TypeId} {f:Nat×Nat}:(wCh w v T f).cell? ⟨w.heap.size+1,0,none⟩=some v:=by
 unfold bU;rw[Zdn];rfl
theorem Zkq {w w':World} {b:Nat} (h:w'.heap[b]? =w.heap[b]?) (i:Nat):w'.cell? ⟨b,i,none⟩=w.cell? ⟨b,i,none⟩:=by
 unfold bU;simp only[h]
end
theorem ZqP {G:Nat->Nat->Nat->Prop} {R:RC} {h:List Zh} (H:HR G R h) (T:TypeId):∃I:RC,I.w=wCh R.w (.chan (some R.w.heap.size)) T (0,1)/\I.cx=some R.w.heap.size/\I.n0=1/\HR (fun _ _ _=>True) I [.gob (.chq R.w.heap.size fun _=>[])]/\
  (∀k a v,VR R a v->VR I (Qs true [] h k a) v)/\VR I (.iptr [.cch R.w.heap.size] 0) (.pointer (some ⟨R.w.heap.size+1,0,none⟩)):=by
 obtain⟨J,ae,a0,V,Y,a3,a4,a5,Z,a7,a8⟩:=H.sel (fz:=true) (ι:=[]) (fun _ _ _=>True) (fun _ _ _ _=>trivial) (fun _ _ _ _ _ _ _ _=>trivial) (fun _ _ _ _=>trivial) (fun _ _ _ _ _ _ _ _ _=>trivial) List.nodup_nil (fun i A=>by cases A) (fun _ _ _ _ _ _ _ _ _=>trivial) 0 (aW _) (fun _=>aW _);let n:=R.w.heap.size;let I:RC:={J with w:=wCh R.w (.chan (some n)) T (0,1),cx:=some n,m:=1,n0:=1,α:=fun _=>⟨n,0⟩,ok:=fun b _ _=>b<n+2/\b≠n};have hs:I.w.heap.size=n+2:=ZbS;have aa:({J with cx:=some n}:RC).le I:=by
  refine⟨by show J.m<=1;rw[Y];exact aW _,fun id A=>?_,fun id A=>?_,fun id A=>?_,fun b o m S=>?_,fun b o m S j U=>?_,fun b S es ac e=>?_,rfl⟩
  ·have A:id<J.m:=A;rw[Y]at A;exact absurd A (fe _)
  ·have A:id<J.m:=A;rw[Y]at A;exact absurd A (fe _)
  ·have A:id<J.m:=A;rw[Y]at A;exact absurd A (fe _)
  ·have:=((Z.okd b o m).1 S).1;rw[V]at this;exact⟨by show b<R.w.heap.size+2;omega,by show b≠R.w.heap.size;omega⟩
  ·have:=((Z.okd b o m).1 S).1;rw[V]at this;show(wCh R.w _ T (0,1)).cell? _=J.w.cell? _;rw[V];exact Zkq (ZkS this) _
  have:=((Z.okd b 0 1).1 S).1;rw[V]at this;show(wCh R.w _ T (0,1)).heap[b]? =_;rw[ZkS this,<-V];exact e
 refine⟨I,rfl,rfl,rfl,⟨rfl,fun b o m=>?_,fun id blk A=>?_,fun i j bi bj b ab A U=>?_,fun _ _ _ _ _ _ _ _=>trivial,fun _ _ _ _=>trivial,fun _ _ _ _ _ _ _ _=>trivial,aJ 1⟩,fun k a v hv=>((a8 k a v hv).setCx (some n)).mono aa,.pure _ _ (.iptr _ _ _ _ (fun _=>.chan (some n)) (fun j c U=>?_) (fun j c U=>?_) ?_)⟩
 ·rw[hs];refine⟨fun S=>⟨S.1,trivial,fun id blk A=>?_⟩,fun S=>⟨S.1,fun e=>?_⟩⟩
  ·cases id with
   |zero=>
    cases A;show¬n=b;exact fun e=>S.2 e.symm
   |succ id=>simp at A
  exact S.2.2 0 _ rfl (show n=b from e.symm)
 ·cases id with
  |zero=>
   cases A;exact⟨.chan 0 #[] false 0 0 false,Zon,rfl,rfl,rfl,0,0,false,rfl⟩
  |succ id=>simp at A
 ·cases i with
  |zero=>
   cases j with
   |zero=>exact absurd rfl ab
   |succ j=>simp at U
  |succ i=>simp at A
 ·cases j with
  |zero=>
   cases U;exact Zd4
  |succ j=>simp at U
 ·cases j with
  |zero=>
   cases U;exact .cch n
  |succ j=>simp at U
 exact⟨by show n+1<n+2;omega,by show n+1≠n;omega⟩
section
variable {P:Program} {b:FB} {ds:List Deferred} {k:List Item} {cs:List Frame} {t:Array Value}
variable {T I I':TypeId} {fid:FuncId} {o2 o3 o4 o5 o6 o7 o8 o9 o10:Array Oper}
theorem ZnD {i2 i3:Nat} {X:Code} (G:ZbF T I I' fid o2 o3 o4 o5 o6 o7 o8 o9 o10) {dr:ChanDir} {B:TypeId} (hU:P.underlying T=some (.chan dr B)) (hT:∃i,P.info? T=some i/\i.size=1/\i.zero=some (.chan none)) (hB:∃i,P.info? B=some i) (aa:t.size=51) (w:World):
  Steps P none (ZH (mkF b t ds (.code (.region i2 o2 false):: .code (.seq (.region i3 o3 false) X)::k)) cs w)
   (ZH (mkF b (Z2 (Z2 (Z2 t (some 37) (.chan (some w.heap.size))) (some 11) (.pointer (some ⟨w.heap.size+1,0,none⟩))) (some 38) (.func (.func fid) #[] #[.pointer (some ⟨w.heap.size+1,0,none⟩),t.getD 4 undef,t.getD 9 undef,t.getD 10 undef])) ds (.inRegion o3 [1]:: .code X::k)) cs (wCh w (.chan (some w.heap.size)) T (0,0))):=by
 obtain⟨iT,Y,hs,hz⟩:=hT;refine .head Zct ?_;rw[G.s2];refine .head (Zjs G.a20 hU hB) ?_;refine .head (ZfO (nv:=.value (.pointer (some ⟨w.heap.size+1,0,none⟩))) (w':=wCh w (.chan none) T (0,0)) G.a21 (fun _ h=>by cases h) (fun o A=>?_) (fun o A=>?_) (.inl rfl)) ?_
 ·unfold execOp;simp only[A];exact Zg (fun _=>Zgm) fun _ _=>Zn
 ·have V:(zeroValue T).run P {w with heap:=w.heap.push (.chan 0 #[] false 0 0 false)}= .ok (.chan none) {w with heap:=w.heap.push (.chan 0 #[] false 0 0 false)}:=by
   have:=ZfZ (w:={w with heap:=w.heap.push (.chan 0 #[] false 0 0 false)}) (es:= #[]) Y hz;rw[Sem.runT_eq]at this;exact congrArg gt this
  unfold execOp;simp only[A];simp only[Instr.alloc,aP,V,aH,newVar,newRow,newObj,Value.cells];simp[Sem.run,wCh]
 refine .head (ZfO (nv:=.skip) (v:=undef) (w':=wCh w (.chan (some w.heap.size)) T (0,0)) G.a22 (fun _ h=>by cases h) (fun o A=>?_) (fun o A=>?_) (.inr ⟨rfl,rfl⟩)) ?_
 ·unfold execOp;simp only[A];exact Zg (fun _=>ZdC) fun _ _=>Zn
 ·have J:QH (Z2 (Z2 t (some 37) (.chan (some w.heap.size))) (some 11) (.pointer (some ⟨w.heap.size+1,0,none⟩))) (.tmp 11)= .pointer (some ⟨w.heap.size+1,0,none⟩):=Xv (by simp only[Z6];omega);have H:QH (Z2 (Z2 t (some 37) (.chan (some w.heap.size))) (some 11) (.pointer (some ⟨w.heap.size+1,0,none⟩))) (.tmp 37)= .chan (some w.heap.size):=(YQ (by decide)).trans (Xv (by omega));unfold execOp;simp only[A,J,H];have Z:(sizeOf T).run P (wCh w (.chan none) T (0,0))= .ok 1 (wCh w (.chan none) T (0,0)):=by
   have:=Zd6 (w:=wCh w (.chan none) T (0,0)) (es:= #[]) Y;rw[Sem.runT_eq]at this;have h:=congrArg gt this;unfold sizeOf;have h:(typeInfo T).run P (wCh w (.chan none) T (0,0))= .ok iT (wCh w (.chan none) T (0,0)):=h;rw[aP,h,aH,hs];rfl
  simp only[Instr.storeAt,Instr.sureAddr,aP,Sem.run_pure,aH,storeVar,Z];rw[if_neg (by simp[Value.cells])];have hc:(wCh w (.chan none) T (0,0)).cell? (Addr.add ⟨w.heap.size+1,0,none⟩ 0)=some (.chan none):=Zd4;have U:(wCh w (.chan none) T (0,0)).frozen? (Addr.add ⟨w.heap.size+1,0,none⟩ 0)=false:=by
   unfold World.frozen?;rw[show(Addr.add ⟨w.heap.size+1,0,none⟩ 0).block=w.heap.size+1 from rfl,Zdn];simp
  have S:(wCh w (.chan none) T (0,0)).setCell (Addr.add ⟨w.heap.size+1,0,none⟩ 0) (.chan (some w.heap.size))=wCh w (.chan (some w.heap.size)) T (0,0):=by
   unfold World.setCell wCh;simp only[World.mk.injEq,and_true];apply Array.ext_getElem?;intro j;show(((w.heap.push _).push _).modify (w.heap.size+1) _)[j]? =_;rw[Array.getElem?_modify];by_cases hj:w.heap.size+1=j
   ·subst hj;rw[if_pos rfl,bK,if_pos (by simp),bK,if_pos (by simp)];rfl
   rw[if_neg hj];exact Zmv (by simpa using Ne.symm hj)
  simp[Value.cells,storeCells,store,aP,Sem.run,hc,U,S]
 refine .head Y8 (.head Zih (.head Zct ?_));rw[G.s3];refine .head (ZfO (nv:=.value _) (v:=.func (.func fid) #[] #[.pointer (some ⟨w.heap.size+1,0,none⟩),t.getD 4 undef,t.getD 9 undef,t.getD 10 undef]) (w':=wCh w (.chan (some w.heap.size)) T (0,0)) G.a30 (fun _ h=>by cases h) (fun o A=>?_) (fun o A=>?_) (.inl rfl)) (.refl _)
 ·unfold execOp;simp only[A];trivial
 have J:(QH (Z2 (Z2 t (some 37) (.chan (some w.heap.size))) (some 11) (.pointer (some ⟨w.heap.size+1,0,none⟩)))) (.tmp 11)= .pointer (some ⟨w.heap.size+1,0,none⟩):=Xv (by simp only[Z6];omega);have H:(QH (Z2 (Z2 t (some 37) (.chan (some w.heap.size))) (some 11) (.pointer (some ⟨w.heap.size+1,0,none⟩)))) (.tmp 4)=t.getD 4 undef:=(YQ (by decide)).trans (YQ (by decide));have e3:(QH (Z2 (Z2 t (some 37) (.chan (some w.heap.size))) (some 11) (.pointer (some ⟨w.heap.size+1,0,none⟩)))) (.tmp 9)=t.getD 9 undef:=(YQ (by decide)).trans (YQ (by decide));have e4:(QH (Z2 (Z2 t (some 37) (.chan (some w.heap.size))) (some 11) (.pointer (some ⟨w.heap.size+1,0,none⟩)))) (.tmp 10)=t.getD 10 undef:=(YQ (by decide)).trans (YQ (by decide));unfold execOp;have e0:∀u:Array Value,Z2 u none undef=u:=fun _=>rfl;simp only[A,Instr.makeFunc,List.map_toArray,List.map_cons,List.map_nil,e0,J,H,e3,e4];rfl
theorem Zly {fn:Func} {body:Code} (H:P.funcs[fid]? =some fn) (I:fn.body=some body) (A:(fn.name== "runtime.NumGoroutine")=false) (vs:Array Value) (main:Bool) (w:World):
  stepG P main (G (ZaO P.funcs.size [{target:=.fn (.func fid) vs,args:= #[]}]) []) w= .go (G (dM P fid vs .deferred) [ZaO P.funcs.size []]) w:=by
 have hr:(invoke (.fn (.func fid) vs) #[]).run P w= .ok (.enter fid vs) w:=by
  have A:¬fn.name= "runtime.NumGoroutine" :=by simpa using A
  simp[invoke,callFunc,aP,program,Sem.run,H,I,A]
 have J:(invoke (.fn (.func fid) vs) #[]).events P w #[]= #[]:=by
  have A:¬fn.name= "runtime.NumGoroutine" :=by simpa using A
  unfold invoke callFunc Sem.events;simp only;show((Sem.bind program _).runT P w #[]).2=_;rw[Sem.runT_bind',show program.runT P w #[]=(.ok P w, #[])from rfl];simp only[H,I];simp[A]
 simp[G,stepG,unwind,ZaO,callDeferred,hr,J,GStep.after,seen_none]
theorem ZsJ {vs:Array Value} {X:Code} (HO:ZbF T I I' fid o2 o3 o4 o5 o6 o7 o8 o9 o10) (J:QH t (.tmp 38)= .func (.func fid) #[] vs):
  Zn4 P (mkF b t ds (.inRegion o3 [1]:: .code X::k)) cs (mkF b t ds (.inRegion o3 []:: .code X::k)) (ZaO P.funcs.size [{target:=.fn (.func fid) vs,args:= #[]}]):=by
 obtain⟨o,H,A,Y,U⟩:=HO.a31.ok;intro w;refine⟨#[],?_,fun e V=>by simp at V⟩;have Z:(mkF b t ds (.inRegion o3 [1]:: .code X::k)).finish undef=mkF b t ds (.inRegion o3 []:: .code X::k):=by
  rw[Xq,H];show mkF b (Z2 t o.dst undef) ds _=_;rw[Y];rfl
 have e:execOp (QH t) o=pure (.spawn {target:=.fn (.func fid) vs,args:= #[]}):=by
  unfold execOp;simp only[A,resolve,J,Deferred.ofValue];simp
 rw[Zc6 H (by simp[Region.wanted,U]) (fun c=>by rw[A];intro h;cases h),e,<-Z];unfold stepG.apply;have S:=b.not_early;simp[GStep.after,G,mkF,seen_none,S,ZaO]
end
section
variable {P:Program} {T I I':TypeId} {fid:FuncId} {o2 o3 o4 o5 o6 o7 o8 o9 o10:Array Oper}
theorem Zqn {b:FB} {ds:List Deferred} {k:List Item} {cs:List Frame} {t:Array Value} {w:World} {i6 i7 i8 i9 i10 b0 b1:Nat} (H:ZbF T I I' fid o2 o3 o4 o5 o6 o7 o8 o9 o10) (U:t.size=51):
  Steps P none (ZH (got (mkF b t ds (atR i6 i7 i8 i9 i10 b0 b1 o6 o7 o8 o9 o10 k [0,1]),cs) false false).1 (got (mkF b t ds (atR i6 i7 i8 i9 i10 b0 b1 o6 o7 o8 o9 o10 k [0,1]),cs) false false).2 w)
   (ZH (mkF b (Z2 (Z2 t (some 40) (.tuple #[.bool false,.bool false])) (some 41) (.bool false)) ds k) cs w):=by
 obtain⟨o,A,S,J,V⟩:=H.a60.ok;have e:got (mkF b t ds (atR i6 i7 i8 i9 i10 b0 b1 o6 o7 o8 o9 o10 k [0,1]),cs) false false=(mkF b (Z2 t (some 40) (.tuple #[.bool false,.bool false])) ds (atR i6 i7 i8 i9 i10 b0 b1 o6 o7 o8 o9 o10 k [1]),cs):=by
  unfold got atR;rw[Xq,A];show(mkF b (Z2 _ o.dst _) ds _,cs)=_;rw[J]
 rw[e];have G:QH (Z2 t (some 40) (.tuple #[.bool false,.bool false])) (.tmp 40)= .tuple #[.bool false,.bool false]:=Xv (by omega);unfold atR;refine .head (ZfO (nv:=.value _) (v:=.bool false) (w':=w) H.a61 (fun _ h=>by cases h) (fun o A=>?_) (fun o A=>?_) (.inl rfl)) ?_
 ·rw[JN G rfl o A];trivial
 ·rw[JN (v:=.bool false) G rfl o A];rfl
 refine .head Y8 (.head Zih (.head (Zmh (v:=false) ?_) (.head (Zmg ?_) (.refl _))))
 ·rw[Zcz];exact Xv (by simp only[Z6];omega)
 simp[exitTo]
theorem Zwh {R:RC} {t:Array Value} {y n:Int} (H:t.size=51) (G:t.getD 12 undef= .int .i64 y) (I:t.getD 13 undef= .int .i64 n):SL R (mkS 51 [(12,.int .i64 fun _=>y),(13,.int .i64 fun _=>n)]) t:=by
 refine⟨by rw[H];rfl,fun i a A=>?_⟩;by_cases e13:i=13
 ·subst e13;have A:some (AV.int .i64 fun _=>n)=some a:=A;cases A;rw[I];exact .pure _ _ (.int _ _)
 by_cases e12:i=12
 ·subst e12;have A:some (AV.int .i64 fun _=>y)=some a:=A;cases A;rw[G];exact .pure _ _ (.int _ _)
 have A:(((List.replicate 51 AV.undef).set 12 (.int .i64 fun _=>y)).set 13 (.int .i64 fun _=>n))[i]? =some a:=A;rw[cR (Ne.symm e13),cR (Ne.symm e12),List.getElem?_replicate]at A;split at A
 ·cases A;exact .undef _
 cases A
theorem ZsI {p:Unit->Program} {nb:Nat} {K:Ex->List AV->List Zh->Cd->Prop} {s:List AV} {h:List Zh} {i2 i3 i4 i5 i6 i7 i8 i9 i10 b0 b1:Nat} {V:Code} (HO:ZbF T I I' fid o2 o3 o4 o5 o6 o7 o8 o9 o10) {dr:ChanDir} {B:TypeId}
  (hU:(p ()).underlying T=some (.chan dr B)) (hT:∃i,(p ()).info? T=some i/\i.size=1/\i.zero=some (.chan none)) (hB:∃i,(p ()).info? B=some i/\i.zero=some (.bool false))
  {fn:Func} {body:Code} (hf:(p ()).funcs[fid]? =some fn) (hb:fn.body=some body) (hn:(fn.name== "runtime.NumGoroutine")=false) (hr:fn.results= #[]) (bl:s.length=51) (ao:h[0]? =some .main)
  {x4 x9 ai:AV} (h4:Qs true [] h 5 (s.getD 4 .undef)=x4) (h9:Qs true [] h 5 (s.getD 9 .undef)=x9) (bx:Qs true [] h 5 (s.getD 10 .undef)=ai) {L:List Bool} (child:KC (p ()) fid (fun ch=>[.iptr [.cch ch] 0,x4,x9,ai]) L)
  (rest:HP false nb p [.code V] K (mkS 51 [(12,.int .i64 fun _=>cnt true L 0),(13,.int .i64 fun _=>cnt false L 0)]) h):
  HP false nb p [.code (.region i2 o2 false),.code (.seq (.region i3 o3 false) (.seq (.region i4 o4 false) (.seq (.seq (.region i5 o5 false) (.block b0 (.loop (lpB i6 i7 i8 i9 i10 b0 b1 o6 o7 o8 o9 o10)))) V)))] K s h:=by
 refine⟨fun hK U S bz R t A hs b J k cs hd=>?_⟩;have a9:R.cx=none:=A.hr.blk 0 .main ao;have aw:t.size=51:=hs.1.trans bl;have S1:=ZnD (P:=p ()) (b:=b.1) (ds:=J) (k:=k) (cs:=cs) (t:=t) (i2:=i2) (i3:=i3) (X:=.seq (.region i4 o4 false) (.seq (.seq (.region i5 o5 false) (.block b0 (.loop (lpB i6 i7 i8 i9 i10 b0 b1 o6 o7 o8 o9 o10)))) V)) HO hU hT (hB.imp fun _ h=>h.1) aw R.w;generalize ce:(#[.pointer (some ⟨R.w.heap.size+1,0,none⟩),t.getD 4 undef,t.getD 9 undef,t.getD 10 undef]:Array Value)=vs at S1;generalize ae:Z2 (Z2 (Z2 t (some 37) (.chan (some R.w.heap.size))) (some 11) (.pointer (some ⟨R.w.heap.size+1,0,none⟩))) (some 38) (.func (.func fid) #[] vs)=t3 at S1;have aj:t3.size=51:=by rw[<-ae];simp only[Z6];exact aw
 have ca:QH t3 (.tmp 38)= .func (.func fid) #[] vs:=by rw[<-ae];exact Xv (by simp only[Z6];omega)
 have am:t3.getD 11 undef= .pointer (some ⟨R.w.heap.size+1,0,none⟩):=by rw[<-ae];exact(QR (by decide)).trans (YL (by simp only[Z6];omega))
 have bt:t3.getD 37 undef= .chan (some R.w.heap.size):=by rw[<-ae];exact(QR (by decide)).trans ((QR (by decide)).trans (YL (by omega)))
 have ar:=ZsJ (P:=p ()) (b:=b.1) (ds:=J) (k:=k) (cs:=cs) (X:=.seq (.region i4 o4 false) (.seq (.seq (.region i5 o5 false) (.block b0 (.loop (lpB i6 i7 i8 i9 i10 b0 b1 o6 o7 o8 o9 o10)))) V)) HO ca;obtain⟨bu,hE⟩:=ZnE (P:=p ()) (ch:=R.w.heap.size) (cell:=R.w.heap.size+1) (b:=b.1) (ds:=J) (k:=k) (cs:=cs) HO hU hB (t:=t3) (by omega) am bt rfl ar;obtain⟨al,r1,r2,r3,r4,r5,r6⟩:=ZqP A.hr T;have bk:X0 al [.iptr [.cch R.w.heap.size] 0,x4,x9,ai] vs:=by
  subst ce;refine⟨rfl,fun j c G=>?_⟩;match j,G with
  |0,G=>cases G;exact r6
  |1,G=>
   cases G;rw[<-h4];exact r5 5 _ _ (hs.getD 4)
  |2,G=>
   cases G;rw[<-h9];exact r5 5 _ _ (hs.getD 9)
  |3,G=>
   cases G;rw[<-bx];exact r5 5 _ _ (hs.getD 10)
  |j+4,G=>simp at G
 obtain⟨tc,cf,wc,sc,rc,au,ts,ty,c,g1,g2,g3,g4,g5,g6,g7⟩:=child.run R.w.heap.size al vs r4 r2 r3 bk [ZaO (p ()).funcs.size []];rw[r1]at g1 g3 g4 g5 g6 g7;have bo:Fz (R.w.heap.size+1) (wCh R.w (.chan (some R.w.heap.size)) T (0,1)) (wCh R.w (.chan (some R.w.heap.size)) T (0,0)):=by
  refine⟨rfl,rfl,rfl,rfl,by rw[ZbS,ZbS],fun j G=>?_,_,T,(0,0),Zdn,Zdn⟩;exact Zmv (by simpa using G)
 obtain⟨w',Y,S2⟩:=Zqr (P:=p ()) bu ar hE Zon Zd4 (by omega) (fun main w=>Zly hf hb hn vs main w) bo g1 g2 (ZqZ hf hr);have S3:=Zqn (P:=p ()) (b:=b.1) (ds:=J) (k:=.code V::k) (cs:=cs) (t:=L.foldl stp (st0 R.w.heap.size t3)) (w:=w'.setChan R.w.heap.size 0 #[] true sc sc au) (i6:=i6) (i7:=i7) (i8:=i8) (i9:=i9) (i10:=i10) (b0:=b0) (b1:=b1) HO ((ZiP (by omega) am L).size.trans aj);have ah:=ZiP (ch:=R.w.heap.size) (cell:=R.w.heap.size+1) (t:=t3) (by omega) am L;generalize ak:Z2 (Z2 (L.foldl stp (st0 R.w.heap.size t3)) (some 40) (.tuple #[.bool false,.bool false])) (some 41) (.bool false)=tz at S3;have bh:tz.size=51:=by rw[<-ak];simp only[Z6];exact ah.size.trans aj
 have bm:tz.getD 12 undef= .int .i64 (cnt true L 0):=by rw[<-ak];exact(QR (by decide)).trans ((QR (by decide)).trans ah.c12)
 have ba:tz.getD 13 undef= .int .i64 (cnt false L 0):=by rw[<-ak];exact(QR (by decide)).trans ((QR (by decide)).trans ah.c13)
 generalize Z:w'.setChan R.w.heap.size 0 #[] true sc sc au=wz at S2 S3;have H:∀b,b<R.w.heap.size->wz.heap[b]? =R.w.heap[b]? :=fun b hb=>by
  rw[<-Z];show(w'.heap.setIfInBounds R.w.heap.size _)[b]? =_;rw[aF (by omega),Y.ne b (by omega)];exact(g3 b (by rw[ZbS];omega) (by omega)).trans (ZkS hb)
 have aa:R.w.heap.size<=wz.heap.size:=by
  rw[<-Z];show _<=(w'.heap.setIfInBounds R.w.heap.size _).size;rw[Array.size_setIfInBounds,Y.size];rw[ZbS]at g4;exact cF (by omega) g4
 have bp:wz.os=R.w.os:=by rw[<-Z];exact Y.os.trans g5
 have ap:wz.tape=R.w.tape:=by rw[<-Z];exact Y.tape.trans g6
 have bg:wz.output=R.w.output:=by rw[<-Z];exact Y.output.trans g7
 let R':RC:={R with w:=wz,ok:=fun b o n=>b<wz.heap.size/\Gof U S b o n/\Zc2 R h b o n};have az:∀b o n,R.ok b o n->R'.ok b o n:=fun b o n k=>by
  obtain⟨h1,h2,h3⟩:=(A.hr.okd _ _ _).1 k;exact⟨by omega,h2,h3⟩
 have ac:∀b o n,R.ok b o n->∀j,j<n->R'.w.cell? ⟨b,o+j,none⟩=R.w.cell? ⟨b,o+j,none⟩:=fun b o n k j G=>Zkq (H b ((A.hr.okd _ _ _).1 k).1) _;have aq:R.le R':=⟨aJ _,fun _ _=>rfl,fun _ _=>⟨bT _,fun _=>rfl⟩,fun _ _=>.refl _,az,ac,fun b k es cg e=>(H b ((A.hr.okd _ _ _).1 k).1).trans e,rfl⟩;have hH:HR (Gof U S) R' h:=⟨A.hr.len,fun _ _ _=>Iff.rfl,fun id blk ab=>(A.hr.blk id blk ab).mono aq rfl rfl rfl rfl fun b hp=>H b (A.hr.phys_lt ab hp),A.hr.dis,A.hr.cl,fun b o n hb=>A.hr.fresh b o n (cF aa hb),A.hr.tokG,A.hr.n0m⟩;have hx:Xd R h R' h:=⟨rfl,bp,ap,bg,aa,aJ _,fun _ _=>rfl,az,ac,fun b hb _=>H b hb,fun id blk b ab hp=>.inr ⟨id,blk,ab,hp,.inl rfl⟩⟩;have bw:Inv U S R' h:=A.step hH hx aq;obtain⟨e,s',h',b9,t',bq,a1,a2,a5,a6,a7,a8⟩:=rest.run hK U S bz R' tz bw (Zwh bh bm ba) b J k cs (hd.ext A.hr hx);refine⟨e,s',h',b9,t',bq,a1,a2,a5,a6,a7,?_⟩;have bc:R'.cx=none:=a9;rw[bc]at a8;rw[a9];exact Arr.of_steps (Steps.trans S1 (Steps.trans S2 S3)) a8
end
end Vm
end Go.Proofs.YtjgpiclllehgmaaGreat
