/- Lemmas. -/
import Derived.Maps.RangeRun
import Derived.Test.YtjgpiclllehgmaaGreatB4
import Derived.Test.YtjgpiclllehgmaaGreatB3
import Derived.Test.YtjgpiclllehgmaaGreatB0
import Derived.Test.YtjgpiclllehgmaaGreatB2
import Derived.Test.YtjgpiclllehgmaaGreatB1
set_option linter.all false
open Array renaming getElem?_setIfInBounds_ne->aF,toList_filter->gV
open Bool renaming and_eq_true->aT,eq_iff_iff->ew,false_eq_true->aX,false_ne_true->aS,not_eq_true'->cG,or_eq_true->dC,or_true->iI,true_or->cT
open Decidable renaming of_not_not->bQ
open Int renaming le_refl->bT,toNat_natCast->aV
open List renaming all_eq_true->bL,any_eq_false->eR,any_eq_true->eu,contains_eq_mem->eT,filter_cons->fR,getD_eq_getElem?_getD->aA,getElem?_append_left->bO,getElem?_eq_getElem->aD,getElem?_map->aO,getElem?_set_ne->cR,getElem?_set_self->cS,getElem_mem->bM,length_append->bf,length_cons->bF,length_map->bA,length_nil->cE,length_range->cO,length_set->cA,lookup->eV,mem_append->cJ,mem_cons->bG,mem_cons_of_mem->aQ,mem_cons_self->aU,mem_filter->ff,mem_iff_getElem->eh,mem_map->bE,mem_of_getElem?->aZ,mem_range->bW,mem_singleton->aN,pairwise_map->ia,range->aR,take->gI
open List.cons renaming injEq->cB
open Nat renaming le_refl->aJ,lt_succ_self->gA,mul_comm->dZ,zero_le->aW
open Go.Proofs.Tryz renaming prog->aB
namespace Go.Proofs.YtjgpiclllehgmaaGreat
namespace Vm
attribute [local irreducible] Dn
open Go Go.Proofs Sp
set_option maxRecDepth 100000
set_option maxHeartbeats 4000000
theorem Zkg {A : (α : Type) -> α -> List α -> Int -> α} (O : ∀ (α : Type) (d : α) (l : List α) (i : Int), A α d l i = l.getD i.toNat d) (w : WorldL) : Xl w =
    [.isl 1 (fun _ => (w.come.length : Int)) (fun e => [.isl 1 (fun _ => ((A (List Int) [] w.come (e ())).length : Int)) (fun q => Q9 (A Int 0 (A (List Int) [] w.come (e ())) (q ()))) .none]) .none,
     .isl 1 (fun _ => (w.ready.length : Int)) (fun e => [.isl 1 (fun _ => ((A (List Int) [] w.ready (e ())).length : Int)) (fun q => Q9 (A Int 0 (A (List Int) [] w.ready (e ())) (q ()))) .none]) .none,
     .isl 1 (fun _ => (w.go.length : Int)) (fun e => [.isl 1 (fun _ => ((A (List Int) [] w.go (e ())).length : Int)) (fun q => Q9 (A Int 0 (A (List Int) [] w.go (e ())) (q ()))) .none]) .none] := by
  unfold Xl;simp only [Za O, Zam O]
theorem ZxM (t:Zb) (A:Xe t.book) (I:Zx t) (aa:∀w∈t.waits,w.feeder≠w.train) (hr:t.runs.length<=1000000) (J:∀d∈t.delays,d.by_.length<=3):
  SC (fun _=>aB) 85 [Zf t] [] fun v h=>v=lst 3 Xl default (QK t)/\h=[]:=by
 obtain⟨H,O⟩:=Zo;have S:=ZwD t.delays I.dlen J;have k2:=fun x=>Zxx t A I aa hr x;rw[ZfM I.dlen]at S;have ae:((aR (manyT t)).map fun n=>YX t (Zk t n)).length=manyT t:=by rw[bA,cO]
 have Z:∀i:Nat,i<manyT t->H (List Int) [] ((aR (manyT t)).map fun n=>YX t (Zk t n)) (i:Int)=YX t (Zk t i):=fun i hi=>by
  rw[O,aV,aA,aO,List.getElem?_range hi];rfl
 have ah:=ZjO I.dlen J;generalize (aR (manyT t)).map (fun n=>YX t (Zk t n))=L at*;have aj:=ZfI t;have ab:= @Zcp t;generalize QK t=W at*;refine SC.less (QN Tryz.func85 (body:=Zj Tryz.f85) rfl (by decide+kernel) ?_);unfold Zf at*;simp only[Za O,Zam O]at S k2|-;refine wS ?_;refine ZL (S) (by first|rfl|(simp only[Ze,Zd,Zf,Zc,Qa,Xl,Za O];rfl)) fun r V G=>?_;(try simp only[Ze,Zd,Zf,Zc,Qa,Xl,Za O]at G);obtain⟨rfl,rfl⟩:=G;refine wS ?_;refine ZJ false false [] [1,3,4,5] [.tok 3 fun _=>0] (fun(⟨i,out⟩:Nat×List WorldL)=>[(4,.isl 3 (fun _=>(out.length:Int)) (fun e=>Xl (H WorldL default out (e ()))) (.own 1)),(5,.int .i64 fun _=>i)])
  (fun⟨i,out⟩=>[(1,.tok 3 fun _=>(out.length:Int))])
  (fun⟨i,out⟩=>i<=L.length/\out=W.take i) (fun i=>L.length-i.1+0) (0,[]) ⟨aW _,by simp⟩ ?_ ?_
 ·(refine To.of [(3,false)] ?_;cbv;(try simp only[nc]);(repeat' (first|exact trivial|exact Zy.refl _|exact ZG.refl _|refine⟨?_,?_⟩|refine ZG.cells ?_|refine Zy.agg ?_|refine Zy.tup ?_));(all_goals (first|exact XQ|skip)))
 rintro⟨i,out⟩ ⟨hi,ho⟩;have ai:out.length=i:=by rw[ho,List.length_take];omega
 refine wS ?_;refine⟨fun A=>?_,fun A=>?_⟩
 ·have A:=of_decide_eq_true A;have ac:=XW (d:=default) O (l:=W) (i:=i) (by omega);have Y:=k2 (Zk t i);rw[<-Z i (by omega)]at Y;have hw:H WorldL default W (i:Int)=ZfJ t (Zk t i):=by rw[O];exact ab (by omega)
  rw[<-hw]at Y;refine vS ?_;refine Chk.mk (ZE) ?_;refine ZL (Y) (by first|rfl|(simp only[Ze,Zd,Zf,Zc,Qa,Xl,Za O];rfl)) fun r V G=>?_;(try simp only[Ze,Zd,Zf,Zc,Qa,Xl,Za O]at G);obtain⟨rfl,rfl⟩:=G;refine wS ?_;refine⟨(i+1,out++[H WorldL default W (i:Int)]),⟨by omega,by rw[ac,ho]⟩,by show L.length-(i+1)+0<L.length-i+0;omega,?_⟩;refine toR ?_;exact .snoc O rfl rfl (by simp only[Xl,Za O,Zam O];rfl)
 have A:=of_decide_eq_false A;have U:out=W:=by rw[ho,List.take_of_length_le (by omega)]
 subst U;refine wS ?_;refine⟨_,[],?_,rfl,rfl⟩;exact ZF
end Vm
namespace Sp
def Zbc (c:List (List Call)) (n:Int) (s:Step):Int:=
 if QG s.run 0 (n-1)then 3
 else if ZM (c.getD s.run.toNat []) 0 s.from_<0\/ZM (c.getD s.run.toNat []) (ZM (c.getD s.run.toNat []) 0 s.from_+1) s.to_<0 then 3 else 0
def Jh (c:List (List Call)) (n:Int) (a:ZI):Int:=
 if QG a.from_ 0 9||(QG a.goal 0 9||QG a.since 0 43200)then 1
 else if 6<a.steps.length then 6
 else Zm (fun i=>Zbc c n (a.steps.getD i default)) 0 a.steps.length
end Sp
namespace Vm
attribute [local irreducible] Dn
open Go Go.Proofs Sp
set_option maxRecDepth 100000
set_option maxHeartbeats 4000000
def Yi (s:Sp.Step):List AV:=[.int .i64 fun _=>s.run,.int .i64 fun _=>s.from_,.int .i64 fun _=>s.to_]
def Yk (a:ZI):AV:=.agg [.int .i64 fun _=>a.from_,.int .i64 fun _=>a.since,.int .i64 fun _=>a.goal,lst 3 Yi default a.steps]
theorem Zxv (t:Zb) (a:ZI) (hc:Y6 (callsOf t)) (hr:t.runs.length<=1000000) (ha:a.steps.length<=1000000):SC (fun _=>aB) 162 [.iptr (ZX t) 0,Yk a] [] fun v h=>v= .int .i64 (fun _=>Jh (callsOf t) t.runs.length a)/\h=[]:=by
 obtain⟨U,O⟩:=Zo;unfold ZX Yk;simp only[Za O,Zc];refine SC.less (QN Tryz.func162 (body:=Zj Tryz.f162) rfl (by decide+kernel) ?_);generalize G:Jh (callsOf t) t.runs.length a=e;have ab:t.runs.length=(callsOf t).length:=by unfold callsOf;rw[bA]
 generalize ac:callsOf t=c at*;have Z:∀i:Int,0<=i->i<=(t.runs.length:Int)-1->U (List Sp.Call) [] c i∈c:=fun i h0 h1=>by
  have:i.toNat<c.length:=by omega
  rw[O,aA,aD this];exact bM _
 unfold Jh at G;have k1:=ZdP a.from_ 0 9;have k2:=ZdP a.goal 0 9;have k3:=ZdP a.since 0 43200;generalize QG a.from_ 0 9=V at*;generalize QG a.goal 0 9=b2 at*;generalize QG a.since 0 43200=b3 at*;refine wS ?_;refine ZqW (k1) ?_;refine wS ?_;cases V;case true=>
  rw[cT,if_pos rfl]at G;subst G;refine Br.isF rfl ?_;refine wS ?_;refine Br.isF rfl ?_;refine wS ?_;refine Br.isT rfl ?_;refine wS ?_;refine⟨_,[],?_,rfl,rfl⟩;exact ZF
 refine Br.isT rfl ?_;refine wS ?_;refine ZqW (k2) ?_;refine wS ?_;cases b2;case true=>
  rw[cT,iI,if_pos rfl]at G;subst G;refine Br.isF rfl ?_;refine wS ?_;refine Br.isT rfl ?_;refine wS ?_;refine⟨_,[],?_,rfl,rfl⟩;exact ZF
 refine Br.isT rfl ?_;refine wS ?_;refine ZqW (k3) ?_;refine wS ?_;cases b3;case true=>
  rw[if_pos (show(false||(false||true))=true from rfl)]at G;subst G;refine Br.isT rfl ?_;refine wS ?_;refine⟨_,[],?_,rfl,rfl⟩;exact ZF
 rw[if_neg (show¬(false||(false||false))=true by decide)]at G;refine Br.isF rfl ?_;refine wS ?_;refine⟨fun S=>?_,fun S=>?_⟩
 ·have S:=of_decide_eq_true S;rw[if_pos (by omega)]at G;subst G;refine wS ?_;refine⟨_,[],?_,rfl,rfl⟩;exact ZF
 have S:=of_decide_eq_false S;rw[if_neg (by omega)]at G;clear k1 k2 k3;refine wS ?_;refine ZJ false false [] [0,29,30,31] [] (fun(i:Nat)=>[(31,.int .i64 fun _=>(i:Int))]) (fun _=>[]) (fun i=>i<=a.steps.length/\e=Zm (fun i=>Zbc c t.runs.length (a.steps.getD i default)) i (a.steps.length-i)) (fun i=>a.steps.length-i+0) 0 ⟨by omega,G.symm⟩ ?_ ?_
 ·exact ZF
 rintro i ⟨hi,A⟩;refine wS ?_;refine⟨fun hb=>?_,fun hb=>?_⟩;case refine_2=>
  simp only[decide_eq_false_iff_not]at hb;rw[Qt (by omega)]at A;subst A;refine wS ?_;refine⟨_,[],?_,rfl,rfl⟩;exact ZF
 simp only[decide_eq_true_eq]at hb;rw[Qh (by omega)]at A;have aa:Zbc c t.runs.length (a.steps.getD i default)=Zbc c t.runs.length (U Step default a.steps i):=by rw[Xz O]
 rw[aa]at A;generalize hd:U Step default a.steps i=d at*;refine vS ?_;simp only[hd];refine Chk.mk (ZE) ?_;have k5:=ZdP d.run 0 ((t.runs.length:Int)-1);generalize H:Zbc c t.runs.length d=e5 at A;unfold Zbc at H;rw[<-O (List Sp.Call) [] c d.run]at H;refine ZqW (k5) ?_;refine wS ?_;refine⟨fun Y=>?_,fun Y=>?_⟩
 ·rw[if_pos Y]at H;subst H;rw[if_pos (by decide)]at A;subst A;refine wS ?_;refine⟨_,[],?_,rfl,rfl⟩;exact ZF
 rw[if_neg (by rw[Y];exact aS)]at H;have V:=QE Y;have m1:=Z _ V.1 V.2;refine vS ?_;generalize hF:U (List Sp.Call) [] c d.run=F at*;have r1:=hc.row _ m1;have q1:=ZnV F 0 d.from_ (by omega) (by omega);have s1:=YA F 0 d.from_;have q2:=ZnV F (ZM F 0 d.from_+1) d.to_ (by omega) (by omega);simp only[Za O]at q1 q2;try simp only[hF]
 try refine Chk.mk (ZE) ?_
 refine ZqW (q1) ?_;generalize ZM F 0 d.from_=f at*;refine vS ?_;try simp only[hF]
 try refine Chk.mk (ZE) ?_
 refine⟨fun I=>?_,fun I=>?_⟩;case refine_2=>
  have I:f<0:=by simpa only[Bool.not_eq_false',decide_eq_true_eq]using I
  rw[if_pos (.inl I)]at H;subst H;rw[if_pos (by decide)]at A;subst A;refine wS ?_;refine Br.isT (by simpa using I) ?_;refine wS ?_;refine⟨_,[],?_,rfl,rfl⟩;exact ZF
 have I:¬f<0:=by simpa only[cG,decide_eq_false_iff_not]using I
 refine vS ?_;try simp only[hF]
 try refine Chk.mk (ZE) ?_
 refine ZqW (q2) ?_;generalize ZM F (f+1) d.to_=g at*;refine wS ?_;refine⟨fun J=>?_,fun J=>?_⟩
 ·have J:g<0:=by
   cases hf0:decide (f<0)with
   |true=>exact absurd (of_decide_eq_true hf0) I
   |false=>rw[hf0]at J;exact of_decide_eq_true J
  rw[if_pos (.inr J)]at H;subst H;rw[if_pos (by decide)]at A;subst A;refine wS ?_;refine⟨_,[],?_,rfl,rfl⟩;exact ZF
 have J:¬g<0:=by
  cases hf0:decide (f<0)with
  |true=>exact absurd (of_decide_eq_true hf0) I
  |false=>rw[hf0]at J;exact of_decide_eq_false J
 rw[if_neg (by omega)]at H;subst H;rw[if_neg (fun h=>h rfl)]at A;refine wS ?_;refine⟨i+1,⟨by omega,A⟩,by show a.steps.length-(i+1)+0<a.steps.length-i+0;omega,?_⟩;exact ZF
end Vm
namespace Sp
open Vm
def QO (a:ZI) (i:Nat):Step:=a.steps.getD i default
def J8 (t:Zb) (s:Step):Int:=ZM (Zl (callsOf t) s.run) 0 s.from_
def Zjp (t:Zb) (s:Step):Int:=ZM (Zl (callsOf t) s.run) (J8 t s+1) s.to_
def ZfE (t:Zb) (x:List Int) (a:ZI) (taken:List Int) (at_ A:Int) (i:Nat):Bool:=
 !taken.contains (i:Int)&&(decide ((QO a i).from_=at_)&&decide (A<=(ZR t x (QO a i).run (J8 t (QO a i))).goes))
def YY (t:Zb) (x:List Int) (a:ZI) (taken:List Int) (at_ A:Int):Nat->Nat->Option Nat
 |_,0=>none
 |i,n+1=>if ZfE t x a taken at_ A i then some i else YY t x a taken at_ A (i+1) n
def JS (t:Zb) (x:List Int) (a:ZI):Nat->List Int->Int->Int->List Int×Int×Bool
 |0,l,_,_=>(l,0,false)
 |f+1,l,at_,now=>if at_=a.goal then(l,now,true)else match YY t x a l at_ now 0 a.steps.length with
  |none=>(l,0,false)
  |some i=>JS t x a f (l++[(i:Int)]) (QO a i).to_ (ZR t x (QO a i).run (Zjp t (QO a i))).comes
def Zaq (t:Zb) (x:List Int) (a:ZI):List Int×Int×Bool:=JS t x a (a.steps.length+1) [] a.from_ a.since
def ZjV (a:ZI) (l:List Int):Nat:=((aR a.steps.length).filter fun(i:Nat)=> !l.contains (i:Int)).length
theorem Zeu {α:Type} {p q:α->Bool} (A:∀x,q x=true->p x=true):∀ {l:List α} {x:α},x∈l->p x=true->q x=false->(l.filter q).length<(l.filter p).length
 |a::l,x,G,h1,h2=>by
  have I:∀l:List α,(l.filter q).length<=(l.filter p).length:=fun l=>by
   induction l with
   |nil=>exact aJ _
   |cons a l H=>
    rw[fR,fR];cases h:q a with
    |true=>rw[A a h];simpa using H
    |false=>cases p a<;>simp<;>omega
  rw[fR,fR];rcases bG.1 G with rfl|G
  ·rw[h1,h2];have:=I l;simp;omega
  have H:=Zeu A G h1 h2;cases h:q a with
  |true=>rw[A a h];simpa using H
  |false=>cases p a<;>simp<;>omega
theorem ZsH {a:ZI} {l:List Int} {i:Nat} (hi:i<a.steps.length) (h:l.contains (i:Int)=false):ZjV a (l++[(i:Int)])<ZjV a l:=by
 refine Zeu (x:=i) (fun j A=>?_) (bW.2 hi) (by rw[h];rfl) (by simp);simp only[cG,eT,cJ,decide_eq_false_iff_not]at A|-;exact fun h=>A (.inl h)
theorem Zql {a:ZI}:ZjV a []=a.steps.length:=by
 unfold ZjV;rw[show(aR a.steps.length).filter (fun(i:Nat)=> !([]:List Int).contains (i:Int))=aR a.steps.length from List.filter_eq_self.2 fun _ _=>rfl,cO]
theorem Zm0 {t:Zb} {x:List Int} {a:ZI} {f:Nat} {l:List Int} {at_ A:Int} (G:0<f) (h:at_=a.goal):JS t x a f l at_ A=(l,A,true):=by
 cases f with
 |zero=>omega
 |succ f=>rw[JS,if_pos h]
theorem ZmZ {t:Zb} {x:List Int} {a:ZI} {f:Nat} {l:List Int} {at_ A:Int} (H:0<f) (h:at_≠a.goal) (G:YY t x a l at_ A 0 a.steps.length=none):JS t x a f l at_ A=(l,0,false):=by
 cases f with
 |zero=>omega
 |succ f=>rw[JS,if_neg h,G]
theorem ZmY {t:Zb} {x:List Int} {a:ZI} {f:Nat} {l:List Int} {at_ A:Int} {i:Nat} (H:0<f) (h:at_≠a.goal) (G:YY t x a l at_ A 0 a.steps.length=some i):
  JS t x a f l at_ A=JS t x a (f-1) (l++[(i:Int)]) (QO a i).to_ (ZR t x (QO a i).run (Zjp t (QO a i))).comes:=by
 cases f with
 |zero=>omega
 |succ f=>rw[JS,if_neg h,G];rfl
theorem Zse {t:Zb} {a:ZI} (V:Zx t) (h:Jh (callsOf t) t.runs.length a=0) {i:Nat} (hi:i<a.steps.length):
  a.steps.length<=6/\StopIn (callsOf t) (QO a i).run (J8 t (QO a i))/\StopIn (callsOf t) (QO a i).run (Zjp t (QO a i)):=by
 have S:t.runs.length=(callsOf t).length:=by unfold callsOf;rw[bA]
 unfold Jh at h;split at h
 ·cases h
 split at h
 ·cases h
 have A:=Qp h i (by omega) (by omega);unfold Zbc at A;split at A
 ·cases A
 split at A
 ·cases A
 rename_i J I;have G:0<=(QO a i).run/\(QO a i).run<=(t.runs.length:Int)-1:=QE (by cases hq:QG (QO a i).run 0 ((t.runs.length:Int)-1)with|false=>rfl|true=>exact absurd hq J);have H:J8 t (QO a i)<(Zl (callsOf t) (QO a i).run).length:=(YA _ _ _).1;have U:Zjp t (QO a i)<(Zl (callsOf t) (QO a i).run).length:=(YA _ _ _).1;change¬(J8 t (QO a i)<0\/Zjp t (QO a i)<0)at I;exact⟨by omega,⟨G.1,by omega,by omega,H⟩,G.1,by omega,by omega,U⟩
end Sp
namespace Vm
attribute [local irreducible] Dn
open Go Go.Proofs Sp
set_option maxRecDepth 100000
set_option maxHeartbeats 4000000
theorem Zwo {rd:Bool} {nb:Nat} {K:Ex->List AV->List Zh->Cd->Prop} {k:List Item} {s:List AV} {h:List Zh} {ι:Type} (L:List Nat) (n:Nat) (S:ι->List AV) (A:ι->List Zh) (inv:ι->Prop) (G:ι->Nat) (i:ι)
  (hi:inv i) (U:Z7 n h.length=true) (J:Z7 nb n=true) (H:To (trimS n h (Vm.keep L s)) (Vm.sel true (aR n) h) (S i) (A i))
  (step:∀i,inv i->(∀j,inv j->G j<G i->HP rd nb (fun _=>aB) k K (S j) (A j))->HP rd nb (fun _=>aB) k K (S i) (A i)):HP rd nb (fun _=>aB) k K s h:=by
 have I:∀(m:Nat) (i:ι),G i<m->inv i->HP rd nb (fun _=>aB) k K (S i) (A i):=by
  intro m;induction m with
  |zero=>intro i h;omega
  |succ m V=>exact fun i hm hi=>step i hi fun j Y Z=>V j (by omega) Y
 exact Zbv L n U J H (I (G i+1) i (gA _) hi)
theorem Zqp {rd:Bool} {nb:Nat} {K:Ex->List AV->List Zh->Cd->Prop} {k:List Item} {s:List AV} {h:List Zh} {ι:Type} (L:List Nat) (n:Nat) (ex:List Zh) (ch:ι->List (Nat×AV)) (A:ι->List (Nat×Zh)) (inv:ι->Prop) (G:ι->Nat) (i:ι)
  (hi:inv i) (J:Z7 n h.length=true) (I:Z7 nb n=true) (H:To (trimS n h (Vm.keep L s)) (Vm.sel true (aR n) h) (Y9 (Vm.keep L s) (ch i)) (Ym (Vm.sel true (aR n) h++ex) (A i)))
  (step:∀i,inv i->(∀j,inv j->G j<G i->HP rd nb (fun _=>aB) k K (Y9 (Vm.keep L s) (ch j)) (Ym (Vm.sel true (aR n) h++ex) (A j)))->HP rd nb (fun _=>aB) k K (Y9 (Vm.keep L s) (ch i)) (Ym (Vm.sel true (aR n) h++ex) (A i))):HP rd nb (fun _=>aB) k K s h:=
 Zwo L n (fun i=>Y9 (Vm.keep L s) (ch i)) (fun i=>Ym (Vm.sel true (aR n) h++ex) (A i)) inv G i hi J I H step
theorem Zsa (tk:List Int->Int->Bool) {l:List Int} {e:Int} {i:Nat} (A:e=i) (hi:i<6):Zjw [fun _=>tk l 0,fun _=>tk l 1,fun _=>tk l 2,fun _=>tk l 3,fun _=>tk l 4,fun _=>tk l 5] e=tk l (i:Int):=by
 subst A;match i,hi with
 |0,_=>rfl
 |1,_=>rfl
 |2,_=>rfl
 |3,_=>rfl
 |4,_=>rfl
 |5,_=>rfl
theorem Zr9 {tk:List Int->Int->Bool} (A:∀l i,tk l i=l.contains i) {l:List Int} {e:Int} {i j:Nat} (H:e=i):(bif decide (e=(j:Int))then true else tk l (j:Int))=tk (l++[(i:Int)]) (j:Int):=by
 subst H;rw[A,A];by_cases h:(i:Int)=j
 ·rw[decide_eq_true h,h];simp
 rw[decide_eq_false h];have G:¬(j:Int)=i:=fun e=>h e.symm;simp[G]
theorem Znm {t:Zb} {x:List Int} {a:ZI} {l:List Int} {at_ A:Int} {i n:Nat} (h:0<n):YY t x a l at_ A i n=if ZfE t x a l at_ A i then some i else YY t x a l at_ A (i+1) (n-1):=by
 cases n with
 |zero=>omega
 |succ n=>rfl
theorem ZxC (t:Zb) (x:List Int) (a:ZI) (hf:Zx t) (hx:Ju t x) (ha:Jh (callsOf t) t.runs.length a=0):SC (fun _=>aB) 115 [.iptr (ZX t) 0,Yk a,.imap 2 3 fun _=>Qj t x] [] fun v h=>
  v= .tup [lst 1 Q9 0 (Zaq t x a).1,.int .i64 fun _=>(Zaq t x a).2.1,.bool fun _=>(Zaq t x a).2.2]/\h=[]:=by
 obtain⟨A,O⟩:=Zo;have I:=fun i h=> @Zse t a hf ha i h;have al:=fun r k (h:StopIn (callsOf t) r k)=> @ZaV t x r k h;have aw:=fun r k (h:StopIn (callsOf t) r k)=>(JT hf.calls h).2.2;have ah:=fun f l at_ Y=> @Zm0 t x a f l at_ Y;have ai:=fun f l at_ Y=> @ZmZ t x a f l at_ Y;have aj:=fun f l at_ Y i=> @ZmY t x a f l at_ Y i;have bl:=fun r k (h:StopIn (callsOf t) r k)=>ZiS hf x h;obtain⟨tk,ac⟩:∃tk:List Int->Int->Bool,∀l i,tk l i=l.contains i:=⟨fun l i=>l.contains i,fun _ _=>rfl⟩;have bo:a.steps.length<=6:=by
  by_cases h:0<a.steps.length
  ·exact(I 0 h).1
  omega
 have au:= @Zql a;have Z:=fun l i h=> @ZsH a l i h;have bk:JS t x a (a.steps.length+1) [] a.from_ a.since=Zaq t x a:=rfl;generalize Zaq t x a=R at*;generalize hG:JS t x a=G at*;generalize ZjV a=LN at*;generalize Qj t x=HL at*;unfold ZX Yk;simp only[Za O,Zc,Yi];refine SC.less (Zs0 false false [] [3] true 0 Tryz.func115 (body:=Zj Tryz.f115) rfl (by decide+kernel) rfl ?_);refine wS ?_;refine Zqp [0,2,4,6,9,10,11] 2 [.tok 1 fun _=>0] (fun p:List Int×Int×Int×Nat=>[(6,.isl 1 (fun _=>(p.1.length:Int)) (fun e=>Q9 (A Int 0 p.1 (e ()))) (.own 2)),(9,.int .i64 fun _=>p.2.1),(10,.int .i64 fun _=>p.2.2.1)])
  (fun p=>[(1,.cells [.bool fun _=>tk p.1 0,.bool fun _=>tk p.1 1,.bool fun _=>tk p.1 2,.bool fun _=>tk p.1 3,.bool fun _=>tk p.1 4,.bool fun _=>tk p.1 5]),(2,.tok 1 fun _=>(p.1.length:Int))])
  (fun p=>LN p.1<p.2.2.2/\p.1.length+LN p.1<=a.steps.length/\G p.2.2.2 p.1 p.2.1 p.2.2.1=R) (fun p=>LN p.1) ([],a.from_,a.since,a.steps.length+1) ⟨by show LN []<_;rw[au];exact gA _,by show 0+LN []<=_;omega,bk⟩ rfl rfl ?_ ?_
 ·(refine To.of [(1,false)] ?_;cbv;(try simp only[nc]);(repeat' (first|exact trivial|exact Zy.refl _|exact ZG.refl _|refine⟨?_,?_⟩|refine ZG.cells ?_|refine Zy.agg ?_|refine Zy.tup ?_));(all_goals (first|exact XQ|skip)))
  all_goals exact .bool (by rw[ac];rfl)
 intro p J ih;refine ZdL false false [] [] true ?_;refine wS ?_;refine⟨fun h1=>?_,fun h1=>?_⟩
 ·have h1:p.2.1=a.goal:=eq_of_beq h1;have hr:=J.2.2;rw[ah _ _ _ _ (by have:=J.1;omega) h1]at hr;subst hr;refine wS ?_;refine⟨_,[],?_,rfl,rfl⟩;exact ZF
 have h1:p.2.1≠a.goal:=ne_of_beq_false h1;refine wS ?_;refine Zqp [0,2,4,6,9,10,11,27,28,29] 3 [] (fun i:Nat=>[(29,.int .i64 fun _=>(i:Int))]) (fun _=>[]) (fun i=>i<=a.steps.length/\YY t x a p.1 p.2.1 p.2.2.1 0 a.steps.length=YY t x a p.1 p.2.1 p.2.2.1 i (a.steps.length-i)) (fun i=>a.steps.length-i) 0 ⟨by omega,rfl⟩ rfl rfl ?_ ?_
 ·exact ZF
 intro i hi am;refine ZdL false false [] [] true ?_;refine wS ?_;refine⟨fun h2=>?_,fun h2=>?_⟩;case refine_2=>
  simp only[decide_eq_false_iff_not]at h2;have hn:=hi.2;rw[show a.steps.length-i=0 by omega,YY]at hn;have hr:=J.2.2;rw[ai _ _ _ _ (by have:=J.1;omega) h1 hn]at hr;subst hr;refine wS ?_;refine⟨_,[],?_,rfl,rfl⟩;exact ZF
 simp only[decide_eq_true_eq]at h2;have ao:i<a.steps.length:=by omega
 have U:= @Znm t x a p.1 p.2.1 p.2.2.1 i (a.steps.length-i) (by omega);have H:ZfE t x a p.1 p.2.1 p.2.2.1 i=(!tk p.1 (i:Int)&&(decide ((QO a i).from_=p.2.1)&&decide (p.2.2.1<=(ZR t x (QO a i).run (J8 t (QO a i))).goes))):=by rw[ac];rfl
 have I:=I i ao;have ab:=aj p.2.2.2 p.1 p.2.1 p.2.2.1 i (by have:=J.1;omega) h1;have Z:=Z p.1 i ao;have e1:= @Zsa tk p.1 i i rfl (by omega);have ak:=aw _ _ I.2.1;have aq:=al _ _ I.2.1;have ap:=al _ _ I.2.2;have bm:=bl _ _ I.2.1;have bh:QO a i=A Sp.Step default a.steps i:=by rw[O];rfl
 rw[bh]at H I ab ak aq ap bm;have ar:=I.2.1;have ae:=I.2.2;unfold StopIn at ar ae;rw[Zau O]at ak ar ae;have ba:ZM (A (List Sp.Call) [] (callsOf t) (A Sp.Step default a.steps i).run) 0 (A Sp.Step default a.steps i).from_=J8 t (A Sp.Step default a.steps i):=by unfold J8;rw[Zau O]
 have a9:ZM (A (List Sp.Call) [] (callsOf t) (A Sp.Step default a.steps i).run) (J8 t (A Sp.Step default a.steps i)+1) (A Sp.Step default a.steps i).to_=Zjp t (A Sp.Step default a.steps i):=by unfold Zjp;rw[Zau O]
 have aa:=ZnV (A (List Sp.Call) [] (callsOf t) (A Sp.Step default a.steps i).run) 0 (A Sp.Step default a.steps i).from_ (by omega) (by omega);have V:=ZnV (A (List Sp.Call) [] (callsOf t) (A Sp.Step default a.steps i).run) (J8 t (A Sp.Step default a.steps i)+1) (A Sp.Step default a.steps i).to_ (by omega) (by omega);rw[ba]at aa;rw[a9]at V;simp only[Za O]at aa V;generalize hd:A Sp.Step default a.steps i=d at*;refine vS ?_;simp only[hd,e1];refine Chk.mk (ZE) ?_;refine⟨fun S=>?_,fun S=>?_⟩
 ·have bc:ZfE t x a p.1 p.2.1 p.2.2.1 i=false:=by
   rw[H];cases hc:tk p.1 (i:Int)with
   |true=>rfl
   |false=>
    rw[hc]at S;have S:(d.from_ !=p.2.1)=true:=S;rw[decide_eq_false (by simpa using S)];rfl
  rw[bc]at U;refine wS ?_;refine Zbv [0,2,4,6,9,10,11,27,28,29] 3 rfl rfl ?_ (am (i+1) ⟨by omega,?_⟩ (by show a.steps.length-(i+1)<a.steps.length-i;omega))
  ·exact ZF
  rw[hi.2,U,if_neg aS,show a.steps.length-i-1=a.steps.length-(i+1) by omega]
 have hc:tk p.1 (i:Int)=false/\d.from_=p.2.1:=by
  cases hc:tk p.1 (i:Int)with
  |true=>rw[hc]at S;cases S
  |false=>
   rw[hc]at S;have S:(d.from_ !=p.2.1)=false:=S;exact⟨rfl,by simpa using S⟩
 rw[hc.1]at H;rw[decide_eq_true hc.2]at H;generalize hF:A (List Sp.Call) [] (callsOf t) d.run=F at*;generalize J8 t d=fo at*;generalize Zjp t d=to at*;have hg:((eV [d.run,fo] (HL)).getD []).tail.tail.headD 0=(ZR t x d.run fo).goes:=by rw[aq];rfl
 have bg:((eV [d.run,to] (HL)).getD []).headD 0=(ZR t x d.run to).comes:=by rw[ap];rfl
 generalize (ZR t x d.run fo).goes=gs at*;generalize (ZR t x d.run to).comes=cs at*;refine vS ?_;simp only[hF];refine Chk.mk (ZE) ?_;refine ZL (aa) (by first|rfl|(simp only[Ze,Zd,Zf,Zc,Za O];rfl)) fun r az J=>?_;(try simp only[Ze,Zd,Zf,Zc,Za O]at J);obtain⟨rfl,rfl⟩:=J;refine vS ?_;simp only[hg];try refine Chk.mk (ZE) ?_
 refine⟨fun h4=>?_,fun h4=>?_⟩
 ·have h4:=of_decide_eq_true h4;rw[decide_eq_false (by omega)]at H;rw[H]at U;refine wS ?_;refine Zbv [0,2,4,6,9,10,11,27,28,29] 3 rfl rfl ?_ (am (i+1) ⟨by omega,?_⟩ (by show a.steps.length-(i+1)<a.steps.length-i;omega))
  ·exact ZF
  rw[hi.2,U,show a.steps.length-i-1=a.steps.length-(i+1) by omega];rfl
 have h4:=of_decide_eq_false h4;rw[decide_eq_true (by omega)]at H;rw[H]at U;have ab:=ab (by rw[hi.2,U];rfl);have Z:=Z (by rw[<-ac];exact hc.1);refine wS ?_;refine ZL (V) (by first|rfl|(simp only[Ze,Zd,Zf,Zc,Za O];rfl)) fun r az J=>?_;(try simp only[Ze,Zd,Zf,Zc,Za O]at J);obtain⟨rfl,rfl⟩:=J;refine vS ?_;simp only[bg];try refine Chk.mk (ZE) ?_
 refine ZdL false false [] [3] true ?_;refine wS ?_;refine Zbv [0,2,4,6,9,10,11] 3 rfl rfl ?_ (ih (p.1++[(i:Int)],d.to_,cs,p.2.2.2-1) ⟨?_,?_,?_⟩ Z)
 ·(refine To.of [] ?_;cbv;(try simp only[nc]);(repeat' (first|exact trivial|exact Zy.refl _|exact ZG.refl _|refine⟨?_,?_⟩|refine ZG.cells ?_|refine Zy.agg ?_|refine Zy.tup ?_));(all_goals (first|exact XQ|skip)))
  all_goals exact .bool (Zr9 ac rfl)
 ·show LN (p.1++[(i:Int)])<p.2.2.2-1;have:=J.1;omega
 ·show(p.1++[(i:Int)]).length+LN (p.1++[(i:Int)])<=a.steps.length;have:=J.2.1;rw[bf];show p.1.length+1+_<=_;omega
 show G (p.2.2.2-1) (p.1++[(i:Int)]) d.to_ cs=R;rw[<-ab];exact J.2.2
end Vm
namespace Sp
open Vm
def wdS (stop:Nat->Bool) (f:Nat->Int):Nat->Wd
 |0=>⟨0,0,false⟩
 |n+1=>if stop n then wdS stop f n else(wdS stop f n).add (f n)
def ZiZ (t:Zb) (a:ZI) (i:Nat):Bool:=(Zaq t (Zk t i) a).2.2
def Zez (t:Zb) (a:ZI) (i:Nat):Int:=(Zaq t (Zk t i) a).2.1
def XN (t:Zb) (a:ZI):Bool:=(aR (manyT t)).all (ZiZ t a)
def XO (t:Zb) (a:ZI):Yc:=if XN t a then⟨(ZbL (Zez t a) (manyT t)).fr,(ZbL (Zez t a) (manyT t)).to_⟩else⟨0,0⟩
theorem Zol {stop:Nat->Bool} {f:Nat->Int}:∀(n:Nat),(∀j,j<n->stop j=false)->wdS stop f n=ZbL f n
 |0,_=>rfl
 |n+1,h=>by
  rw[wdS,if_neg (by rw[h n (by omega)];exact aS),Zol n fun j A=>h j (by omega)];rfl
end Sp
namespace Vm
attribute [local irreducible] Dn
open Go Go.Proofs Sp
set_option maxRecDepth 100000
set_option maxHeartbeats 4000000
theorem ZwF (t:Zb) (a:ZI) (hw:Zx t) (ha:Jh (callsOf t) t.runs.length a=0):SC (fun _=>aB) 99 [.iptr (ZX t) 0,Yk a] [] fun v h=>
  v= .tup [.agg (encSp (XO t a)),.bool fun _=>XN t a]/\h=[]:=by
 obtain⟨nt,O⟩:=Zo;have aa:=fun i=>ZxC t (Zk t i) a hw (YI hw i) ha;have ai:=Zs4 t;have ae:=fun B0 B1 B2 B3 B4 B5 stop=>Zs3 t hw B0 B1 B2 B3 B4 B5 stop;obtain⟨A,V⟩:∃s:Nat->Bool,∀i,s i= !ZiZ t a i:=⟨_,fun _=>rfl⟩;obtain⟨WD,H⟩:∃w:Nat->Wd,∀i,w i=wdS A (Zez t a) i:=⟨_,fun _=>rfl⟩;have am:WD 0=⟨0,0,false⟩:=by rw[H];rfl
 have ap:∀i,A i=true->WD (i+1)=WD i:=fun i h=>by rw[H,H,wdS,if_pos h]
 have aq:∀i,A i=false->WD (i+1)=(WD i).add (Zez t a i):=fun i h=>by rw[H,H,wdS,if_neg (by rw[h];exact aS)]
 have al:∀i,(Zaq t (Zk t i) a).2.2=ZiZ t a i:=fun _=>rfl;have ao:∀i,(Zaq t (Zk t i) a).2.1=Zez t a i:=fun _=>rfl;have ak:(∀j,j<manyT t->A j=false)->XN t a=true/\XO t a=⟨(WD (manyT t)).fr,(WD (manyT t)).to_⟩:=fun h=>by
  have I:XN t a=true:=bL.2 fun j Y=>by
   have:=h j (bW.1 Y);rw[V]at this;simpa using this
  refine⟨I,?_⟩;unfold XO;rw[if_pos I,H,Zol _ h]
 have aj:∀j,j<manyT t->A j=true->XN t a=false/\XO t a=⟨0,0⟩:=fun j Y h=>by
  have I:XN t a=false:=by
   cases hc:XN t a with
   |false=>rfl
   |true=>
    have:=bL.1 hc j (bW.2 Y);rw[V,this]at h;cases h
  refine⟨I,?_⟩;unfold XO;rw[if_neg (by rw[I];exact aS)]
 simp only[al,ao]at aa;generalize XO t a=AS at*;generalize XN t a=CA at*;generalize hTR:Zaq t=TR at*;generalize Zk t=TA at*;generalize Qj t=HL at*;generalize ZiZ t a=CI at*;generalize Zez t a=CT at*;unfold Yp ZX Yk at*;simp only[Za O,Zc,Zq,Yi]at*;refine SC.less (QN Tryz.func99 (body:=Zj Tryz.f99) rfl (by decide+kernel) ?_);refine wS ?_;refine ZL (ai) (by first|rfl|(simp only[Ze,Zd,Zf,Zc,Za O];rfl)) fun r ab S=>?_;(try simp only[Ze,Zd,Zf,Zc,Za O]at S);obtain⟨rfl,rfl⟩:=S;refine wS ?_;refine Zf4 [2,3,4,5,6,13] [] [(4,.cells [.int .i64 fun _=>(WD 0).fr,.int .i64 fun _=>(WD 0).to_,.bool fun _=>(WD 0).some_])] (fid:=135) (first:=[]) ?_ rfl ?_ ?_
 ·rw[am];exact ZF
 ·exact Yb
 refine SC.mono (ae (fun _=>_) (fun _=>_) (fun _=>_) (fun _=>_) (fun i=>.cells [.int .i64 fun _=>(WD i).fr,.int .i64 fun _=>(WD i).to_,.bool fun _=>(WD i).some_]) (fun i=>.loop _ ⟨_,_,_,bif QL A i then .done else .ready,bif QL A i then some .ret else none⟩) A ?_ ?_ ?_ ?_ ?_ ?_ ?_) ?_;iterate 6 exact fun i=>QD.of rfl
 ·intro i hi J;have G:QL A i=false:=by
   cases i with
   |zero=>rfl
   |succ j=>exact J j (by omega)
  simp only[G,cond_false];refine YC.less (Zc3 false false [] rfl rfl ?_);refine wS ?_;refine ZL (aa i) (by first|rfl|(simp only[Ze,Zd,Zf,Zc,Za O];rfl)) fun r ab S=>?_;(try simp only[Ze,Zd,Zf,Zc,Za O]at S);obtain⟨rfl,rfl⟩:=S;refine wS ?_;refine⟨fun I=>?_,fun I=>?_⟩
  ·have U:A i=true:=by rw[V];exact I
   have ac:QL A (i+1)=true:=U;refine wS ?_;simp only[ac,cond_true,ap i U];refine⟨.bool fun _=> !A i,_,?_,rfl,rfl⟩;refine toR ?_;exact .bool (by rw[U];rfl)
  have U:A i=false:=by rw[V];exact I
  have ac:QL A (i+1)=false:=U;have k:=ZwJ (WD i) (CT i);rw[<-aq i U]at k;unfold YR at k;refine wS ?_;refine cL1 [4] (k) fun r ab S=>?_;(try simp only[Ze,Zd,Zf,Zc,Za O]at S);obtain rfl:=S;refine wS ?_;simp only[ac,cond_false];refine⟨.bool fun _=> !A i,_,?_,rfl,rfl⟩;refine toR ?_;exact .bool (by rw[U];rfl)
 intro v h hh;obtain⟨m,hm,rfl⟩:=hh;unfold encSp;rcases hm with⟨hm,J⟩|⟨j,hm,Y,G,J⟩
 ·have G:QL A m=false:=by
   cases m with
   |zero=>rfl
   |succ j=>exact J j (by omega)
  have Z:=ak fun j Y=>J j (by omega);rw[<-hm]at Z;simp only[G,cond_false];refine wS ?_;rw[Z.1,Z.2];refine⟨_,[],?_,rfl,rfl⟩;exact ZF
 have ah:QL A m=true:=by rw[hm];exact G
 have Z:=aj j Y G;simp only[ah,cond_true];refine wS ?_;rw[Z.1,Z.2];refine⟨_,[],?_,rfl,rfl⟩;exact ZF
theorem Zxw {A:(α:Type)->α->List α->Int->α} (O:∀(α:Type) (d:α) (l:List α) (i:Int),A α d l i=l.getD i.toNat d) (l:List Sp.QV) (G:0<l.length/\l.length<=1000000):SC (fun _=>aB) 152 [lst 4 Qk default l] [] fun v h=>v= .gsl 0 (fun _=>(l.length:Int))/\h=[.gar 4 (fun _=>(l.length:Int)) (fun e=>Qk (A Sp.QV default l (e ())))]:=by
 simp only[Za O];refine SC.less (Zww true false [] Tryz.func152 (body:=Zj Tryz.f152) rfl (by decide+kernel) ?_);refine wS ?_;refine Br.isF rfl ?_;refine wS ?_;refine⟨_,_,?_,rfl,rfl⟩;refine toR ?_;exact .gar (by simp) fun i H=>by rw[Qz (len:=0) rfl (aW _)];rfl
def XC (t:Zb) (w n:Int):Zb:={t with waits:=t.waits.set w.toNat {t.waits.getD w.toNat default with minutes:=n}}
theorem ZwE (t:Zb) (w n:Int) (Z:QC t) (hw:0<=w/\w<t.waits.length):SC (fun _=>aB) 100 [Zf t,.int .i64 fun _=>w,.int .i64 fun _=>n] [] fun v h=>v=Zf (XC t w n)/\h=[]:=by
 obtain⟨H,O⟩:=Zo;have ab:=Z.waits;have k:=Zxw O t.waits ⟨by omega,by omega⟩;obtain⟨G,A⟩:∃G,G=XC t w n:=⟨_,rfl⟩;have S:G.waits.length=t.waits.length:=by rw[A];unfold XC;simp
 have J:∀i:Nat,i<t.waits.length->[AV.int .i64 fun _=>(H Sp.QV default t.waits (i:Int)).feeder,.int .i64 fun _=>(H Sp.QV default t.waits (i:Int)).train,.int .i64 fun _=>(H Sp.QV default t.waits (i:Int)).station,.int .i64 fun _=>bif decide ((i:Int)=w)then n else(H Sp.QV default t.waits (i:Int)).minutes]=Qk (H Sp.QV default G.waits (i:Int)):=fun i I=>by
  have e:H Sp.QV default G.waits (i:Int)=if(i:Int)=w then {H Sp.QV default t.waits (i:Int)with minutes:=n}else H Sp.QV default t.waits (i:Int):=by
   rw[O,O,aV,A];show(t.waits.set w.toNat _).getD i default=_;by_cases h:(i:Int)=w
   ·subst h;rw[if_pos rfl,aV,Vm.Zcd _ _ _ _ I]
   rw[if_neg h,Vm.Zak _ _ _ _ _ (by omega)]
  rw[e];by_cases h:(i:Int)=w
  ·rw[if_pos h,decide_eq_true h];rfl
  rw[if_neg h,decide_eq_false h];rfl
 have V:G.book=t.book:=by rw[A];rfl
 have hr:G.runs=t.runs:=by rw[A];rfl
 have Y:G.delays=t.delays:=by rw[A];rfl
 rw[<-A];unfold Zf;rw[V,hr,Y];simp only[Za O]at k|-;refine SC.less (Zww false false [] Tryz.func100 (body:=Zj Tryz.f100) rfl (by decide+kernel) ?_);refine wS ?_;refine cL1 [] (k) fun r aa U=>?_;(try simp only[Ze,Zd,Zf,Zc,Za O]at U);obtain⟨rfl,rfl⟩:=U;refine wS ?_;refine⟨_,[],?_,rfl,rfl⟩;refine toR ?_;exact .gd (by simp) (.none (by show(t.waits.length:Int)=G.waits.length;rw[S]) fun i I=>J i (by have:(i:Int)<t.waits.length:=I;omega))
end Vm
namespace Vm
open Go Go.Proofs Conc1
def Zj9:Nat->AV->Bool
 |0,_=>false
 |_+1,.int _ _=>true
 |_+1,.bool _=>true
 |_+1,.undef=>true
 |k+1,.agg cs=>cs.all (Zj9 k)
 |k+1,.tup cs=>cs.all (Zj9 k)
 |_+1,_=>false
theorem ZiU {R R':RC}:∀(k:Nat) {a:AV} {v:Value},Zj9 k a=true->VR R a v->VR R' a v
 |0,a,v,h,_=>by cases h
 |k+1,a,v,h,hv=>by
  cases a with
  |int q n=>rw[hv.int_inv];exact .pure _ _ (.int q n)
  |bool b=>rw[hv.bool_inv];exact .pure _ _ (.bool b)
  |undef=>exact .undef _
  |agg cs=>
   obtain⟨H,rfl,G,hr⟩:=hv.agg_inv;exact .agg cs H G fun j c A=>ZiU k (bL.1 h c (aZ A)) (hr j c A)
  |tup cs=>
   obtain⟨H,rfl,G,hr⟩:=hv.tup_inv;exact .tup cs H G fun j c A=>ZiU k (bL.1 h c (aZ A)) (hr j c A)
  |_=>cases h
theorem SC.lend {p:Unit->Program} {f:FuncId} {xs ys:List AV} {h hc:List Zh} {V Q:AV->List Zh->Prop} (l:List Nat) (ak:l.Nodup) (ao:∀i∈l,i<h.length) (ai:sel true l h=hc) (ab:∀b∈hc,b= .main) (H:SC p f ys hc Q) (hx:xs.map (Qs true l h 5)=ys)
  (hq:∀r Z,Q r Z->Z=hc/\Zj9 5 r=true/\V r h):SC p f xs h V:=
 ⟨H.enter,fun G R vs hr ha cs=>by
  obtain⟨aa,ap,a0,A,a2,a3,a4,a5,a6,a7,a8⟩:=hr.sel (fz:=true) (ι:=l) (fun _ _ _=>True) (fun _ _ _ _=>trivial) (fun _ _ _ _ _ _ _ _=>trivial) (fun _ _ _ _=>trivial) (fun _ _ _ _ _ _ _ _ _=>trivial) ak ao (fun _ _ _ _ _ _ _ _ _=>trivial) 0 (aW _) (fun _=>aW _)
  have aj:X0 aa ys vs:=⟨by rw[<-hx,bA];exact ha.1,fun j c hj=>by
   rw[<-hx,aO,Option.map_eq_some_iff]at hj;obtain⟨x,hx,rfl⟩:=hj
   exact a8 5 x _ (ha.2 j x hx)⟩
  rw[ai]at a6;obtain⟨v,R',r,h',b1,b3,Y,b5,b6,b7⟩:=H.run _ aa vs a6 aj cs;obtain⟨rfl,am,hP⟩:=hq r h' b7;have I:∀b,b<R.w.heap.size->R'.w.heap[b]? =R.w.heap[b]? :=fun b hb=>by
   rw[Y.frame b (by rw[A];exact hb) (fun id blk U hp=>by
    have:=ab blk (aZ U);subst this
    exact hp),A]
  have ae:R.w.heap.size<=R'.w.heap.size:=by rw[<-A];exact Y.size
  let J:RC:={R with w:=R'.w,ok:=fun b o n=>b<R'.w.heap.size/\G b o n/\Zc2 R h b o n};have ah:∀b o n,R.ok b o n->J.ok b o n:=fun b o n k=>by
   obtain⟨h1,h2,h3⟩:=(hr.okd _ _ _).1 k;exact⟨by omega,h2,h3⟩
  have S:∀b o n,R.ok b o n->∀j,j<n->J.w.cell? ⟨b,o+j,none⟩=R.w.cell? ⟨b,o+j,none⟩:=fun b o n k j hj=>by
   have:=b5.keep b o n (a7 b o n k) j hj;rw[A]at this;exact this
  have ac:R.le J:=⟨aJ _,fun _ _=>rfl,fun _ _=>⟨bT _,fun _=>rfl⟩,fun _ _=>.refl _,ah,S,fun b k es al e=>by
   have:=b5.keepM b (a7 b 0 1 k) es al (by rw[A];exact e)
   exact this,rfl⟩
  refine⟨v,J,r,h,?_,⟨hr.len,fun _ _ _=>Iff.rfl,fun id blk U=>(hr.blk id blk U).mono ac rfl rfl rfl rfl fun b hp=>I b (hr.phys_lt U hp),hr.dis,hr.cl,fun b o n hb=>hr.fresh b o n (Nat.le_trans ae hb),hr.tokG,hr.n0m⟩,
   ⟨rfl,by rw[<-A];exact Y.os,by rw[<-A];exact Y.tape,by rw[<-A];exact Y.output,ae,aJ _,fun _ _=>rfl,ah,S,fun b hb _=>I b hb,fun id blk b U hp=>.inr ⟨id,blk,U,hp,.inl rfl⟩⟩,ac,ZiU 5 am b6,hP⟩
  rw[A,ap]at b1
  exact b1⟩
theorem SC.lend0 {p:Unit->Program} {f:FuncId} {xs I:List AV} {h:List Zh} {A Q:AV->List Zh->Prop} (H:SC p f I [] Q) (V:xs.map (Qs true [] h 5)=I) (J:∀r G,Q r G->G=[]/\Zj9 5 r=true/\A r h):SC p f xs h A:=
 SC.lend [] List.nodup_nil (fun i U=>by cases U) rfl (fun b S=>by cases S) H V J
end Vm
namespace Sp
def YG (t:Zb) (a:ZI):Int:=if Zr t≠0 then Zr t else Jh (callsOf t) t.runs.length a
def XT (t:Zb) (a:ZI) (w:Int):Int:=if YG t a=0 then(if QG w 0 ((t.waits.length:Int)-1)then 3 else 0)else YG t a
theorem Zl0 {t:Zb} (h:Zr t=0):QQ t=0:=by
 unfold Zr at h;split at h
 ·exact absurd h (by assumption)
 split at h
 ·exact absurd h (by assumption)
 exact bQ (by assumption)
theorem ZeE {t:Zb} {a:ZI} (h:YG t a=0):Zr t=0:=by
 unfold YG at h;split at h
 ·exact h
 exact bQ (by assumption)
end Sp
namespace Vm
attribute [local irreducible] Dn
open Go Go.Proofs Sp
set_option maxRecDepth 100000
set_option maxHeartbeats 4000000
theorem ZwC (t:Zb) (a:ZI) (H:QC t) (I:a.steps.length<=1000000):SC (fun _=>aB) 114 [Zf t,Yk a] [] fun v h=>v= .tup [QW (Zr t) t,.int .i64 fun _=>YG t a]/\h=[]:=by
 obtain⟨J,O⟩:=Zo;refine SC.less (QN Tryz.func114 (body:=Zj Tryz.f114) rfl (by decide+kernel) ?_);have k:=ZqR t H;have A:=fun h:Zr t=0=>Zxv t a (Za1 (Zl0 h)) H.runs I;generalize G:YG t a=e;unfold YG at G;unfold Zf Yk at*;simp only[Za O]at k A|-;by_cases he:Zr t=0
 ·unfold QW at k|-;rw[if_pos he]at k|-;rw[if_neg (fun h=>h he)]at G;have A:=A he;unfold ZX at k A|-;simp only[Za O,Zc]at k A|-;rw[he]at k;refine wS ?_;refine ZqW (k) ?_;refine wS ?_;refine Br.isF rfl ?_;refine wS ?_;refine ZqW (A) ?_;rw[G];refine wS ?_;refine⟨_,[],?_,rfl,rfl⟩;exact ZF
 unfold QW at k|-;rw[if_neg he]at k|-;rw[if_pos he]at G;rw[G]at k he;refine wS ?_;refine ZqW (k) ?_;refine wS ?_;refine⟨fun h=>?_,fun h=>?_⟩
 ·refine wS ?_;refine⟨_,[],?_,rfl,rfl⟩;exact ZF
 exact absurd (by simpa only[bne_eq_false_iff_eq]using h) he
theorem ZxH (t:Zb) (a:ZI) (w:Int) (I:QC t) (U:a.steps.length<=1000000):SC (fun _=>aB) 98 [Zf t,Yk a,.int .i64 fun _=>w] [] fun v h=>v= .tup [QW (Zr t) t,.int .i64 fun _=>XT t a w]/\h=[]:=by
 obtain⟨V,O⟩:=Zo;refine SC.less (QN Tryz.func98 (body:=Zj Tryz.f98) rfl (by decide+kernel) ?_);have k:=ZwC t a I U;have hw:=I.waits;have J:=ZdP w 0 ((t.waits.length:Int)-1);generalize A:XT t a w=e;unfold XT at A;unfold Zf Yk at*;generalize S:YG t a=H at*;simp only[Za O]at k|-;by_cases hb:Zr t=0
 ·unfold QW at k|-;rw[if_pos hb]at k|-;unfold ZX at k|-;simp only[Za O,Zc]at k|-;by_cases G:H=0
  ·rw[if_pos G]at A;rw[G]at k;refine wS ?_;refine ZqW (k) ?_;refine wS ?_;refine Br.isT rfl ?_;refine wS ?_;refine ZqW (J) ?_;refine wS ?_;refine⟨fun h=>?_,fun h=>?_⟩
   ·have h:QG w 0 ((t.waits.length:Int)-1)=true:=h;rw[if_pos h]at A;subst A;refine wS ?_;refine⟨_,[],?_,rfl,rfl⟩;exact ZF
   have h:QG w 0 ((t.waits.length:Int)-1)=false:=h;rw[if_neg (by rw[h];exact aS)]at A;subst A;refine wS ?_;refine⟨_,[],?_,rfl,rfl⟩;exact ZF
  rw[if_neg G]at A;subst A;refine wS ?_;refine ZqW (k) ?_;refine wS ?_;refine⟨fun h=>?_,fun h=>?_⟩
  ·exact absurd (eq_of_beq h) G
  refine wS ?_;refine Br.isF rfl ?_;refine wS ?_;refine⟨_,[],?_,rfl,rfl⟩;exact ZF
 unfold QW at k|-;rw[if_neg hb]at k|-;have G:H≠0:=by
  intro h;exact hb (ZeE (S.trans h))
 rw[if_neg G]at A;subst A;refine wS ?_;refine ZqW (k) ?_;refine wS ?_;refine⟨fun h=>?_,fun h=>?_⟩
 ·exact absurd (eq_of_beq h) G
 refine wS ?_;refine Br.isF rfl ?_;refine wS ?_;refine⟨_,[],?_,rfl,rfl⟩;exact ZF
end Vm
namespace Sp
open Vm
theorem Zhs {t:Zb} (A:Zx t) {w n:Int} (V:0<=n/\n<=60):Zx (XC t w n):=by
 have H:∀v∈(XC t w n).waits,∃G∈t.waits,v.feeder=G.feeder/\v.train=G.train/\v.station=G.station/\(v.minutes=G.minutes\/v.minutes=n):=fun v hv=>by
  rcases List.mem_or_eq_of_mem_set hv with h|rfl
  ·exact⟨v,h,rfl,rfl,rfl,.inl rfl⟩
  by_cases hl:w.toNat<t.waits.length
  ·refine⟨t.waits[w.toNat],bM hl,?_⟩;rw[aA,aD hl];exact⟨rfl,rfl,rfl,.inr rfl⟩
  have:(XC t w n).waits=t.waits:=List.set_eq_of_length_le (by omega);rw[this]at hv;exact⟨_,hv,rfl,rfl,rfl,.inl rfl⟩
 refine⟨A.calls,A.nn,A.asc,by show(t.waits.set _ _).length<=4;rw[cA];exact A.wlen,A.dlen,fun v hv=>?_,A.d⟩;obtain⟨G,I,J,U,S,Y⟩:=H v hv;have h:=A.w G I;rw[J,U,S];exact⟨h.1,h.2.1,h.2.2.1,by omega,by omega,h.2.2.2.2.2⟩
def Zab (t:Zb) (a:ZI) (w:Int):Nat->Int×Int×Bool
 |0=>(0,0,false)
 |n+1=>if XN (XC t w n) a&&(!(Zab t a w n).2.2||decide ((XO (XC t w n) a).to_<(Zab t a w n).2.1))then((n:Int),(XO (XC t w n) a).to_,true)else Zab t a w n
def Zji (t:Zb) (a:ZI) (w:Int):Int×Int×Int:=
 if XT t a w≠0 then(0,0,XT t a w)else if(Zab t a w 61).2.2 then((Zab t a w 61).1,(Zab t a w 61).2.1,0)else(0,0,11)
end Sp
namespace Vm
attribute [local irreducible] Dn
open Go Go.Proofs Sp
set_option maxRecDepth 100000
set_option maxHeartbeats 4000000
theorem ZnT {t:Zb} {a:ZI} {w:Int} (h:XT t a w=0):Zr t=0/\Jh (callsOf t) t.runs.length a=0/\0<=w/\w<t.waits.length:=by
 unfold XT at h;split at h
 ·rename_i A;have G:=ZeE A;split at h
  ·cases h
  rename_i H;have:=QE (by simpa using H);unfold YG at A;rw[if_neg (fun h=>h G)]at A;exact⟨G,A,by omega,by omega⟩
 exact absurd h (by assumption)
theorem ZxV (t:Zb) (a:ZI) (w:Int) (hf:QC t) (ha:a.steps.length<=1000000) (hw:Zr t=0->Zx t):SC (fun _=>aB) 35 [Zf t,Yk a,.int .i64 fun _=>w] [] fun v h=>
  v= .tup [.int .i64 fun _=>(Zji t a w).1,.int .i64 fun _=>(Zji t a w).2.1,.int .i64 fun _=>(Zji t a w).2.2]/\h=[]:=by
 obtain⟨nt,O⟩:=Zo;have k:=ZxH t a w hf ha;by_cases he:XT t a w=0
 ·have S:=ZnT he;have hw:=hw S.1;have I:=fun n=>ZwE t w n hf S.2.2;have A:=fun n h=>ZwF (XC t w n) a (Zhs hw (n:=n) h) S.2.1;have aa:Zab t a w 0=(0,0,false):=rfl;have Z:∀n:Nat,Zab t a w (n+1)=if XN (XC t w n) a&&(!(Zab t a w n).2.2||decide ((XO (XC t w n) a).to_<(Zab t a w n).2.1))then((n:Int),(XO (XC t w n) a).to_,true)else Zab t a w n:=fun _=>rfl
  have U:Zji t a w=if(Zab t a w 61).2.2 then((Zab t a w 61).1,(Zab t a w 61).2.1,0)else(0,0,11):=by
   unfold Zji;rw[if_neg (fun h=>h he)]
  have ae:∀n,(XC t w n).book=t.book:=fun _=>rfl;have ah:∀n,(XC t w n).runs=t.runs:=fun _=>rfl;have ai:∀n,(XC t w n).delays=t.delays:=fun _=>rfl;have aj:∀n,callsOf (XC t w n)=callsOf t:=fun _=>rfl;unfold QW at k;rw[if_pos S.1,he]at k;unfold ZX Zf Yk encSp at*;simp only[ae,ah,ai,aj]at I A;simp only[Za O,Zc,Yi,Zq]at*;generalize Zji t a w=BE at*;generalize Zab t a w=B at*;generalize ak:XC t w=WT at*;generalize Y:(fun n=>XN (WT n) a)=CA at*;generalize V:(fun n=>XO (WT n) a)=AS at*;have Y:∀n,XN (WT n) a=CA n:=fun n=>congrFun Y n;have V:∀n,XO (WT n) a=AS n:=fun n=>congrFun V n;simp only[Y,V]at A Z;refine SC.less (QN Tryz.func35 (body:=Zj Tryz.f35) rfl (by decide+kernel) ?_);refine wS ?_;refine ZqW (k) ?_;refine wS ?_;refine Br.isF rfl ?_;refine wS ?_;refine ZJ false false [] [2,3,4,6,7,9,10,24] [] (fun p:Nat=>[(24,.int .i64 fun _=>(p:Int)),(6,.int .i64 fun _=>(B p).1),(7,.int .i64 fun _=>(B p).2.1),(10,.bool fun _=>(B p).2.2)]) (fun _=>[]) (fun p=>p<=61) (fun p=>61-p+0) 0 (by omega) ?_ ?_
  ·(refine To.of [] ?_;cbv;(try simp only[nc]);(repeat' (first|exact trivial|exact Zy.refl _|exact ZG.refl _|refine⟨?_,?_⟩|refine ZG.cells ?_|refine Zy.agg ?_|refine Zy.tup ?_));(all_goals (first|exact XQ|skip)))
   all_goals first|exact .int (by rw[aa])|exact .bool (by rw[aa])
  intro p hp;refine wS ?_;refine⟨fun h1=>?_,fun h1=>?_⟩;case refine_2=>
   simp only[decide_eq_false_iff_not]at h1;have ab:p=61:=by omega
   subst ab;refine wS ?_;refine⟨fun H=>?_,fun H=>?_⟩
   ·have H:(B 61).2.2=false:=nb2 H;rw[if_neg (by rw[H];exact aS)]at U;subst U;refine wS ?_;refine⟨_,[],?_,rfl,rfl⟩;exact ZF
   have H:(B 61).2.2=true:=nb4 H;rw[if_pos H]at U;subst U;refine wS ?_;refine⟨_,[],?_,rfl,rfl⟩;exact ZF
  simp only[decide_eq_true_eq]at h1;have I:=I p;have A:=A p (by omega);refine wS ?_;repeat' (first|(with_reducible refine Zjh.mk ?_ ?_)|((with_reducible refine Chk.mk ?_ ?_);(focus exact ZE))|((with_reducible refine ZL I ?_ ?_);(focus (first|rfl|(simp only[Za O];rfl)));(intro r ac hp;obtain⟨rfl,rfl⟩:=hp;cbv;(try simp only[nc]at*)))|((with_reducible refine SC.lend0 A ?_ ?_);(focus (first|rfl|(simp only[Za O];rfl)));(intro r ac hp;obtain⟨rfl,rfl⟩:=hp;refine⟨rfl,rfl,?_⟩;cbv;(try simp only[nc]at*))))
  all_goals
   have J:(bif CA p then bif !(B p).2.2 then true else decide ((AS p).to_<(B p).2.1)else false)=(CA p&&(!(B p).2.2||decide ((AS p).to_<(B p).2.1))):=by cases CA p<;>cases (B p).2.2<;>rfl
   refine⟨fun H=>?_,fun H=>?_⟩
   ·have G:=Z p;rw[if_pos (J.symm.trans H)]at G;refine wS ?_;refine⟨p+1,by show p+1<=61;omega,by show 61-(p+1)+0<61-p+0;omega,?_⟩;(refine To.of [] ?_;cbv;(try simp only[nc]);(repeat' (first|exact trivial|exact Zy.refl _|exact ZG.refl _|refine⟨?_,?_⟩|refine ZG.cells ?_|refine Zy.agg ?_|refine Zy.tup ?_));(all_goals (first|exact XQ|skip)));all_goals first|exact .int (by rw[G])|exact .bool (by rw[G])
   have G:=Z p;rw[if_neg (fun h=>by rw[<-J,H]at h;cases h)]at G;refine wS ?_;refine⟨p+1,by show p+1<=61;omega,by show 61-(p+1)+0<61-p+0;omega,?_⟩;(refine To.of [] ?_;cbv;(try simp only[nc]);(repeat' (first|exact trivial|exact Zy.refl _|exact ZG.refl _|refine⟨?_,?_⟩|refine ZG.cells ?_|refine Zy.agg ?_|refine Zy.tup ?_));(all_goals (first|exact XQ|skip)));all_goals first|exact .int (by rw[G])|exact .bool (by rw[G])
 have U:Zji t a w=(0,0,XT t a w):=by
  unfold Zji;rw[if_pos he]
 rw[U];generalize XT t a w=e at*;refine SC.less (QN Tryz.func35 (body:=Zj Tryz.f35) rfl (by decide+kernel) ?_);unfold Zf Yk at*;by_cases hb:Zr t=0
 ·unfold QW at k;rw[if_pos hb]at k;unfold ZX at k;simp only[Za O,Zc,Yi,Zq]at*;refine wS ?_;refine ZqW (k) ?_;refine wS ?_;refine⟨fun h=>?_,fun h=>?_⟩
  ·refine wS ?_;refine⟨_,[],?_,rfl,rfl⟩;exact ZF
  exact absurd (by simpa only[bne_eq_false_iff_eq]using h) he
 unfold QW at k;rw[if_neg hb]at k;simp only[Za O,Zc,Yi,Zq]at*;refine wS ?_;refine ZqW (k) ?_;refine wS ?_;refine⟨fun h=>?_,fun h=>?_⟩
 ·refine wS ?_;refine⟨_,[],?_,rfl,rfl⟩;exact ZF
 exact absurd (by simpa only[bne_eq_false_iff_eq]using h) he
end Vm
namespace Sp
open Vm
def Jr (t:Zb) (f r st:Int) (i:Nat):Bool:=
 decide ((ZR t (Zk t i) f (ZA (Zl (callsOf t) f) st)).comes<=(ZR t (Zk t i) r (ZN (Zl (callsOf t) r) st)).goes)
def XV (p:Nat->Bool):Nat->Int
 |0=>0
 |n+1=>if p n then XV p n+1 else XV p n
def Zgy (t:Zb) (f r st:Int):Int:=Zft (XV (Jr t f r st) (manyT t)) (XV (fun i=> !Jr t f r st i) (manyT t))
def Yh (p:Nat->Bool):Nat->Nat->Int×Bool
 |_,0=>(0,false)
 |i,n+1=>if p i then((i:Int),true)else Yh p (i+1) n
def QX (t:Zb) (w:Int):QV:=t.waits.getD w.toNat default
def Zbz (t:Zb) (w:Int) (n:Nat):Bool:=decide (Zgy (XC t w n) (QX t w).feeder (QX t w).train (QX t w).station=1)
def Zan (t:Zb) (w:Int):Int×Int:=if XS t w≠0 then(0,XS t w)else if(Yh (Zbz t w) 0 61).2 then((Yh (Zbz t w) 0 61).1,0)else(0,11)
theorem ZlD {p:Nat->Bool} {i n:Nat} (h:0<n):Yh p i n=if p i then((i:Int),true)else Yh p (i+1) (n-1):=by
 cases n with
 |zero=>omega
 |succ n=>rfl
def ZeN (t:Zb) (f r st:Int):Prop:=StopIn (callsOf t) f (ZA (Zl (callsOf t) f) st)/\StopIn (callsOf t) r (ZN (Zl (callsOf t) r) st)
theorem ZsZ {t:Zb} (h:Zr t=0) {w:Int} (hw:0<=w/\w<t.waits.length):ZeN t (QX t w).feeder (QX t w).train (QX t w).station:=by
 have J:=Yo h;have hm:QX t w∈t.waits:=by
  unfold QX;rw[aA,aD (by omega)];exact bM _
 refine⟨YF J hm,?_⟩;unfold Zr at h;split at h
 ·exact absurd h (by assumption)
 split at h
 ·exact absurd h (by assumption)
 split at h
 ·cases h
 split at h
 ·exact absurd h (by assumption)
 rename_i G;have A:=Qp (bQ G) w.toNat (by omega) (by omega);change Qd (callsOf t) (QX t w) _=0 at A;unfold Qd at A;split at A
 ·cases A
 rename_i S;split at A
 ·cases A
 split at A
 ·cases A
 rename_i H;have I:=QE (n:=(QX t w).train) (lo:=0) (hi:=((callsOf t).length:Int)-1) (by cases hq:QG (QX t w).train 0 ((callsOf t).length-1)with|false=>rfl|true=>exact absurd (by rw[hq,iI]) S);have U:¬ZN (Zl (callsOf t) (QX t w).train) (QX t w).station<0:=fun h=>H (.inr h);have V:=YA (Zl (callsOf t) (QX t w).train) 0 (QX t w).station;refine⟨I.1,by omega,by omega,?_⟩;unfold ZN at*;split<;>omega
end Sp
namespace Vm
attribute [local irreducible] Dn
open Go Go.Proofs Sp
set_option maxRecDepth 100000
set_option maxHeartbeats 4000000
theorem ZxE (J I S H:List AV) (p:Nat->Bool) (V:∀n:Nat,n<=60->SC (fun _=>aB) 113 [.int .i64 fun _=>(n:Int),.iptr J 0,.iptr I 0,.iptr S 0,.iptr H 0] [.main] fun v h=>v= .bool (fun _=>p n)/\h=[.main]):
  SC (fun _=>aB) 112 [.int .i64 fun _=>60,.fn 113 [] [.iptr J 0,.iptr I 0,.iptr S 0,.iptr H 0]] [.main] fun v h=>v= .tup [.int .i64 fun _=>(Yh p 0 61).1,.bool fun _=>(Yh p 0 61).2]/\h=[.main]:=by
 refine SC.less (QN Tryz.func112 (body:=Zj Tryz.f112) rfl (by decide+kernel) ?_);generalize Y:Yh p 0 61=F;refine wS ?_;refine ZJ false false [] [0,1,6] [] (fun i:Nat=>[(6,.int .i64 fun _=>(i:Int))]) (fun _=>[]) (fun i=>i<=61/\Yh p i (61-i)=F) (fun i=>61-i+0) 0 ⟨by omega,Y⟩ ?_ ?_
 ·exact ZF
 rintro i ⟨hi,A⟩;refine wS ?_;refine⟨fun G=>?_,fun G=>?_⟩
 ·have G:=of_decide_eq_true G;rw[show 61-i=0 by omega,Yh]at A;subst A;refine wS ?_;refine⟨_,_,?_,rfl,rfl⟩;exact ZF
 have G:=of_decide_eq_false G;have k:=V i (by omega);rw[ZlD (by omega)]at A;refine wS ?_;refine cL1 [0] (k) fun r Z A=>?_;(try simp only[Ze,Zd,Zf,Zc,Za O]at A);obtain⟨rfl,rfl⟩:=A;refine wS ?_;refine⟨fun U=>?_,fun U=>?_⟩
 ·rw[if_pos U]at A;subst A;refine wS ?_;refine⟨_,_,?_,rfl,rfl⟩;exact ZF
 rw[if_neg (by rw[U];exact aS)]at A;refine wS ?_;refine⟨i+1,⟨by omega,A⟩,by show 61-(i+1)+0<61-i+0;omega,?_⟩;exact ZF
theorem ZxD (t:Zb) (w:Int) (hf:QC t) (hw:Zx t) (hi:0<=w/\w<t.waits.length) (Y:ZeN t (QX t w).feeder (QX t w).train (QX t w).station)
  (H:∀G f r st,Zx G->ZeN G f r st->SC (fun _=>aB) 97 [.iptr (ZX G) 0,.int .i64 fun _=>f,.int .i64 fun _=>r,.int .i64 fun _=>st] [.main] fun v h=>v= .int .i64 (fun _=>Zgy G f r st)/\h=[.main])
  (n:Nat) (hn:n<=60):SC (fun _=>aB) 113 [.int .i64 fun _=>(n:Int),.iptr ((ZX t).take 8) 0,.iptr [.int .i64 fun _=>w] 0,.iptr [.iptr (ZX t) 0] 0,.iptr (Qk (QX t w)) 0] [.main] fun v h=>v= .bool (fun _=>Zbz t w n)/\h=[.main]:=by
 obtain⟨nt,O⟩:=Zo;have A:=ZwE t w n hf hi;have k:=H (XC t w n) (QX t w).feeder (QX t w).train (QX t w).station (Zhs hw ⟨by omega,by omega⟩) Y;have J:∀n,(XC t w n).book=t.book:=fun _=>rfl;have U:∀n,(XC t w n).runs=t.runs:=fun _=>rfl;have I:∀n,(XC t w n).delays=t.delays:=fun _=>rfl;have S:∀n,callsOf (XC t w n)=callsOf t:=fun _=>rfl;unfold Zbz;generalize QX t w=x at*;generalize Zgy (XC t w n) x.feeder x.train x.station=V at*;unfold ZX Zf Qk at*;simp only[J,U,I,S]at A k;simp only[gI,Za O,Zc,Zq]at*;generalize XC t w n=t2 at*;refine SC.less (QN Tryz.func113 (body:=Zj Tryz.f113) rfl (by decide+kernel) ?_);refine wS ?_;refine ZqW (A) ?_;refine wS ?_;refine SC.lend [0] (by decide) (by simp) rfl (fun b Z=>aN.1 Z) k ?_ fun r aa hp=>?_
 ·first|rfl|(simp only[Za O];rfl)
 obtain⟨rfl,rfl⟩:=hp;refine⟨rfl,rfl,?_⟩;refine wS ?_;refine⟨_,_,?_,rfl,rfl⟩;(refine To.of [] ?_;cbv;(try simp only[nc]);(repeat' (first|exact trivial|exact Zy.refl _|exact ZG.refl _|refine⟨?_,?_⟩|refine ZG.cells ?_|refine Zy.agg ?_|refine Zy.tup ?_));(all_goals (first|exact XQ|skip)));all_goals exact .bool rfl
theorem ZxT (t:Zb) (w:Int) (Y:QC t)
  (U:∀S f r st,Zx S->ZeN S f r st->SC (fun _=>aB) 97 [.iptr (ZX S) 0,.int .i64 fun _=>f,.int .i64 fun _=>r,.int .i64 fun _=>st] [.main] fun v h=>v= .int .i64 (fun _=>Zgy S f r st)/\h=[.main]):
  SC (fun _=>aB) 45 [Zf t,.int .i64 fun _=>w] [.main] fun v h=>v= .tup [.int .i64 fun _=>(Zan t w).1,.int .i64 fun _=>(Zan t w).2]/\h=[.main]:=by
 obtain⟨Z,O⟩:=Zo;have k:=ZxF t w Y;by_cases he:XS t w=0
 ·have A:Zr t=0:=by
   unfold XS at he;split at he
   ·assumption
   exact he
  have V:0<=w/\w<t.waits.length:=by
   unfold XS at he;rw[if_pos A]at he;split at he
   ·cases he
   rename_i G;have:=QE (by simpa using G);omega
  have I:=ZxD t w Y (Yo A) V (ZsZ A V) U;have J:=ZxE _ _ _ _ _ I;have H:Zan t w=if(Yh (Zbz t w) 0 61).2 then((Yh (Zbz t w) 0 61).1,0)else(0,11):=by
   unfold Zan;rw[if_neg (fun h=>h he)]
  have hx:QX t w=Z Sp.QV default t.waits w:=by rw[O];rfl
  rw[hx]at J;unfold QW at k;rw[if_pos A,he]at k;clear I;unfold ZX Zf Qk at*;simp only[gI,Za O,Zc,Zq]at*;generalize Zan t w=BE at*;generalize Yh (Zbz t w) 0 61=F at*;refine SC.less (QN Tryz.func45 (body:=Zj Tryz.f45) rfl (by decide+kernel) ?_);refine wS ?_;refine ZqW (k) ?_;refine wS ?_;refine Br.isF rfl ?_;refine wS ?_;refine SC.lend [0] (by decide) (by simp) rfl (fun b A=>aN.1 A) J ?_ fun r aa hp=>?_
  ·first|rfl|(simp only[Za O];rfl)
  obtain⟨rfl,rfl⟩:=hp;refine⟨rfl,rfl,?_⟩;refine wS ?_;refine⟨fun G=>?_,fun G=>?_⟩
  ·have G:F.2=false:=nb2 G;rw[if_neg (by rw[G];exact aS)]at H;subst H;refine wS ?_;refine⟨_,_,?_,rfl,rfl⟩;exact ZF
  have G:F.2=true:=nb4 G;rw[if_pos G]at H;subst H;refine wS ?_;refine⟨_,_,?_,rfl,rfl⟩;exact ZF
 have H:Zan t w=(0,XS t w):=by
  unfold Zan;rw[if_pos he]
 rw[H];generalize XS t w=e at*;refine SC.less (QN Tryz.func45 (body:=Zj Tryz.f45) rfl (by decide+kernel) ?_);unfold Zf at*;by_cases A:Zr t=0
 ·unfold QW at k;rw[if_pos A]at k;unfold ZX at k;simp only[Za O,Zc,Zq]at*;refine wS ?_;refine ZqW (k) ?_;refine wS ?_;refine⟨fun h=>?_,fun h=>?_⟩
  ·refine wS ?_;refine⟨_,_,?_,rfl,rfl⟩;exact ZF
  exact absurd (by simpa only[bne_eq_false_iff_eq]using h) he
 unfold QW at k;rw[if_neg A]at k;simp only[Za O,Zc,Zq]at*;refine wS ?_;refine ZqW (k) ?_;refine wS ?_;refine⟨fun h=>?_,fun h=>?_⟩
 ·refine wS ?_;refine⟨_,_,?_,rfl,rfl⟩;exact ZF
 exact absurd (by simpa only[bne_eq_false_iff_eq]using h) he
end Vm
namespace Sp
open Vm
def Zao (t:Zb) (a:ZI):Yc×Int:=if YG t a≠0 then(⟨0,0⟩,YG t a)else if XN t a then(XO t a,0)else(⟨0,0⟩,11)
end Sp
namespace Vm
attribute [local irreducible] Dn
open Go Go.Proofs Sp
set_option maxRecDepth 100000
set_option maxHeartbeats 4000000
theorem ZxS (t:Zb) (a:ZI) (U:QC t) (V:a.steps.length<=1000000) (hw:Zr t=0->Zx t):SC (fun _=>aB) 50 [Zf t,Yk a] [] fun v h=>
  v= .tup [.agg (encSp (Zao t a).1),.int .i64 fun _=>(Zao t a).2]/\h=[]:=by
 obtain⟨Y,O⟩:=Zo;have k:=ZwC t a U V;by_cases he:YG t a=0
 ·have G:=ZeE he;have S:Jh (callsOf t) t.runs.length a=0:=by
   unfold YG at he;rw[if_neg (fun h=>h G)]at he;exact he
  have I:=ZwF t a (hw G) S;have H:Zao t a=if XN t a then(XO t a,0)else(⟨0,0⟩,11):=by
   unfold Zao;rw[if_neg (fun h=>h he)]
  unfold QW at k;rw[if_pos G,he]at k;unfold ZX Zf Yk encSp at*;simp only[Za O,Zc,Yi,Zq]at*;generalize Zao t a=Z at*;generalize XN t a=J at*;generalize XO t a=AS at*;refine SC.less (QN Tryz.func50 (body:=Zj Tryz.f50) rfl (by decide+kernel) ?_);refine wS ?_;refine ZqW (k) ?_;refine wS ?_;refine Br.isF rfl ?_;refine wS ?_;refine ZqW (I) ?_;refine wS ?_;refine⟨fun A=>?_,fun A=>?_⟩
  ·have A:J=false:=nb2 A;rw[if_neg (by rw[A];exact aS)]at H;subst H;refine wS ?_;refine⟨_,[],?_,rfl,rfl⟩;exact ZF
  have A:J=true:=nb4 A;rw[if_pos A]at H;subst H;refine wS ?_;refine⟨_,[],?_,rfl,rfl⟩;exact ZF
 have H:Zao t a=(⟨0,0⟩,YG t a):=by
  unfold Zao;rw[if_pos he]
 rw[H];generalize YG t a=e at*;refine SC.less (QN Tryz.func50 (body:=Zj Tryz.f50) rfl (by decide+kernel) ?_);unfold Zf Yk encSp at*;by_cases G:Zr t=0
 ·unfold QW at k;rw[if_pos G]at k;unfold ZX at k;simp only[Za O,Zc,Yi,Zq]at*;refine wS ?_;refine ZqW (k) ?_;refine wS ?_;refine⟨fun h=>?_,fun h=>?_⟩
  ·refine wS ?_;refine⟨_,[],?_,rfl,rfl⟩;exact ZF
  exact absurd (by simpa only[bne_eq_false_iff_eq]using h) he
 unfold QW at k;rw[if_neg G]at k;simp only[Za O,Zc,Yi,Zq]at*;refine wS ?_;refine ZqW (k) ?_;refine wS ?_;refine⟨fun h=>?_,fun h=>?_⟩
 ·refine wS ?_;refine⟨_,[],?_,rfl,rfl⟩;exact ZF
 exact absurd (by simpa only[bne_eq_false_iff_eq]using h) he
end Vm
namespace Sp
open Vm
def ZdM (st a d:Int):Stop:={station:=st,zone:=0,arrive:=a,depart:=d}
def Z9 (m:Int):Zb:={book:={zones:=[⟨0,[]⟩],old:=[⟨1,127,[ZdM 0 0 60,ZdM 1 100 110,ZdM 2 160 0]⟩,⟨2,127,[ZdM 1 0 120,ZdM 3 200 0]⟩,⟨3,127,[ZdM 1 0 180,ZdM 3 260 0]⟩],new:=[],night:=1,last:=0},runs:=[⟨1,0⟩,⟨2,0⟩,⟨3,0⟩],waits:=[⟨0,1,1,m⟩],delays:=[⟨0,0,[0,20,40]⟩]}
def Zj3:ZI:=⟨0,0,3,[⟨0,0,1⟩,⟨1,1,3⟩,⟨2,1,3⟩]⟩
def ZnG:ZI:=⟨0,0,3,[⟨0,0,1⟩,⟨1,1,3⟩]⟩
theorem Zu0:Zr (Z9 15)=0/\Zr (Z9 30)=0:=by decide+kernel
theorem Zqx:Zcc (Z9 30) 1=[⟨120,140⟩,⟨200,220⟩]:=by decide+kernel
theorem ZnJ:Zan (Z9 15) 0=(20,0):=by decide+kernel
theorem ZlF:Zao (Z9 15) Zj3=(⟨200,260⟩,0):=by decide+kernel
theorem ZsQ:Zji (Z9 15) ZnG 0=(20,220,0):=by decide+kernel
end Sp
namespace Vm
open Go Go.Proofs
theorem Zcy {α H:Type} {f:α->H}:∀ {l:List α},(l.map f).Nodup->∀ {a b:α},a∈l->b∈l->f a=f b->a=b
 |x::l,h,a,b,ha,hb,e=>by
  rw[List.map_cons,List.nodup_cons]at h;rcases bG.1 ha with A|A<;>rcases bG.1 hb with G|G
  ·rw[A,G]
  ·rw[A]at e;exact absurd (bE.2 ⟨b,G,e.symm⟩) h.1
  ·rw[G]at e;exact absurd (bE.2 ⟨a,A,e⟩) h.1
  exact Zcy h.2 A G e
theorem NC.next {p:Unit->Program} {id ka n:Nat} {L:Unit->List (List Int×List Int)} {I:Unit->List (List Int)} {az:Unit->List Int×List Int} {h:List Zh} {aa:AV->List Zh->Prop} (hi:h[id]? =some (.gob (.mapIt ka n L I az)))
  (h1:(∀q∈L (),q.1∈I ())->aa (.tup [.bool fun _=>false]) h)
  (h2:∀e∈L (),e.1∉I ()->aa (.tup [.bool fun _=>true,ZeR ka fun _=>e.1,ZeR n fun _=>e.2]) (h.set id (.gob (.mapIt ka n L (fun _=>I ()++[e.1]) fun _=>e)))):NC p id h aa:=⟨fun G R H=>by
 obtain⟨o,ho,hk,hg⟩:=H.blk id _ hi;have over:(∀q∈L (),q.1∈I ())->(∀ty,(Instr.next (.pointer (some ⟨(R.α id).b,0,none⟩)) false ty).run (p ()) R.w= .ok (.tuple #[.bool false]) R.w)->∃v V r h',(∀ty,(Instr.next (.pointer (some ⟨(R.α id).b,0,none⟩)) false ty).run (p ()) R.w= .ok v V.w)/\HR G V h'/\Xd R h V h'/\R.le V/\VR V r v/\aa r h':=fun hs hr=>
  ⟨_,R,_,h,hr,H,Xd.refl _ _,RC.le.refl _,.tup [.bool fun _=>false] #[.bool false] rfl (fun j c S=>by
   cases j with
   |zero=>simp at S;subst S;exact .pure _ _ (.bool _)
   |succ j=>simp at S),h1 hs⟩
 rcases hg with⟨g1,g2,Y,rfl⟩|⟨m,es,A,Y,l,rfl,g1,g2,Z,g4,g5⟩
 ·refine over (fun q J=>by rw[g1]at J;cases J) fun ty=>?_;simp[Instr.next,getObj,Sem.run_bind,Sem.run,ho,Result.andThen]
 have ai:∀x∈es.toList,x.born<A:=fun x hx=>by
  rw[<-Z.es]at hx;obtain⟨q,J,rfl⟩:=bE.1 hx;exact(Z.e q J).2.2.2
 have ac:∀q∈l,q.1∈(leftOf es Y).toList↔q.2.1∉I ():=fun q J=>by
  have au:q.1∈es.toList:=by rw[<-Z.es];exact bE.2 ⟨q,J,rfl⟩
  have:=g4 q J;unfold leftOf;simp only[gV,ff];rw[this];simp[au]
 rcases run_next_at (P:=p ()) R.w 0 (R.α id).b m A A Y es A ho g1 ai (aJ _)with⟨q1,_⟩|⟨e,U,w1,ah,q2⟩
 ·refine over (fun q J=>?_) fun ty=>?_
  ·obtain⟨q',ab,e⟩:=bE.1 (Z.L.mem_iff.2 J);subst e;have h0:q'.1∉(leftOf es Y).toList:=by
    rw[show leftOf es Y= #[] by simpa using q1];simp
   have:=mt (ac q' ab).2 h0;exact Classical.not_not.1 this
  rcases run_next_at (P:=p ()) R.w ty (R.α id).b m A A Y es A ho g1 ai (aJ _)with⟨_,q2⟩|⟨e,U,_⟩
  ·exact q2
  rw[show leftOf es Y= #[] by simpa using q1]at U;cases U
 have am:e∈es.toList:=by
  unfold leftOf at U;simp only[gV,ff]at U;exact U.1
 rw[<-Z.es]at am;obtain⟨q,J,rfl⟩:=bE.1 am;have ap:=(ac q J).1 U;have aq:q.2∈L ():=Z.L.mem_iff.1 (bE.2 ⟨q,J,rfl⟩);obtain⟨e1,e2,_,_⟩:=Z.e q J;have aw:m≠(R.α id).b:=fun U=>by rw[U,ho]at g1;cases g1
 have ak:∀q'∈l,(Y.push q.1.born).contains q'.1.born=(I ()++[q.2.1]).contains q'.2.1:=fun q' ab=>by
  have ao:(q'.1.born=q.1.born)↔(q'.2.1=q.2.1):=⟨fun U=>by rw[Zcy (f:=fun z:MapEntry×(List Int×List Int)=>z.1.born) Z.bn ab J U],fun U=>by rw[Zcy (f:=fun z:MapEntry×(List Int×List Int)=>z.2.1) Z.nd ab J U]⟩;have:=g4 q' ab;rw[ew]at this|-;simp only[Array.contains_push,dC,eT,decide_eq_true_eq,cJ,aN,beq_iff_eq]at this|-;rw[this,ao]
 have ae:w1.heap=R.w.heap:=by rcases ah with rfl|rfl<;>rfl
 obtain⟨V,hw,_,al,H',ar,aj⟩:=H.upd hi rfl (blk':=.gob (.mapIt ka n L (fun _=>I ()++[q.2.1]) fun _=>q.2)) rfl (ChangeMaps.setBlock w1 (R.α id).b (.mapIter (some m) A (Y.push q.1.born) A))
  (by rcases ah with rfl|rfl<;>rfl) (by rcases ah with rfl|rfl<;>rfl) (by rcases ah with rfl|rfl<;>rfl) (by simp[ChangeMaps.setBlock,ae])
  (fun b hb=>by simp[ChangeMaps.setBlock,ae,aF (Ne.symm hb)]) (fun V aj al hw=>⟨.mapIter (some m) A (Y.push q.1.born) A,by
   rw[hw,al]
   simp[ChangeMaps.setBlock,ae,(Array.getElem?_eq_some_iff.1 ho).1],rfl,.inr ⟨m,es,A,Y.push q.1.born,l,rfl,by
   rw[hw]
   simp[ChangeMaps.setBlock,ae,aF (Ne.symm aw),g1],aj.ok _ _ _ g2,Z,ak,fun _=>⟨q,J,by simp,rfl⟩⟩⟩)
 refine⟨_,V,_,_,fun ty=>?_,H',ar,aj,.tup [.bool fun _=>true,ZeR ka fun _=>q.2.1,ZeR n fun _=>q.2.2] #[.bool true,q.1.key,q.1.val] rfl (fun j c S=>?_),h2 _ aq ap⟩
 ·rw[hw];exact q2
 match j,S with
 |0,S=>simp at S;subst S;exact .pure _ _ (.bool _)
 |1,S=>simp at S;subst S;show VR V _ q.1.key;rw[e1];exact ZaF V ka fun _=>q.2.1
 |2,S=>simp at S;subst S;show VR V _ q.1.val;rw[e2];exact ZaF V n fun _=>q.2.2
 |j+3,S=>simp at S⟩
end Vm
namespace Sp
open Vm
def ZlS (t:Zb) (d i:Nat) (r a:Int):Bool:=
 decide ((ZR t (Zk t i) r a).comes≠(ZR t ((Zk t i).set d 0) r a).comes)||decide ((ZR t (Zk t i) r a).goes≠(ZR t ((Zk t i).set d 0) r a).goes)
def Zbk (t:Zb) (d i:Nat) (r:Nat):Bool:=decide ((Zk t i).getD d 0≠0)&&(aR (Zl (callsOf t) r).length).any fun a=>ZlS t d i r a
def Zfx (t:Zb) (d:Nat):Nat->Nat->Bool
 |0,_=>false
 |i+1,r=>Zfx t d i r||Zbk t d i r
def Zgg (t:Zb) (d:Nat):List Int:=((aR 4).filter fun r=>Zfx t d (manyT t) r).map fun(r:Nat)=>(r:Int)
def ZbE (t:Zb) (d:Int):List Int×Int:=if Zr t≠0 then([],Zr t)else if QG d 0 ((t.delays.length:Int)-1)then([],3)else(Zgg t d.toNat,0)
theorem Zqy:ZbE (Z9 30) 0=([0,1],0)/\ZbE (Z9 15) 0=([0],0):=by decide+kernel
theorem Zki {ds:List ZP} (J:ds.length<=6) {x:List Int}:∀m,m<=ds.length->(∀k,k<m->0<=x.getD k 0/\x.getD k 0<lenAt ds k)->∃n,n<Yl ds m/\∀k,k<m->(XZ ds m n).getD k 0=x.getD k 0
 |0,_,_=>⟨0,by unfold Yl;omega,fun k h=>by omega⟩
 |m+1,hm,hx=>by
  obtain⟨n,U,I⟩:=Zki J m (by omega) fun k H=>hx k (by omega);have S:=hx m (by omega);have G:0<lenAt ds m:=by omega
  have A:(n*lenAt ds m+(x.getD m 0).toNat)/lenAt ds m=n:=by
   rw[dZ,Nat.mul_add_div G,Nat.div_eq_of_lt (by omega)];omega
  have hr:(n*lenAt ds m+(x.getD m 0).toNat)%lenAt ds m=(x.getD m 0).toNat:=by
   rw[dZ,Nat.mul_add_mod,Nat.mod_eq_of_lt (by omega)]
  refine⟨n*lenAt ds m+(x.getD m 0).toNat,?_,fun k H=>?_⟩
  ·unfold Yl;have:=Nat.mul_le_mul_right (lenAt ds m) (show n+1<=Yl ds m by omega);rw[Nat.add_mul]at this;omega
  unfold XZ;rw[A,hr];by_cases h:m=k
  ·subst h;rw[aA,cS (by rw[XY];omega)];show((x.getD m 0).toNat:Int)=_;omega
  rw[aA,cR h,<-aA];exact I k (by omega)
theorem Zws {x y:List Int} (H:x.length=6) (I:y.length=6) (h:∀k,k<6->x.getD k 0=y.getD k 0):x=y:=by
 refine List.ext_getElem (by omega) fun k G A=>?_;have:=h k (by omega);rw[aA,aA,aD G,aD A]at this;exact this
theorem ZkU {t:Zb} (S:Zx t) {x:List Int} (A:Ju t x) (G:∀k,t.delays.length<=k->k<6->x.getD k 0=0):∃n,n<manyT t/\Zk t n=x:=by
 obtain⟨n,H,J⟩:=Zki (ds:=t.delays) S.dlen (x:=x) t.delays.length (aJ _) A.d;refine⟨n,H,Zws (XY _ _) A.len fun k I=>?_⟩;by_cases h:k<t.delays.length
 ·exact J k h
 show(XZ t.delays t.delays.length n).getD k 0=_;rw[ZaZ _ _ _ (by omega),G k (by omega) I]
def keyT (x:List Int):List Int:=[x.getD 0 0,x.getD 1 0,x.getD 2 0,x.getD 3 0,x.getD 4 0,x.getD 5 0]
theorem Zqm {x y:List Int} (A:x.length=6) (H:y.length=6) (h:keyT x=keyT y):x=y:=by
 unfold keyT at h;simp only[cB,and_true]at h;refine Zws A H fun k G=>?_;match k,G with
 |0,_=>exact h.1
 |1,_=>exact h.2.1
 |2,_=>exact h.2.2.1
 |3,_=>exact h.2.2.2.1
 |4,_=>exact h.2.2.2.2.1
 |5,_=>exact h.2.2.2.2.2
def ZaB (t:Zb) (d:Nat):Nat->List (List Int×List (List Int×List Int))
 |0=>[]
 |i+1=>if(Zk t i).getD d 0=0 then Jp (ZaB t d i) (keyT (Zk t i)) (Qj t (Zk t i))else ZaB t d i
theorem Zet {t:Zb} {d:Nat}:∀n,((ZaB t d n).map (·.1)).Nodup/\(∀p∈ZaB t d n,∃i,p=(keyT (Zk t i),Qj t (Zk t i)))/\∀i,i<n->(Zk t i).getD d 0=0->(keyT (Zk t i),Qj t (Zk t i))∈ZaB t d n
 |0=>⟨.nil,fun p h=>(by cases h),fun i h=>by omega⟩
 |n+1=>by
  obtain⟨S,J,I⟩:=Zet (t:=t) (d:=d) n;unfold ZaB;split
  ·rename_i H;refine⟨Zea S,fun p G=>?_,fun i U A=>?_⟩
   ·rcases Zf5 G with rfl|G
    ·exact⟨n,rfl⟩
    exact J p G
   by_cases he:i=n
   ·subst he;exact Zd9
   refine ZhA (I i (by omega) A) fun e=>?_;have:=Zqm (XY _ _) (XY _ _) e;show Qj t (Zk t i)=_;rw[show Zk t i=Zk t n from this]
  rename_i H;refine⟨S,J,fun i U A=>?_⟩;by_cases he:i=n
  ·subst he;exact absurd A H
  exact I i (by omega) A
theorem ZnI {t:Zb} (H:Zx t) {d i:Nat} (Y:d<t.delays.length):(ZaB t d (manyT t)).lookup (keyT ((Zk t i).set d 0))=some (Qj t ((Zk t i).set d 0)):=by
 have A:=YI H i;have Z:=H.dlen;have G:∀k,((Zk t i).set d 0).getD k 0=if k=d then 0 else(Zk t i).getD k 0:=fun k=>by
  by_cases h:k=d
  ·subst h;rw[if_pos rfl,aA,cS (by rw[A.len];omega)];rfl
  rw[if_neg h,aA,cR (Ne.symm h),<-aA]
 obtain⟨n,S,J⟩:=ZkU H (x:=(Zk t i).set d 0) ⟨by rw[cA];exact A.len,fun k I=>by
  rw[G];split
  ·have:=(A.d k I);omega
  ·exact A.d k I⟩ fun k U V=>by
  rw[G];split
  ·rfl
  exact ZaZ _ _ _ U
 rw[<-J];refine ZcB (Zet _).1 ((Zet _).2.2 n S ?_);rw[J,G,if_pos rfl]
theorem ZuL {x:List Int} {D:Nat} (A:x.length=6) (G:D<6):(x.getD 0 0==(x.set D 0).getD 0 0&&(x.getD 1 0==(x.set D 0).getD 1 0&&(x.getD 2 0==(x.set D 0).getD 2 0&&(x.getD 3 0==(x.set D 0).getD 3 0&&(x.getD 4 0==(x.set D 0).getD 4 0&&(x.getD 5 0==(x.set D 0).getD 5 0&&true))))))=decide (x.getD D 0=0):=by
 match x,A with
 |[a0,a1,a2,a3,a4,a5],_=>
  match D,G with
  |0,_|1,_|2,_|3,_|4,_|5,_=>simp[List.set,List.getD];rfl
theorem Zk9 {t:Zb} {d i:Nat} (h:(Zk t i).getD d 0=0) (r:Nat):Zbk t d i r=false:=by
 unfold Zbk;rw[decide_eq_false (fun A=>A h),Bool.false_and]
def Zlz (W:List (List Int×List Int)) (p:List Int×List Int):Bool:=p.2.headD 0 !=((W.lookup p.1).getD []).headD 0||p.2.tail.tail.headD 0 !=((W.lookup p.1).getD []).tail.tail.headD 0
def cvE (L W:List (List Int×List Int)) (S:List (List Int)) (r:Nat):Bool:=L.any fun p=>S.contains p.1&&(p.1.headD 0==(r:Int)&&Zlz W p)
theorem ZsV {L W:List (List Int×List Int)} {r:Nat}:cvE L W [] r=false:=by
 unfold cvE;rw[eR];intro p _;simp
theorem ZqI {L W:List (List Int×List Int)} {S:List (List Int)} {e:List Int×List Int} (A:e∈L) (G:(L.map (·.1)).Nodup) (r:Nat):cvE L W (S++[e.1]) r=(cvE L W S r||(e.1.headD 0==(r:Int)&&Zlz W e)):=by
 unfold cvE;rw[ew];simp only[eu,dC,aT,eT,decide_eq_true_eq,cJ,aN];constructor
 ·rintro⟨p,hp,h1|h1,h2⟩
  ·exact .inl ⟨p,hp,h1,h2⟩
  have:p=e:=Zcy (f:=fun q:List Int×List Int=>q.1) G hp A h1;subst this;exact .inr h2
 rintro(⟨p,hp,h1,h2⟩|h2)
 ·exact⟨p,hp,.inl h1,h2⟩
 exact⟨e,A,.inr rfl,h2⟩
theorem Zj0 {t:Zb} {x:List Int}:((Qj t x).map (·.1)).Nodup:=by
 unfold Qj;rw[List.map_map]
 exact List.Pairwise.map _ (fun a b A e=>by
  apply A;simp only[Function.comp,cB,and_true]at e
  exact Prod.ext e.1 e.2) ZbV
theorem Zj1 {t:Zb} (G:Zx t) {x:List Int} {p:List Int×List Int} (H:p∈Qj t x): [p.1.headD 0,p.1.tail.headD 0]=p.1/\0<=p.1.headD 0/\p.1.headD 0<4:=by
 obtain⟨⟨r,a⟩,A,rfl⟩:=bE.1 H;have A:=JR.1 A;have:=G.calls.len;exact⟨rfl,A.1,by have:=A.2.1;show r<4;omega⟩
theorem Zmm {L:List (List Int×List Int)} {S:List (List Int)} {e:List Int×List Int} (H:e∈L) (G:e.1∉S):(L.filter fun q=> !(S++[e.1]).contains q.1).length<(L.filter fun q=> !S.contains q.1).length:=by
 refine Zeu (x:=e) (fun q A=>?_) H (by simpa using G) (by simp);simp only[cG,eT,cJ,decide_eq_false_iff_not]at A|-;exact fun h=>A (.inl h)
theorem ZsW {t:Zb} {d i:Nat} (U:(Zk t i).getD d 0≠0) {S:List (List Int)} (V:∀p∈Qj t (Zk t i),p.1∈S) {r:Nat}:cvE (Qj t (Zk t i)) (Qj t ((Zk t i).set d 0)) S r=Zbk t d i r:=by
 have H:∀r a,StopIn (callsOf t) r a->Zlz (Qj t ((Zk t i).set d 0)) ([r,a],ZcP (ZR t (Zk t i) r a))=ZlS t d i r a:=fun r a A=>by
  unfold Zlz ZlS;rw[ZaV A];show((ZR t (Zk t i) r a).comes !=(ZR t ((Zk t i).set d 0) r a).comes||(ZR t (Zk t i) r a).goes !=(ZR t ((Zk t i).set d 0) r a).goes)=_;rw[ew];simp
 unfold cvE Zbk;rw[decide_eq_true U,Bool.true_and,ew];simp only[eu,aT,eT,decide_eq_true_eq,bW,beq_iff_eq];constructor
 ·rintro⟨p,hp,_,I,G⟩;obtain⟨⟨J,a⟩,A,rfl⟩:=bE.1 hp;have A:=JR.1 A;have I:J=(r:Int):=I;subst I;have G:Zlz (Qj t ((Zk t i).set d 0)) ([(r:Int),a],ZcP (ZR t (Zk t i) r a))=true:=G;rw[H _ _ A]at G;exact⟨a.toNat,by have:=A.2.2.2;have:=A.2.2.1;omega,by rw[show((a.toNat:Nat):Int)=a by have:=A.2.2.1;omega];exact G⟩
 rintro⟨a,ha,G⟩;by_cases hr:r<(callsOf t).length
 ·have A:StopIn (callsOf t) r a:=⟨by omega,by omega,by omega,by omega⟩;have hm:([(r:Int),(a:Int)],ZcP (ZR t (Zk t i) r a))∈Qj t (Zk t i):=bE.2 ⟨((r:Int),(a:Int)),JR.2 A,rfl⟩;exact⟨_,hm,V _ hm,rfl,by rw[H _ _ A];exact G⟩
 exfalso;have:Zl (callsOf t) r=[]:=by
  unfold Zl;rw[aA,List.getElem?_eq_none (by omega)];rfl
 rw[this]at ha;simp at ha
end Sp
namespace Vm
attribute [local irreducible] Dn
open Go Go.Proofs Sp
set_option maxRecDepth 100000
set_option maxHeartbeats 4000000
theorem Zjh.join3 {A B:Prop} {α U J:Type} {G P:α->U->J->Prop} (S:(∀a c d,P a c d->G a c d)->A) (I:(∀a c d,P a c d->G a c d)->B) (H:∀a c d,P a c d->G a c d):Zjh A B:=⟨S H,I H⟩
structure ZkL (st:Nat) (number:Int) (t:Train):Prop where
 made:Zh4 1 st number t
 days:t.days=127
 late:∀s∈t.stops,s.depart<=1000
 asc:∀k,k+1<t.stops.length->(t.stops.getD k default).depart<(t.stops.getD (k+1) default).arrive
theorem ZxP (s number:Int) (st:Nat) (hs:2<=st/\st<=10):SC (fun _=>aB) 74 [.ptr 0 0,.int .i64 fun _=>number,.int .i64 fun _=>(st:Int)] [XR s] fun v h=>∃(t:Train) (s':Int),ZkL st number t/\v= .agg (encTrain t)/\h=[XR s']:=by
 obtain⟨nt,O⟩:=Zo;refine SC.less (QN Tryz.func74 (body:=Zj Tryz.f74) rfl (by decide+kernel) ?_);refine wS ?_;refine cL0 [0] (c17 s 90 (by omega)) fun r I G=>?_;(try simp only[Ze,Zd,Za O]at G);obtain⟨A,s1,V,rfl,rfl⟩:=G;refine wS ?_;refine cL0 [0] (Zye s1 st (by omega)) fun r I G=>?_;(try simp only[Ze,Zd,Za O]at G);obtain⟨L,s4,Y,rfl,rfl⟩:=G;refine wS ?_;have ah:2<=(if(st:Int)<4 then(st:Int)else 4)/\(if(st:Int)<4 then(st:Int)else 4)<=4/\(if(st:Int)<4 then(st:Int)else 4)<=st:=by split<;>omega
 generalize (if(st:Int)<4 then(st:Int)else 4)=mn at*;refine cL0 [0] (c22 s4 2 mn (by omega) (by omega)) fun r I G=>?_;(try simp only[Ze,Zd,Za O]at G);obtain⟨m,s5,hm,rfl,rfl⟩:=G;refine wS ?_;obtain⟨m,rfl⟩:∃k:Nat,m=k:=⟨m.toNat,by omega⟩;refine ZJ false false [] [0,6,7,8,9,10] [.tok 4 fun _=>0] (fun(⟨i,A,s,out⟩:Nat×Int×Int×List Stop)=>[(8,.int .i64 fun _=>60+A),(10,.int .i64 fun _=>i)])
  (fun⟨i,A,s,out⟩=>[(0,XR s),(2,.cells [.int .i64 fun _=>number,.int .i64 fun _=>127,.isl 4 (fun _=>(out.length:Int)) (fun e=>QM (nt Stop default out (e ()))) (.own 3)]),(3,.tok 4 fun _=>(out.length:Int))])
  (fun⟨i,A,s,out⟩=>i<=m/\out.length+i=m/\(0<=A/\A<=90+70*(out.length:Int))/\(∀x∈out,(0<=x.station/\x.station<st)/\(0<=x.zone/\x.zone<1)/\0<=x.arrive/\x.arrive<=x.depart/\x.depart<60+A)/\out.Pairwise (fun a b=>a.station≠b.station)/\(∀x∈out,∃j,i<=j/\j<m/\x.station=L.getD j 0)/\∀k,k+1<out.length->(out.getD k default).depart<(out.getD (k+1) default).arrive) (fun i=>i.1+0) (m,A,s5,[]) ⟨aJ _,by simp,by simp;omega,by simp,.nil,by simp,by simp⟩ ?_ ?_
 ·(refine To.of [(4,false)] ?_;cbv;(try simp only[nc]);(repeat' (first|exact trivial|exact Zy.refl _|exact ZG.refl _|refine⟨?_,?_⟩|refine ZG.cells ?_|refine Zy.agg ?_|refine Zy.tup ?_));(all_goals (first|exact XQ|skip)))
 rintro⟨i,A,s,out⟩ ⟨hi,hlen,V,hall,hpw,hst,hasc⟩;refine wS ?_;refine⟨fun Z=>?_,fun Z=>?_⟩
 ·simp only[decide_eq_true_eq]at Z;have aa:=Y.bd (i-1) (by omega);have ab:nt Int 0 L ((i:Int)-1)=L.getD (i-1) 0:=by rw[O];congr 1;omega
  have ae:=Y.len;refine wS ?_;apply Zjh.join3 (P:=fun(x y s8:Int)=>0<=y/\y<=20)
  ·intro M;refine cL0 [0] (c17 s 20 (by omega)) fun r I G=>?_;(try simp only[Ze,Zd,Za O]at G);obtain⟨x,s7,H,rfl,rfl⟩:=G;refine wS ?_;refine⟨?_,?_⟩
   ·skip
    refine cL0 [0] (Zkr s7 [0,x] (by simp)) fun r I G=>?_;(try simp only[Ze,Zd,Za O]at G);obtain⟨y,s8,J,rfl,rfl⟩:=G;have J:0<=y/\y<=20:=by simp at J;omega
    refine wS ?_;exact M x y s8 J
   refine wS ?_;refine cL0 [0] (Zkr s7 [0,x] (by simp)) fun r I G=>?_;(try simp only[Ze,Zd,Za O]at G);obtain⟨y,s8,J,rfl,rfl⟩:=G;have J:0<=y/\y<=20:=by simp at J;omega
   refine wS ?_;exact M x y s8 J
  ·intro M;refine wS ?_;refine cL0 [0] (c17 s 20 (by omega)) fun r I G=>?_;(try simp only[Ze,Zd,Za O]at G);obtain⟨x,s7,H,rfl,rfl⟩:=G;refine wS ?_;refine cL0 [0] (Zkr s7 [0,x] (by simp)) fun r I G=>?_;(try simp only[Ze,Zd,Za O]at G);obtain⟨y,s8,J,rfl,rfl⟩:=G;have J:0<=y/\y<=20:=by simp at J;omega
   refine wS ?_;refine SC.mono (M x y s8 J) fun r h' hr=>?_;revert hr;generalize Jn _ _ _ _ _ _=z;cases z with
   |none=>exact id
   |some z=>exact fun h=>Zus (by decide) h
  intro x y s8 J;rw[ab];refine cL0 [0] (c22 s8 10 50 (by omega) (by omega)) fun r I G=>?_;(try simp only[Ze,Zd,Za O]at G);obtain⟨q,s9,hq,rfl,rfl⟩:=G;refine wS ?_;obtain⟨j,rfl⟩:∃j,i=j+1:=⟨i-1,by omega⟩;refine⟨(j,A+y+q,s9,out++[⟨L.getD j 0,0,60+A,60+A+y⟩]),⟨by omega,by simp only[bf,bF,cE];omega,by simp only[bf,bF,cE];omega,?_,?_,?_,?_⟩,by show j+0<j+1+0;omega,?_⟩
  ·intro x H;rcases cJ.1 H with H|H
   ·have:=hall x H;refine⟨this.1,this.2.1,this.2.2.1,this.2.2.2.1,?_⟩;show x.depart<60+(A+y+q);omega
   simp only[aN]at H;subst H;simp only[Nat.add_sub_cancel]at aa;dsimp only;omega
  ·refine List.pairwise_append.2 ⟨hpw,List.pairwise_singleton _ _,fun c hc e he=>?_⟩;simp only[aN]at he;subst he;obtain⟨k,ac,S,U⟩:=hst c hc;dsimp only;rw[U];intro e;have:=Y.inj _ _ (by omega) (by omega) e;omega
  ·intro x H;rcases cJ.1 H with H|H
   ·obtain⟨k,ac,S,U⟩:=hst x H;exact⟨k,by omega,S,U⟩
   simp only[aN]at H;subst H;exact⟨j,aJ _,by omega,rfl⟩
  ·intro k hk;simp only[bf,bF,cE]at hk;by_cases S:k+1<out.length
   ·simp only[aA,bO S,bO (show k<out.length by omega)];simp only[<-aA];exact hasc k S
   have U:k+1=out.length:=by omega
   have hm:out.getD k default∈out:=by rw[aA,aD (by omega)];exact bM _
   have:=hall _ hm;have e2:(out++[(⟨L.getD j 0,0,60+A,60+A+y⟩:Stop)]).getD (k+1) default=⟨L.getD j 0,0,60+A,60+A+y⟩:=by rw[U];simp[aA]
   have e3:(out++[(⟨L.getD j 0,0,60+A,60+A+y⟩:Stop)]).getD k default=out.getD k default:=by simp only[aA,bO (show k<out.length by omega)]
   rw[e2,e3];exact this.2.2.2.2
  exact ZF
 simp only[decide_eq_false_iff_not]at Z;refine wS ?_;refine⟨.agg (encTrain ⟨number,127,out⟩),[XR s],?_,⟨number,127,out⟩,s,⟨⟨rfl,by dsimp only;omega,by dsimp only;omega,fun x H=>?_,hpw⟩,rfl,fun x H=>?_,hasc⟩,rfl,rfl⟩
 ·unfold encTrain;simp only[Za O];exact ZF
 ·have:=hall x H;exact⟨this.1,this.2.1,this.2.2.1,this.2.2.2.1,by omega⟩
 have:=hall x H;omega
theorem ZxO (l:List Sp.QV) (w:Sp.QV) (Y:l.length<=1000000):SC (fun _=>aB) 76 [lst 4 Qk default l,.agg (Qk w)] [] fun v h=>v= .bool (fun _=>l.any fun x=>decide (x.feeder=w.feeder/\x.train=w.train/\x.station=w.station))/\h=[]:=by
 obtain⟨J,O⟩:=Zo;generalize V:(l.any fun x=>decide (x.feeder=w.feeder/\x.train=w.train/\x.station=w.station))=E;unfold Qk;simp only[Za O];refine QN Tryz.func76 (body:=Zj Tryz.f76) rfl (by decide+kernel) ?_;refine wS ?_;refine ZJ false false [] [0,3,5] [] (fun(i:Nat)=>[(5,.int .i64 fun _=>i)]) (fun _=>[]) (fun i=>i<=l.length/\(l.drop i).any (fun x=>decide (x.feeder=w.feeder/\x.train=w.train/\x.station=w.station))=E) (fun i=>l.length-i+0) 0 ⟨aW _,V⟩ ?_ ?_
 ·exact ZF
 rintro i ⟨Z,A⟩;refine wS ?_;refine⟨fun G=>?_,fun G=>?_⟩
 ·have G:=of_decide_eq_true G;have U:=Qi (d:=default) O (l:=l) (i:=i) (by omega);rw[U,List.any_cons]at A;generalize S:J Sp.QV default l i=x at*;refine vS ?_;try simp only[S]
  try refine Chk.mk (ZE) ?_
  have I:(bif (bif x.feeder==w.feeder then x.train==w.train else false)then x.station==w.station else false)=decide (x.feeder=w.feeder/\x.train=w.train/\x.station=w.station):=by
   by_cases e1:x.feeder=w.feeder<;>by_cases e2:x.train=w.train<;>by_cases e3:x.station=w.station<;>simp[e1,e2,e3]
  refine⟨fun H=>?_,fun H=>?_⟩
  ·rw[I]at H;rw[H,cT]at A;subst A;(cbv;(try simp only[nc]at*);(try refine Chk.mk (ZE) ?_));(try first|exact⟨rfl,trivial⟩|exact⟨trivial,trivial⟩)
  rw[I]at H;rw[H,Bool.false_or]at A;refine wS ?_;refine⟨i+1,⟨by omega,A⟩,by show l.length-(i+1)+0<l.length-i+0;omega,?_⟩;exact ZF
 have G:=of_decide_eq_false G;rw[List.drop_eq_nil_of_le (by omega),List.any_nil]at A;subst A;(cbv;(try simp only[nc]at*);(try refine Chk.mk (ZE) ?_));(try first|exact⟨rfl,trivial⟩|exact⟨trivial,trivial⟩)
end Vm
namespace Sp
def QZ (b:Xs) (d:Z4):List Call×Bool:=if Q8 (Run b d.number d.day).1≠0 then([],false)else((Run b d.number d.day).1,decide ((Run b d.number d.day).2=0))
end Sp
namespace Vm
attribute [local irreducible] Dn
open Go Go.Proofs Sp
set_option maxRecDepth 100000
set_option maxHeartbeats 4000000
theorem Zva (b:Xs) (d:Sp.Z4) (Z:Xe b):SC (fun _=>aB) 75 [Zd b,.agg (Zi d)] [] fun v h=>v= .tup [lst 3 XM default (QZ b d).1,.bool fun _=>(QZ b d).2]/\h=[]:=by
 obtain⟨U,O⟩:=Zo;have k:=Zvf b d.number d.day Z;have S:=(Zdu b d.number d.day).1;have I:QZ b d=if Q8 (Run b d.number d.day).1≠0 then([],false)else((Run b d.number d.day).1,decide ((Run b d.number d.day).2=0)):=rfl
 generalize QZ b d=E at*;generalize Run b d.number d.day=r at*;obtain⟨C,er⟩:=r;unfold Zd Zi at*;simp only[Za O]at*;refine SC.less (QN Tryz.func75 (body:=Zj Tryz.f75) rfl (by decide+kernel) ?_);refine wS ?_;refine ZL (k) (by first|rfl|(simp only[Ze,Zd,Za O];rfl)) fun r aa V=>?_;(try simp only[Ze,Zd,Za O]at V);obtain⟨rfl,rfl⟩:=V;try dsimp only at I S
 refine wS ?_;refine XX fun Q Y=>?_;refine ZJ false false [] [6,7,8] [] (fun(j:Nat)=>[(8,.int .i64 fun _=>((j+1:Nat):Int))]) (fun _=>[]) (fun j=>Q8 C=Zm (YB C) (j+1) (C.length-(j+1))) (fun j=>C.length-(j+1)+0) 0 rfl ?_ ?_
 ·exact ZF
 rintro j A;refine wS ?_;refine⟨fun J=>?_,fun J=>?_⟩
 ·simp only[decide_eq_true_eq]at J;rw[Qh (by omega)]at A;have G:YB C (j+1)=if(U Sp.Call default C ((j+1:Nat):Int)).arrive<=(U Sp.Call default C (((j+1:Nat):Int)-1)).depart then 5 else 0:=by
   unfold YB;rw[Xz O,Xz O,show((j+1-1:Nat):Int)=((j+1:Nat):Int)-1 by omega]
  refine wS ?_;refine⟨fun H=>?_,fun H=>?_⟩
  ·simp only[decide_eq_true_eq]at H;rw[if_pos (by omega)]at G;rw[G,if_pos (by decide)]at A;rw[if_pos (by rw[A];decide)]at I;subst I;refine wS ?_;refine Y _ _ _ ?_;refine wS ?_;refine⟨_,[],?_,rfl,rfl⟩;exact ZF
  simp only[decide_eq_false_iff_not]at H;rw[if_neg (by omega)]at G;rw[G,if_neg (fun h=>h rfl)]at A;refine wS ?_;refine⟨j+1,A,by show C.length-(j+1+1)+0<C.length-(j+1)+0;omega,?_⟩;exact ZF
 simp only[decide_eq_false_iff_not]at J;rw[Qt (by omega)]at A;rw[if_neg (fun h=>h A)]at I;subst I;refine wS ?_;refine Y _ _ _ ?_;refine wS ?_;refine⟨_,[],?_,rfl,rfl⟩;exact ZF
theorem ZwM (b:Xs) (d:Sp.Z4) (G:Xe b) (A:(QZ b d).2=false):SC (fun _=>aB) 75 [Zd b,.agg (Zi d)] [] fun v h=>v= .tup [.undef,.bool fun _=>false]/\h=[]:=by
 refine SC.less (SC.mono (Zva b d G) fun r H hr=>?_);obtain⟨rfl,rfl⟩:=hr;rw[A];generalize (QZ b d).1=C;refine⟨.tup [.undef,.bool fun _=>false],[],?_,rfl,rfl⟩;exact ZF
end Vm
namespace Vm
open Sp
theorem Zbw {f:Nat->Int}:∀ {k i:Nat},(∀j,i<=j->j<i+k->f j=0)->Zm f i k=0
 |0,_,_=>rfl
 |k+1,i,h=>by
  unfold Zm;rw[if_neg (fun A=>A (h i (aJ _) (by omega)))];exact Zbw fun j H G=>h j (by omega) (by omega)
theorem ZgD {n a b:Int} (G:a<=n) (A:n<=b):YV n a b=true:=by simp[YV,G,A]
theorem Zed {n a b:Int} (G:a<=n) (A:n<=b):QG n a b=false:=by unfold QG;rw[ZgD G A];rfl
theorem ZqL {n a b:Int} (G:a<=n) (A:n<=b):ZO n a b=0:=by
 unfold ZO;rw[if_neg (by omega),if_neg (by omega)]
theorem Zoe {k:Int} {z:Zone} (h:Zq4 k z) (hk:k<=3):Zw z=0:=by
 have hb:=h.base;have hl:=h.len;unfold Zw;rw[if_neg (by simp[YV];omega),if_neg (by omega)];have S:∀(l:List Chg) (p:Option Int),(∀c∈l,0<=c.at_/\c.at_<=43200/\Zrk c.by_)->l.Pairwise (fun a b=>a.at_<b.at_)->(∀a,p=some a->∀c∈l,a<c.at_)->Jd p l=0:=by
  intro l;induction l with
  |nil=>intro p _ _ _;exact Zdd p
  |cons c l V=>
   intro p A H Y;obtain⟨b1,b2,Z⟩:=A c (aU ..);have J:leP p c.at_=false:=by
    cases p with
    |none=>rfl
    |some a=>have:=Y a rfl c (aU ..);simp[leP];omega
   rw[YS,if_neg (by simp[YV];omega),J];unfold Zrk at Z;have h4:(!YV c.by_ (-180) 180||decide (c.by_=0))=false:=by
    have g1:YV c.by_ (-180) 180=true:=by simp[YV];omega
    have U:decide (c.by_=0)=false:=by simp;omega
    rw[g1,U];rfl
   rw[h4];simp only[aX,if_false];rw[List.pairwise_cons]at H;exact V _ (fun x I=>A x (aQ _ I)) H.2 fun a e x I=>by cases e;exact H.1 x I
 exact S _ none (fun c G=>by
  have A:=h.at_ c G;have:0<z.chs.length:=List.length_pos_of_mem G
  exact⟨A.1,by omega,h.by_ c G⟩) h.asc fun a e=>by cases e
theorem ZgC {α:Type} {q:α->Bool} {d:α}:∀ {l:List α} {i:Nat} {k:Int},i<l.length->q (l.getD i d)=true->(∀j,j<i->q (l.getD j d)=false)->Zt q k l=k+i
 |[],i,k,h,_,_=>by simp at h
 |a::l,i,k,h,hi,hj=>by
  unfold Zt;cases i with
  |zero=>
   rw[show q a=true from hi,if_pos rfl];simp
  |succ i=>
   rw[show q a=false from hj 0 (by omega),if_neg aS,ZgC (d:=d) (i:=i) (by simpa using h) hi fun j A=>hj (j+1) (by omega)];omega
theorem ZsB {α:Type} {d:α} {l:List α} {i:Nat} (h:i<l.length):l.getD i d∈l:=by rw[aA,aD h];exact bM _
theorem Zp7 {α:Type} {d:α} {r:α->α->Prop} {l:List α} (h:l.Pairwise r) {i j:Nat} (A:i<j) (G:j<l.length):r (l.getD i d) (l.getD j d):=by
 have:=List.pairwise_iff_getElem.1 h i j (by omega) G A;rw[aA,aA,aD (by omega),aD G];exact this
structure DL (n:Int) (l:List Train):Prop where
 all:∀(k:Nat),k<l.length->∃st:Nat,2<=st/\st<=10/\ZkL st (n-k) (l.getD k default)
theorem DL.snoc {n:Int} {l:List Train} {t:Train} {st:Nat} (h:DL n l) (G:2<=st/\st<=10) (H:ZkL st (n-l.length) t):DL n (l++[t]):=⟨fun k A=>by
 simp only[bf,bF,cE]at A;by_cases h2:k<l.length
 ·rw[aA,bO h2,<-aA];exact h.all k h2
 have A:k=l.length:=by omega
 subst A;have e:(l++[t]).getD l.length default=t:=by simp[aA]
 rw[e]
 exact⟨st,G.1,G.2,H⟩⟩
def Zs (z:Zone) (old:List Train):Xs:=⟨[z],old,[],1,0⟩
theorem ZsU {st:Nat} {number:Int} {t:Train} (aa:st<=10) (h:Zh4 1 st number t):Y3 1 t.stops=0:=by
 refine Zbw fun j _ A=>?_;have A:j<t.stops.length:=by omega
 obtain⟨Z,S,I,h4,U⟩:=h.stop _ (ZsB (d:=default) A);unfold Xg Je;rw[ZgD Z.1 (by omega)];have G:(t.stops.take j).any (fun x=>decide (x.station=(t.stops.getD j default).station))=false:=by
  rw[eR];intro x V;obtain⟨i,J,rfl⟩:=eh.1 V;have H:i<j:=by simp at J;omega
  have:=Zp7 (d:=default) h.nodup H A;rw[aA,aD (show i<t.stops.length by omega)]at this;simpa using this
 rw[G,ZgD S.1 (by omega),ZgD I (by omega),ZgD (by omega:(0:Int)<=_) U];have Y:decide ((t.stops.getD j default).depart<(t.stops.getD j default).arrive)=false:=decide_eq_false (by omega);rw[Y];simp
theorem Zfa {n:Int} {l:List Train} (h:DL n l) {i:Nat} (hi:i<l.length):(l.getD i default).number=n-i:=by
 obtain⟨st,_,_,A⟩:=h.all i hi;exact A.made.number
theorem ZiY {z:Zone} {n:Int} {l:List Train} (S:Zw z=0) (h:DL n l) (hn:n=l.length) (hl:l.length<=4):Yx (Zs z l)=0:=by
 have Y:Qf 1 l=0:=by
  unfold Qf;rw[ZqL (show(0:Int)<=l.length by omega) (by omega),if_neg (fun h=>h rfl)];refine Zbw fun j _ A=>?_;have A:j<l.length:=by omega
  obtain⟨st,_,J,H⟩:=h.all j A;have V:=H.made.len;unfold QU;rw[ZgD (by rw[Zfa h A];omega) (by rw[Zfa h A];omega)];have I:(l.take j).any (fun x=>decide (x.number=(l.getD j default).number))=false:=by
   rw[eR];intro x G;obtain⟨i,U,rfl⟩:=eh.1 G;have Z:i<j:=by simp at U;omega
   have G:=Zfa h (show i<l.length by omega);rw[aA,aD (show i<l.length by omega)]at G;rw[Zfa h A,List.getElem_take];have G:l[i].number=n-i:=G;rw[G];simp;omega
  rw[I,ZgD H.made.days.1 H.made.days.2,ZqL (by omega) (by omega)];simp only[Bool.not_true,aX,if_false,ne_eq,not_true_eq_false];exact ZsU J H.made
 unfold Yx Zs;simp only[bF,cE];rw[show Qf ((0+1:Nat):Int) l=0 from Y]
 rw[Zbw (f:=fun i=>Zw ([z].getD i default)) (k:=0+1) (i:=0) (fun j _ A=>by
  have:j=0:=by omega
  subst this
  exact S)]
 rfl
theorem Zmn {z:Zone} {n:Int} {l:List Train} (H:Yx (Zs z l)=0) (h:DL n l) {j:Nat} (A:j<l.length):Run (Zs z l) (l.getD j default).number 0=(Sp.calls [z] (l.getD j default) 0,0):=by
 obtain⟨st,_,S,I⟩:=h.all j A;have J:place l (l.getD j default).number=j:=by
  unfold place
  rw[ZgC (d:=default) A (by simp) fun i U=>by
   rw[Zfa h A,Zfa h (show i<l.length by omega)];simp
   omega]
  omega
 unfold Run;rw[if_neg (fun G=>G H)];show(if(!YV 0 0 0)=true then _ else _)=_;rw[if_neg (by decide)];show(if place l (l.getD j default).number<0 then _ else if(!ZbW (l.getD (place l (l.getD j default).number).toNat default) 0)=true then _ else(Sp.calls [z] (l.getD (place l (l.getD j default).number).toNat default) 0,0))=_;rw[J,if_neg (by omega),aV];have:ZbW (l.getD j default) 0=true:=by
  unfold ZbW;rw[I.days];decide
 rw[this];rfl
theorem ZgV (G:List Zone) (day:Int) (many:Nat):∀(l:List Stop) (i:Nat) (A:Int),(Q5 G day many i A l).map (·.station)=l.map (·.station)
 |[],_,_=>rfl
 |s::r,i,A=>by
  unfold Q5;split
  ·simp[ZgV G day many r]
  simp[ZgV G day many r]
structure ZkI (r:List Sp.Call):Prop where
 len:2<=r.length/\r.length<=4
 st:r.Pairwise fun a b=>a.station≠b.station
 asc:Q8 r=0
theorem ZpW {z:Zone} {st:Nat} {number:Int} {t:Train} (h:ZkL st number t) (H:Q8 (Sp.calls [z] t 0)=0):ZkI (Sp.calls [z] t 0):=by
 have G:(Sp.calls [z] t 0).length=t.stops.length:=Y5 _ _ _ _ _ _;refine⟨by rw[G];exact⟨h.made.len.1,h.made.len.2.1⟩,?_,H⟩;have e:(Sp.calls [z] t 0).map (·.station)=t.stops.map (·.station):=ZgV _ _ _ _ _ _;have A:(t.stops.map (·.station)).Pairwise (· ≠·):=ia.2 h.made.nodup;rw[<-e]at A;exact ia.1 A
def eAt (many i:Nat) (s:Stop):Sp.Call:=if i=0 then⟨s.station,if i+1<many then s.depart else 0,if i+1<many then s.depart else 0⟩else⟨s.station,s.arrive,if i+1<many then s.depart else s.arrive⟩
def eGo (many:Nat):Nat->List Stop->List Sp.Call
 |_,[]=>[]
 |i,s::r=>eAt many i s::eGo many (i+1) r
theorem Zqq {r A:Int} (H:0<=r/\r<=10000) (G:0<=A/\A<=r):Q7 (ZU ⟨0,[]⟩) r A=r:=by
 show(if max 0 (max A (r-0))<Xx then max 0 (max A (r-0))else Xx)=r;unfold Xx;rw[if_pos (by omega)];omega
theorem Zqs {many:Nat}:∀(l:List Stop) (i:Nat) (A:Int),(∀s∈l,s.zone=0/\0<=s.arrive/\s.arrive<=s.depart/\s.depart<=5000)->(∀k,k+1<l.length->(l.getD k default).depart<(l.getD (k+1) default).arrive)->
  (0<=A/\∀s∈l.head?,if i=0 then A=0 else A<s.arrive)->Q5 [⟨0,[]⟩] 0 many i A l=eGo many i l
 |[],_,_,_,_,_=>rfl
 |s::r,i,A,hs,ha,hn=>by
  obtain⟨z0,a0,a1,a2⟩:=hs s (aU ..);have aa:=hn.1;have H:=hn.2 s (by simp);have V:([⟨0,[]⟩]:List Zone).getD s.zone.toNat default=⟨0,[]⟩:=by rw[z0];rfl
  have G:∀d:Int,0<=d->d<=s.depart->0<=d/\∀U∈r.head?,if i+1=0 then d=0 else d<U.arrive:=fun d h1 h2=>⟨h1,fun U J=>by
   rw[if_neg (by omega)];cases r with
   |nil=>cases J
   |cons x r=>
    have:x=U:=by simpa using J
    subst this;have:=ha 0 (by simp)
    exact Int.lt_of_le_of_lt h2 this⟩
  have I:∀k,k+1<r.length->(r.getD k default).depart<(r.getD (k+1) default).arrive:=fun k Y=>ha (k+1) (by simpa using Y);have S:∀s∈r,s.zone=0/\0<=s.arrive/\s.arrive<=s.depart/\s.depart<=5000:=fun x hx=>hs x (aQ _ hx);unfold Q5 eGo eAt;rw[V];by_cases h0:i=0
  ·rw[if_pos h0]at H;subst H;simp only[if_pos h0];have e:Q7 (ZU ⟨0,[]⟩) (1440*0+s.depart) 0=s.depart:=by rw[show(1440:Int)*0+s.depart=s.depart by omega];exact Zqq (by omega) (by omega)
   rw[e];rw[Zqs r (i+1) _ S I (G _ (by split<;>omega) (by split<;>omega))]
  rw[if_neg h0]at H;simp only[if_neg h0];have e:Q7 (ZU ⟨0,[]⟩) (1440*0+s.arrive) A=s.arrive:=by rw[show(1440:Int)*0+s.arrive=s.arrive by omega];exact Zqq (by omega) (by omega)
  have Z:Q7 (ZU ⟨0,[]⟩) (1440*0+s.depart) s.arrive=s.depart:=by rw[show(1440:Int)*0+s.depart=s.depart by omega];exact Zqq (by omega) (by omega)
  rw[e,Z];rw[Zqs r (i+1) _ S I (G _ (by split<;>omega) (by split<;>omega))]
theorem ZiW {many:Nat}:∀(l:List Stop) (i k:Nat),k<l.length->(eGo many i l).getD k default=eAt many (i+k) (l.getD k default)
 |[],_,k,h=>by simp at h
 |s::r,i,0,_=>rfl
 |s::r,i,k+1,h=>by
  have:=ZiW (many:=many) r (i+1) k (by simpa using h);rw[show i+1+k=i+(k+1) by omega]at this;exact this
theorem Zk6 {st:Nat} {number:Int} {t:Train} (h:ZkL st number t):Q8 (Sp.calls [⟨0,[]⟩] t 0)=0:=by
 have e:Sp.calls [⟨0,[]⟩] t 0=eGo t.stops.length 0 t.stops:=Zqs _ _ _ (fun s A=>by
  have:=h.made.stop s A;have:=h.late s A
  omega) h.asc ⟨bT _,fun s A=>by rw[if_pos rfl]⟩
 have G:(Sp.calls [⟨0,[]⟩] t 0).length=t.stops.length:=Y5 _ _ _ _ _ _;unfold Q8;rw[G,e];refine Zbw fun k S U=>?_;have H:=h.made.len;unfold YB;rw[ZiW _ _ _ (by omega),ZiW _ _ _ (by omega)];have J:=h.asc (k-1) (by omega);rw[show k-1+1=k by omega]at J;have A:=h.made.stop _ (ZsB (d:=default) (show k-1<t.stops.length by omega));have I:(eAt t.stops.length (0+k) (t.stops.getD k default)).arrive=(t.stops.getD k default).arrive:=by unfold eAt;rw[if_neg (by omega)]
 have V:(eAt t.stops.length (0+(k-1)) (t.stops.getD (k-1) default)).depart<=(t.stops.getD (k-1) default).depart:=by
  unfold eAt;split
  ·show(if _ then _ else(0:Int))<=_;split<;>omega
  show(if _ then _ else _)<=_;split<;>omega
 rw[I,if_neg (by omega)]
theorem Zme {r:List Sp.Call} (G:r.Pairwise fun a b=>a.station≠b.station) {f i:Nat} (I:f<=i) (hi:i<r.length):ZM r f (r.getD i default).station=i:=by
 unfold ZM;rw[show(max 0 (f:Int))=f by omega,aV];have A:∀j,(r.drop f).getD j default=r.getD (f+j) default:=fun j=>by simp[aA,List.getElem?_drop]
 rw[ZgC (d:=default) (i:=i-f) (by rw[List.length_drop];omega) (by rw[A,show f+(i-f)=i by omega];simp) fun j H=>by
  rw[A];have:=Zp7 (d:=default) G (show f+j<i by omega) hi
  simpa using this]
 omega
theorem Zf1 {c:List (List Sp.Call)} {f:Int} (h:0<=f/\f<c.length):Sp.Zl c f∈c:=by
 unfold Sp.Zl;exact ZsB (by omega)
theorem Zrp {c:List (List Sp.Call)} (H:∀r∈c,ZkI r) {w:Sp.QV} {A:List Sp.QV} {i k:Nat} (S:0<=w.feeder/\w.feeder<c.length) (J:0<=w.train/\w.train<c.length) (I:w.feeder≠w.train) (hi:1<=i/\i<(Sp.Zl c w.feeder).length) (hk:k+1<(Sp.Zl c w.train).length)
  (U:w.station=((Sp.Zl c w.feeder).getD i default).station) (G:((Sp.Zl c w.train).getD k default).station=w.station) (ha:((Sp.Zl c w.feeder).getD i default).arrive<=((Sp.Zl c w.train).getD k default).depart) (hm:0<=w.minutes/\w.minutes<=60)
  (V:A.any (fun x=>decide (x.feeder=w.feeder/\x.train=w.train/\x.station=w.station))=false):Qd c w A=0:=by
 have h1:ZA (Sp.Zl c w.feeder) w.station=i:=by rw[U];exact Zme (H _ (Zf1 S)).st hi.1 hi.2
 have Z:ZM (Sp.Zl c w.train) 0 w.station=k:=by rw[<-G];exact Zme (H _ (Zf1 J)).st (aW _) (by omega)
 have Y:ZN (Sp.Zl c w.train) w.station=k:=by unfold ZN;rw[Z,if_pos (by omega)]
 unfold Qd;rw[Zed S.1 (by omega),Zed J.1 (by omega),if_neg (by decide),if_neg I];show(if ZA (Sp.Zl c w.feeder) w.station<0\/ZN (Sp.Zl c w.train) w.station<0 then(3:Int)else if QG w.minutes 0 60=true then 1 else if((Sp.Zl c w.train).getD (ZN (Sp.Zl c w.train) w.station).toNat default).depart<((Sp.Zl c w.feeder).getD (ZA (Sp.Zl c w.feeder) w.station).toNat default).arrive then 5 else if A.any _=true then 4 else 0)=0;rw[h1,Y,if_neg (by omega),Zed hm.1 hm.2,if_neg aS,aV,aV,if_neg (by omega),V,if_neg aS]
theorem ZqG {c:List (List Sp.Call)} {d:Sp.ZP} {A:List Sp.ZP} (hr:0<=d.run/\d.run<c.length) (I:0<=d.leg/\d.leg+2<=(Sp.Zl c d.run).length) (U:1<=d.by_.length/\d.by_.length<=3) (hv:∀k,k<d.by_.length->0<=d.by_.getD k 0/\d.by_.getD k 0<=240)
  (S:∀k,k+1<d.by_.length->d.by_.getD k 0<d.by_.getD (k+1) 0) (J:A.any (fun x=>decide (x.run=d.run/\x.leg=d.leg))=false):Qm c d A=0:=by
 unfold Qm;rw[Zed hr.1 (by omega)];show(if(false||QG d.leg 0 (((Sp.Zl c d.run).length:Int)-2))=true then(3:Int)else _)=0;rw[Zed I.1 (by omega),if_neg (by decide),if_neg (by omega),if_neg (by omega)];have H:Zm (ZeB d.by_) 0 d.by_.length=0:=Zbw fun k _ G=>by
  have G:k<d.by_.length:=by omega
  unfold ZeB;rw[Zed (hv k G).1 (hv k G).2,if_neg aS,if_neg];rintro⟨h1,h2⟩;have:=S (k-1) (by omega);rw[show k-1+1=k by omega]at this;omega
 rw[H,if_neg (fun h=>h rfl),J,if_neg aS]
structure LOk {α:Type} [Inhabited α] (e:α->List α->Int) (l:List α):Prop where
 ok:∀i,i<l.length->e (l.getD i default) (l.take i)=0
theorem LOk.nil {α:Type} [Inhabited α] {e:α->List α->Int}:LOk e []:=⟨fun i h=>by simp at h⟩
theorem LOk.snoc {α:Type} [Inhabited α] {e:α->List α->Int} {l:List α} {a:α} (h:LOk e l) (H:e a l=0):LOk e (l++[a]):=⟨fun i G=>by
 simp only[bf,bF,cE]at G;by_cases h2:i<l.length
 ·rw[aA,bO h2,<-aA,List.take_append_of_le_length (by omega)];exact h.ok i h2
 have A:i=l.length:=by omega
 subst A;rw[List.take_left];have e:(l++[a]).getD l.length default=a:=by simp[aA]
 rw[e]
 exact H⟩
theorem ZqY {t:Zb} (I:Yx t.book=0) (H:QQ t=0) (S:t.waits.length<=4) (A:LOk (Qd (callsOf t)) t.waits) (U:t.delays.length<=6) (J:LOk (Qm (callsOf t)) t.delays):Zr t=0:=by
 unfold Zr;rw[if_neg (fun h=>h I),if_neg (fun h=>h H),if_neg (by omega),Zbw (fun j _ G=>A.ok j (by omega)),if_neg (fun h=>h rfl),if_neg (by omega)];exact Zbw fun j _ G=>J.ok j (by omega)
end Vm
namespace Sp
open Vm
theorem Zfc {t:Zb} (h:Zr t=0):Sp.Yx t.book=0/\QQ t=0/\t.waits.length<=4/\LOk (Qd (callsOf t)) t.waits/\t.delays.length<=6/\LOk (Qm (callsOf t)) t.delays:=by
 unfold Zr at h;split at h
 ·exact absurd h (by assumption)
 split at h
 ·exact absurd h (by assumption)
 rename_i A I;split at h
 ·cases h
 split at h
 ·exact absurd h (by assumption)
 rename_i J G;split at h
 ·cases h
 rename_i S;exact⟨bQ A,bQ I,by omega,⟨fun i H=>Qp (bQ G) i (aW _) (by omega)⟩,by omega,⟨fun i H=>Qp h i (aW _) (by omega)⟩⟩
theorem LOk.mem {α:Type} [Inhabited α] {e:α->List α->Int} {l:List α} (h:LOk e l) {a:α} (G:a∈l):∃p,e a p=0:=by
 obtain⟨i,A,rfl⟩:=eh.1 G;refine⟨l.take i,?_⟩;have:=h.ok i A;rw[aA,aD A]at this;exact this
end Sp
end Go.Proofs.YtjgpiclllehgmaaGreat
