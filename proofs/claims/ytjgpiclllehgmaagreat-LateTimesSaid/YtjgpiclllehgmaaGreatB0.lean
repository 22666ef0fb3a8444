/- Lemmas. -/
import Derived.Test.YtjgpiclllehgmaaGreatTbl
import Derived.Test.YtjgpiclllehgmaaGreatM5
set_option linter.all false
open Int renaming tmod_eq_emod_of_nonneg->fA
open List renaming length_cons->bF,length_nil->cE
open Go.Proofs.Tryz renaming prog->aB
namespace Go.Proofs.YtjgpiclllehgmaaGreat
namespace Vm
open Go Go.Proofs
set_option maxRecDepth 100000
theorem nc (i:Nat):(NatCast.natCast i:Int)=(i:Int):=rfl
theorem Xo:ZT []↔True:=⟨fun _=>trivial,fun _=>Yb⟩
theorem ZmS {x:Cn} {c:Cd}:ZT (x::c)↔x.p/\ZT c:=⟨fun h=>⟨h x (List.mem_cons_self ..),fun q A=>h q (List.mem_cons_of_mem _ A)⟩,fun h q A=>by
 rcases List.mem_cons.1 A with rfl|A
 ·exact h.1
 exact h.2 q A⟩
theorem Xn {P:Unit->Prop} {b:Unit->Bool} {ok:b ()=true->P ()} {c:Cd}:ZT (.d P b ok::c)↔P ()/\ZT c:=ZmS
theorem XA {v w:Unit->AV} {c:Cd}:ZT (.e v w::c)↔(v ()=w ()\/Imp (v ()) (w ()))/\ZT c:=ZmS
theorem Xm {g:Unit->Bool} {x:Cn} {c:Cd}:ZT (.i g x::c)↔(g ()=true->x.p)/\ZT c:=ZmS
theorem all_cons {x:Cn} {c:Cd} (G:x.p) (A:ZT c):ZT (x::c):=ZmS.2 ⟨G,A⟩
theorem Zti (n k:Int):(0<=n->n.tmod k=n%k)/\(n<0->n.tmod k=-((-n)%k)):=by
 refine⟨fun h=>fA h,fun h=>?_⟩;have:=Int.neg_tmod (-n) k;rw[Int.neg_neg]at this;rw[this,fA (by omega)]
theorem ZL {f:FuncId} {xs I:List AV} {h:List Zh} {A Q:AV->List Zh->Prop} (H:SC (fun _=>aB) f I [] Q) (U:xs.map (Qs false [] h 5)=I) (J:∀r G,Q r G->A (ren (Y7 [] h.length) 5 r) (back [] h G)):SC (fun _=>aB) f xs h A:=
 SC.frame [] List.nodup_nil (fun i S=>by cases S) (by rw[U];exact H) J
theorem ZS (l:List Nat) {f:FuncId} {xs U:List AV} {h J:List Zh} {A Q:AV->List Zh->Prop} (H:SC (fun _=>aB) f U J Q) (I:l.Nodup) (S:∀i∈l,i<h.length) (Y:xs.map (Qs false l h 5)=U) (Z:sel false l h=J) (V:∀r G,Q r G->A (ren (Y7 l h.length) 5 r) (back l h G)):SC (fun _=>aB) f xs h A:=
 SC.frame l I S (by rw[Y,Z];exact H) V
theorem Br.isT {b:Unit->Bool} {A B:Unit->Prop} (h:b ()=true) (H:A ()):Br b A B:=⟨fun _=>H,fun G=>(by rw[h]at G;cases G)⟩
theorem Br.isF {b:Unit->Bool} {A B:Unit->Prop} (h:b ()=false) (H:B ()):Br b A B:=⟨fun G=>(by rw[h]at G;cases G),fun _=>H⟩
theorem XX {rd:Bool} {x:Code} {Q':Ex->List AV->List Zh->Prop} {s:List AV} {h:List Zh} (H:∀Q:Ex->List AV->List Zh->Prop,(∀e s h,Q' e s h->Q e s h)->LP rd (fun _=>aB) x Q s h):LP rd (fun _=>aB) x Q' s h:=H Q' fun _ _ _ h=>h
def mkS (n:Nat) (l:List (Nat×AV)):List AV:=l.foldl (fun s p=>s.set p.1 p.2) (List.replicate n .undef)
theorem QN {f:FuncId} {fn:Func} {body:Code} (J:aB.funcs[f]? =some fn) (H:fn.body=some body) (G:(fn.name== "runtime.NumGoroutine")=false) {xs:List AV} {h:List Zh} {A:AV->List Zh->Prop}
  (hW:Dn tb (fun _=>aB) (Zfj tb fn.results.toList h.length A) 100 .none [.code body] (entry fn.ntmps xs) h []) (I:zOk h=true:=by rfl):SC (fun _=>aB) f xs h A:=SC.ofD (T:=tb) hT hm J H G I (fun h=>by cases h) hW
theorem Zxl (kp rs:Bool) {f:FuncId} {fn:Func} {body:Code} (J:aB.funcs[f]? =some fn) (H:fn.body=some body) (G:(fn.name== "runtime.NumGoroutine")=false) {xs:List AV} {h:List Zh} {A:AV->List Zh->Prop}
  (hW:Dn (tbF kp rs) (fun _=>aB) (Zfj (tbF kp rs) fn.results.toList h.length A) 100 .none [.code body] (entry fn.ntmps xs) h []) (I:zOk h=true:=by rfl):SC (fun _=>aB) f xs h A:=SC.ofD (T:=tbF kp rs) (hTF kp rs) hm J H G I (fun h=>by cases h) hW
theorem ZjQ {x:Code} {Q:Ex->List AV->List Zh->Prop} {s:List AV} {h:List Zh} {ι:Type} (L:List Nat) (st:ι->List AV) (A:ι->List Zh) (inv:ι->Prop) (H:ι->Nat) (i:ι) (n:Nat)
  (I:∀i,(A i).length=n) (hi:inv i) (G:To (Vm.keep L s) h (st i) (A i)) (step:∀i,inv i->Dn tb (fun _=>aB) (Zfq L st A inv H i n Q) 100 .none [.code x] (st i) (A i) []):LP false (fun _=>aB) x Q s h:=
 LP.indD (T:=tb) hT hm rfl L st A inv H i n I hi G step
theorem Zwk (kp rs:Bool) {x:Code} {Q:Ex->List AV->List Zh->Prop} {s:List AV} {h:List Zh} {ι:Type} (L:List Nat) (st:ι->List AV) (A:ι->List Zh) (inv:ι->Prop) (H:ι->Nat) (i:ι) (n:Nat)
  (I:∀i,(A i).length=n) (hi:inv i) (G:To (Vm.keep L s) h (st i) (A i)) (step:∀i,inv i->Dn (tbF kp rs) (fun _=>aB) (Zfq L st A inv H i n Q) 100 .none [.code x] (st i) (A i) []):LP false (fun _=>aB) x Q s h:=
 LP.indD (T:=tbF kp rs) (hTF kp rs) hm rfl L st A inv H i n I hi G step
def tbX (kp rs:Bool) (cs:List Nat):Tb:={tb with kp,rs,cuts:=cs}
theorem hTX (kp rs:Bool) (cs:List Nat):(tbX kp rs cs).Of ((fun _=>aB:Unit->Program) ()):=⟨Zba,Za9,Zbb⟩
def Y9 (s:List AV) (l:List (Nat×AV)):List AV:=l.foldl (fun s p=>s.set p.1 p.2) s
def Ym (h:List Zh) (l:List (Nat×Zh)):List Zh:=l.foldl (fun s p=>s.set p.1 p.2) h
theorem ZbX (l:List (Nat×Zh)):∀(h:List Zh),(Ym h l).length=h.length:=by
 induction l with
 |nil=>intro h;rfl
 |cons p l A=>intro h;show(Ym (h.set p.1 p.2) l).length=_;rw[A];simp
theorem Zkl (kp rs:Bool) (cs:List Nat) {f:FuncId} {fn:Func} {body:Code} (J:aB.funcs[f]? =some fn) (H:fn.body=some body) (G:(fn.name== "runtime.NumGoroutine")=false) {xs:List AV} {h:List Zh} {A:AV->List Zh->Prop}
  (hW:Dn (tbX kp rs cs) (fun _=>aB) (Zfj (tbX kp rs cs) fn.results.toList h.length A) 100 .none [.code body] (entry fn.ntmps xs) h []) (I:zOk h=true:=by rfl):SC (fun _=>aB) f xs h A:=SC.ofD (T:=tbX kp rs cs) (hTX kp rs cs) hm J H G I (fun h=>by cases h) hW
def tbG (kp rs:Bool) (cs:List Nat):Tb:={tb with kp,rs,cuts:=cs,gr:=true}
theorem hTG (kp rs:Bool) (cs:List Nat):(tbG kp rs cs).Of ((fun _=>aB:Unit->Program) ()):=⟨Zba,Za9,Zbb⟩
theorem Zww (kp rs:Bool) (cs:List Nat) {f:FuncId} {fn:Func} {body:Code} (J:aB.funcs[f]? =some fn) (H:fn.body=some body) (G:(fn.name== "runtime.NumGoroutine")=false) {xs:List AV} {h:List Zh} {A:AV->List Zh->Prop}
  (hW:Dn (tbG kp rs cs) (fun _=>aB) (Zfj (tbG kp rs cs) fn.results.toList h.length A) 100 .none [.code body] (entry fn.ntmps xs) h []) (I:zOk h=true:=by rfl):SC (fun _=>aB) f xs h A:=SC.ofD (T:=tbG kp rs cs) (hTG kp rs cs) hm J H G I (fun h=>by cases h) hW
def tbH (kp rs:Bool) (cs A:List Nat) (lp:Bool) (nb:Nat):Tb:={tb with kp,rs,cuts:=cs,fl:=true,hand:=A,lp,nb}
theorem hTH (kp rs:Bool) (cs A:List Nat) (lp:Bool) (nb:Nat):(tbH kp rs cs A lp nb).Of ((fun _=>aB:Unit->Program) ()):=⟨Zba,Za9,Zbb⟩
theorem Zs0 (kp rs:Bool) (cs G:List Nat) (lp:Bool) (nb:Nat) {f:FuncId} {fn:Func} {body:Code} (U:aB.funcs[f]? =some fn) (J:fn.body=some body) (I:(fn.name== "runtime.NumGoroutine")=false) {xs:List AV} {h:List Zh} {A:AV->List Zh->Prop} (H:Z7 h.length nb=true)
  (hW:Dn (tbH kp rs cs G lp nb) (fun _=>aB) (Zfj (tbH kp rs cs G lp nb) fn.results.toList h.length A) 100 .none [.code body] (entry fn.ntmps xs) h []) (S:zOk h=true:=by rfl):SC (fun _=>aB) f xs h A:=SC.ofD (T:=tbH kp rs cs G lp nb) (hTH kp rs cs G lp nb) hm U J I S (fun _=>QT H) hW
theorem ZdL (kp rs:Bool) (cs A:List Nat) (lp:Bool) {nb:Nat} {K:Ex->List AV->List Zh->Cd->Prop} {k:List Item} {s:List AV} {h:List Zh} (hW:Dn (tbH kp rs cs A lp nb) (fun _=>aB) K 100 .none k s h []):HP false nb (fun _=>aB) k K s h:=HP.ofD (T:=tbH kp rs cs A lp nb) (hTH kp rs cs A lp nb) hm hW
theorem Zbv {rd:Bool} {nb:Nat} {K:Ex->List AV->List Zh->Cd->Prop} {k:List Item} {s s₂:List AV} {h h₂:List Zh} (L:List Nat) (n:Nat) (I:Z7 n h.length=true) (G:Z7 nb n=true) (A:To (trimS n h (Vm.keep L s)) (Vm.sel true (List.range n) h) s₂ h₂) (H:HP rd nb (fun _=>aB) k K s₂ h₂):HP rd nb (fun _=>aB) k K s h:=
 HP.cut L n (QT I) (QT G) A H
theorem ZJ (kp rs:Bool) (cs:List Nat) {x:Code} {Q:Ex->List AV->List Zh->Prop} {s:List AV} {h:List Zh} {ι:Type} (L:List Nat) (ex:List Zh) (ch:ι->List (Nat×AV)) (A:ι->List (Nat×Zh)) (inv:ι->Prop) (H:ι->Nat) (i:ι)
  (hi:inv i) (G:To (Vm.keep L s) h (Y9 (Vm.keep L s) (ch i)) (Ym (h++ex) (A i)))
  (step:∀i,inv i->Dn (tbX kp rs cs) (fun _=>aB) (Zfq L (fun i=>Y9 (Vm.keep L s) (ch i)) (fun i=>Ym (h++ex) (A i)) inv H i (h++ex).length Q) 100 .none [.code x] (Y9 (Vm.keep L s) (ch i)) (Ym (h++ex) (A i)) []):LP false (fun _=>aB) x Q s h:=
 LP.indD (T:=tbX kp rs cs) (hTX kp rs cs) hm rfl L (fun i=>Y9 (Vm.keep L s) (ch i)) (fun i=>Ym (h++ex) (A i)) inv H i (h++ex).length (fun _=>ZbX _ _) hi G step
theorem Zxk (kp rs:Bool) (cs:List Nat) {x:Code} {Q:Ex->List AV->List Zh->Prop} {s:List AV} {h:List Zh} {ι:Type} (L:List Nat) (ch:ι->List (Nat×AV)) (A:ι->List (Nat×Zh)) (inv:ι->Prop)
  (step:Dn (tbX kp rs cs) (fun _=>aB) (ZlT L (fun i=>Y9 (Vm.keep L s) (ch i)) (fun i=>Ym h (A i)) inv h.length Q) 100 .none [.code x] s h [])
  (rest:∀i,inv i->Q .normal (Y9 (Vm.keep L s) (ch i)) (Ym h (A i))):XP false (fun _=>aB) x Q s h:=
 XP.byD (T:=tbX kp rs cs) (hTX kp rs cs) hm rfl L (fun i=>Y9 (Vm.keep L s) (ch i)) (fun i=>Ym h (A i)) inv step rest
theorem ZnS (kp rs:Bool) (cs:List Nat) (H:Nat) {m:Nat} {T:Tb} {K:Ex->List AV->List Zh->Cd->Prop} {x:Code} {k:List Item} {Q:Ex->List AV->List Zh->Prop} {s:List AV} {h:List Zh} {ι:Type} (L:List Nat) (ch:ι->List (Nat×AV)) (A:ι->List (Nat×Zh)) (inv:ι->Prop)
  (J:∀s h,Dn T (fun _=>aB) K m .none k s h []->Q .normal s h) (G:H<=m)
  (step:Dn (tbX kp rs cs) (fun _=>aB) (ZlT L (fun i=>Y9 (Vm.keep L s) (ch i)) (fun i=>Ym h (A i)) inv h.length Q) 100 .none [.code x] s h [])
  (rest:∀i,inv i->Dn T (fun _=>aB) K H .none k (Y9 (Vm.keep L s) (ch i)) (Ym h (A i)) []):XP false (fun _=>aB) x Q s h:=
 Zxk kp rs cs L ch A inv step fun i I=>J _ _ (Zus G (rest i I))
theorem nb1 {x:Bool} (h:x=false):(!x)=true:=by rw[h];rfl
theorem nb2 {x:Bool} (h:(!x)=true):x=false:=by cases x;rfl;cases h
theorem nb3 {x:Bool} (h:x=true):(!x)=false:=by rw[h];rfl
theorem nb4 {x:Bool} (h:(!x)=false):x=true:=by cases x;cases h;rfl
theorem JC {f:FuncId} {xs I:List AV} {h:List Zh} {A Q:AV->List Zh->Prop} (H:SC (fun _=>aB) f I [] Q) (J:To xs h I h) (U:I.map (Qs false [] h 5)=I) (S:∀r G,Q r G->A (ren (Y7 [] h.length) 5 r) (back [] h G)):SC (fun _=>aB) f xs h A:=
 SC.to J (ZL H U S)
theorem ZE {P:Prop} (h:P:=by(try simp only[nc,Xo,Xn,XA,Xm,Cn.p,and_true,true_and,decide_eq_true_eq,imp_self,List.length_cons,List.length_nil]);all_goals ((repeat' (first|apply And.intro|intro _))<;>first|omega|rfl|exact Or.inl rfl|assumption|exact nb1 (by assumption)|exact nb2 (by assumption)|exact nb3 (by assumption)|exact nb4 (by assumption)|decide|decide+kernel|(simp[*];done))):P:=h
theorem okd {P:Prop} (h:P:=by(try simp only[nc,Xo,Xn,XA,Xm,Cn.p,and_true,true_and,decide_eq_true_eq,imp_self,List.length_cons,List.length_nil]);all_goals ((repeat' (first|apply And.intro|intro _))<;>first|omega|rfl|exact Or.inl rfl|assumption|exact nb1 (by assumption)|exact nb2 (by assumption)|exact nb3 (by assumption)|exact nb4 (by assumption)|exact nb5 (by assumption) (by assumption)|exact nb6 (by assumption) (by assumption)|(rename_i h;have A:=eq_of_beq h;omega)|exact decide_eq_false (by omega)|exact decide_eq_true (by omega)|decide|decide+kernel|(simp[*];done))):P:=h
theorem XQ {P:Prop} (h:P:=by first|exact .int rfl|exact .int (by first|omega|(simp only[nc];omega)|(simp;done))|exact .bool rfl|exact .snoc O rfl rfl rfl|exact .snoc O rfl rfl (by simp only[encZone,encTrain,Za O];rfl)|exact lit_nt O _ _ _ _ rfl|exact take_nt O (by omega)|exact lstR_wk O|exact .tok rfl|exact .tok (by simp)|exact .lst O rfl|exact .gsl (by simp)|exact .empty rfl|exact .nilOwn (by decide) (by decide) rfl|exact .nilGar (by decide) (by decide) rfl|exact .gd (by first|assumption|decide|(simp[*];done)) (.refl _)):P:=h
structure HdW (B:Prop):Prop where
 out:B
theorem wS {A B:Prop} (k:B) (h:HdW B->A:=by intro hW;cbv;(try simp only[nc]at*);(try refine Chk.mk (ZE) ?_);exact hW.out):A:=h ⟨k⟩
theorem vS {A B:Prop} (k:B) (h:HdW B->A:=by intro hW;cbv;(try simp only[nc]at*);exact hW.out):A:=h ⟨k⟩
theorem ZF {s s':List AV} {h h':List Zh} (k:To s h s' h':=by(refine To.of [] ?_;cbv;(try simp only[nc]);(repeat' (first|exact trivial|exact Zy.refl _|exact ZG.refl _|refine⟨?_,?_⟩|refine ZG.cells ?_|refine Zy.agg ?_|refine Zy.tup ?_));(all_goals (first|exact XQ|skip)))):To s h s' h':=k
theorem toR {s s':List AV} {h h':List Zh} {B:Prop} (k:B) (t:HdW B->To s h s' h':=by intro hW;(refine To.of [] ?_;cbv;(try simp only[nc]);(repeat' (first|exact trivial|exact Zy.refl _|exact ZG.refl _|refine⟨?_,?_⟩|refine ZG.cells ?_|refine Zy.agg ?_|refine Zy.tup ?_));(all_goals (first|exact XQ|exact hW.out)))):To s h s' h':=t ⟨k⟩
theorem ZoM {s s':List AV} {h h':List Zh} {B C:Prop} (k:B) (l:C) (t:HdW B->HdW C->To s h s' h':=by intro hW hV;(refine To.of [] ?_;cbv;(try simp only[nc]);(repeat' (first|exact trivial|exact Zy.refl _|exact ZG.refl _|refine⟨?_,?_⟩|refine ZG.cells ?_|refine Zy.agg ?_|refine Zy.tup ?_));(all_goals (first|exact XQ|exact hW.out|exact hV.out)))):To s h s' h':=t ⟨k⟩ ⟨l⟩
theorem wZ {A:Prop} (h:A:=by cbv;(try simp only[nc]at*);(try refine Chk.mk (ZE) ?_)):A:=h
end Vm
end Go.Proofs.YtjgpiclllehgmaaGreat
