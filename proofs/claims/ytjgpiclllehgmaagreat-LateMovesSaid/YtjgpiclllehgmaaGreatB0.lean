/- Lemmas. -/
import Derived.Test.YtjgpiclllehgmaaGreatTbl
import Derived.Test.YtjgpiclllehgmaaGreatM5
set_option linter.all false
open Int renaming tmod_eq_emod_of_nonneg->fE
open List renaming length_cons->bF,length_nil->cF
open Go.Proofs.Tryz renaming prog->aB
namespace Go.Proofs.YtjgpiclllehgmaaGreat
namespace Vm
open Go Go.Proofs
set_option maxRecDepth 100000
theorem nc (i:Nat):(NatCast.natCast i:Int)=(i:Int):=rfl
theorem Xx:ZW []↔True:=⟨λ_=>trivial,λ_=>Yk⟩
theorem Zni {x:Cn} {c:Cd}:ZW (x::c)↔x.p/\ZW c:=⟨λh=>⟨h x (List.mem_cons_self ..),λq A=>h q (List.mem_cons_of_mem _ A)⟩,λh q A=>by
 rcases List.mem_cons.1 A with rfl|A
 ·exact h.1
 exact h.2 q A⟩
theorem Xw {P:Unit->Prop} {b:Unit->Bool} {ok:b ()=true->P ()} {c:Cd}:ZW (.d P b ok::c)↔P ()/\ZW c:=Zni
theorem XM {v w:Unit->AV} {c:Cd}:ZW (.e v w::c)↔(v ()=w ()\/Imp (v ()) (w ()))/\ZW c:=Zni
theorem Xv {g:Unit->Bool} {x:Cn} {c:Cd}:ZW (.i g x::c)↔(g ()=true->x.p)/\ZW c:=Zni
theorem all_cons {x:Cn} {c:Cd} (A:x.p) (G:ZW c):ZW (x::c):=Zni.2 ⟨A,G⟩
theorem ZtG (n k:Int):(0<=n->n.tmod k=n%k)/\(n<0->n.tmod k=-((-n)%k)):=by
 refine⟨λh=>fE h,λh=>?_⟩;have:=Int.neg_tmod (-n) k;rw[Int.neg_neg]at this;rw[this,fE (by omega)]
theorem ZN {f:FuncId} {xs I:List AV} {h:List Zh} {G Q:AV->List Zh->Prop} (H:SC (λ_=>aB) f I [] Q) (U:xs.map (QD false [] h 5)=I) (J:∀r A,Q r A->G (ren (Jh [] h.length) 5 r) (back [] h A)):SC (λ_=>aB) f xs h G:=
 SC.frame [] List.nodup_nil (λi S=>by cases S) (by rw[U];exact H) J
theorem ZU (l:List Nat) {f:FuncId} {xs J:List AV} {h U:List Zh} {G Q:AV->List Zh->Prop} (H:SC (λ_=>aB) f J U Q) (S:l.Nodup) (I:∀i∈l,i<h.length) (Z:xs.map (QD false l h 5)=J) (Y:sel false l h=U) (V:∀r A,Q r A->G (ren (Jh l h.length) 5 r) (back l h A)):SC (λ_=>aB) f xs h G:=
 SC.frame l S I (by rw[Z,Y];exact H) V
theorem Br.isT {b:Unit->Bool} {A B:Unit->Prop} (h:b ()=true) (H:A ()):Br b A B:=⟨λ_=>H,λG=>(by rw[h]at G;cases G)⟩
theorem Br.isF {b:Unit->Bool} {A B:Unit->Prop} (h:b ()=false) (H:B ()):Br b A B:=⟨λG=>(by rw[h]at G;cases G),λ_=>H⟩
theorem XD {rd:Bool} {x:Code} {Q':Ex->List AV->List Zh->Prop} {s:List AV} {h:List Zh} (H:∀Q:Ex->List AV->List Zh->Prop,(∀e s h,Q' e s h->Q e s h)->LP rd (λ_=>aB) x Q s h):LP rd (λ_=>aB) x Q' s h:=H Q' λ_ _ _ h=>h
def mkS (n:Nat) (l:List (Nat×AV)):List AV:=l.foldl (λs p=>s.set p.1 p.2) (List.replicate n .undef)
theorem Qq {f:FuncId} {fn:Func} {body:Code} (G:aB.funcs[f]? =some fn) (H:fn.body=some body) (I:(fn.name== "runtime.NumGoroutine")=false) {xs:List AV} {h:List Zh} {A:AV->List Zh->Prop}
  (hW:Dn tb (λ_=>aB) (Zes tb fn.results.toList h.length A) 100 .none [.code body] (entry fn.ntmps xs) h []) (J:zOk h=true:=by rfl):SC (λ_=>aB) f xs h A:=SC.ofD (T:=tb) hT hm G H I J (λh=>by cases h) hW
theorem Zx4 (kp rs:Bool) {f:FuncId} {fn:Func} {body:Code} (G:aB.funcs[f]? =some fn) (H:fn.body=some body) (I:(fn.name== "runtime.NumGoroutine")=false) {xs:List AV} {h:List Zh} {A:AV->List Zh->Prop}
  (hW:Dn (tbF kp rs) (λ_=>aB) (Zes (tbF kp rs) fn.results.toList h.length A) 100 .none [.code body] (entry fn.ntmps xs) h []) (J:zOk h=true:=by rfl):SC (λ_=>aB) f xs h A:=SC.ofD (T:=tbF kp rs) (hTF kp rs) hm G H I J (λh=>by cases h) hW
theorem Zkl {x:Code} {Q:Ex->List AV->List Zh->Prop} {s:List AV} {h:List Zh} {ι:Type} (L:List Nat) (st:ι->List AV) (A:ι->List Zh) (inv:ι->Prop) (H:ι->Nat) (i:ι) (n:Nat)
  (I:∀i,(A i).length=n) (hi:inv i) (G:To (Vm.keep L s) h (st i) (A i)) (step:∀i,inv i->Dn tb (λ_=>aB) (ZeI L st A inv H i n Q) 100 .none [.code x] (st i) (A i) []):LP false (λ_=>aB) x Q s h:=
 LP.indD (T:=tb) hT hm rfl L st A inv H i n I hi G step
theorem ZwO (kp rs:Bool) {x:Code} {Q:Ex->List AV->List Zh->Prop} {s:List AV} {h:List Zh} {ι:Type} (L:List Nat) (st:ι->List AV) (A:ι->List Zh) (inv:ι->Prop) (H:ι->Nat) (i:ι) (n:Nat)
  (I:∀i,(A i).length=n) (hi:inv i) (G:To (Vm.keep L s) h (st i) (A i)) (step:∀i,inv i->Dn (tbF kp rs) (λ_=>aB) (ZeI L st A inv H i n Q) 100 .none [.code x] (st i) (A i) []):LP false (λ_=>aB) x Q s h:=
 LP.indD (T:=tbF kp rs) (hTF kp rs) hm rfl L st A inv H i n I hi G step
def tbX (kp rs:Bool) (cs:List Nat):Tb:={tb with kp,rs,cuts:=cs}
theorem hTX (kp rs:Bool) (cs:List Nat):(tbX kp rs cs).Of ((λ_=>aB:Unit->Program) ()):=⟨Zav,Zau,Zaw⟩
def YQ (s:List AV) (l:List (Nat×AV)):List AV:=l.foldl (λs p=>s.set p.1 p.2) s
def X3 (h:List Zh) (l:List (Nat×Zh)):List Zh:=l.foldl (λs p=>s.set p.1 p.2) h
theorem Zax (l:List (Nat×Zh)):∀(h:List Zh),(X3 h l).length=h.length:=by
 induction l with
 |nil=>intro h;rfl
 |cons p l A=>intro h;show(X3 (h.set p.1 p.2) l).length=_;rw[A];simp
theorem ZkO (kp rs:Bool) (cs:List Nat) {f:FuncId} {fn:Func} {body:Code} (G:aB.funcs[f]? =some fn) (H:fn.body=some body) (I:(fn.name== "runtime.NumGoroutine")=false) {xs:List AV} {h:List Zh} {A:AV->List Zh->Prop}
  (hW:Dn (tbX kp rs cs) (λ_=>aB) (Zes (tbX kp rs cs) fn.results.toList h.length A) 100 .none [.code body] (entry fn.ntmps xs) h []) (J:zOk h=true:=by rfl):SC (λ_=>aB) f xs h A:=SC.ofD (T:=tbX kp rs cs) (hTX kp rs cs) hm G H I J (λh=>by cases h) hW
def tbG (kp rs:Bool) (cs:List Nat):Tb:={tb with kp,rs,cuts:=cs,gr:=true}
theorem hTG (kp rs:Bool) (cs:List Nat):(tbG kp rs cs).Of ((λ_=>aB:Unit->Program) ()):=⟨Zav,Zau,Zaw⟩
theorem Zoh (kp rs:Bool) (cs:List Nat) {f:FuncId} {fn:Func} {body:Code} (G:aB.funcs[f]? =some fn) (H:fn.body=some body) (I:(fn.name== "runtime.NumGoroutine")=false) {xs:List AV} {h:List Zh} {A:AV->List Zh->Prop}
  (hW:Dn (tbG kp rs cs) (λ_=>aB) (Zes (tbG kp rs cs) fn.results.toList h.length A) 100 .none [.code body] (entry fn.ntmps xs) h []) (J:zOk h=true:=by rfl):SC (λ_=>aB) f xs h A:=SC.ofD (T:=tbG kp rs cs) (hTG kp rs cs) hm G H I J (λh=>by cases h) hW
def tbH (kp rs:Bool) (cs A:List Nat) (lp:Bool) (nb:Nat):Tb:={tb with kp,rs,cuts:=cs,fl:=true,hand:=A,lp,nb}
theorem hTH (kp rs:Bool) (cs A:List Nat) (lp:Bool) (nb:Nat):(tbH kp rs cs A lp nb).Of ((λ_=>aB:Unit->Program) ()):=⟨Zav,Zau,Zaw⟩
theorem Zvr (kp rs:Bool) (cs G:List Nat) (lp:Bool) (nb:Nat) {f:FuncId} {fn:Func} {body:Code} (I:aB.funcs[f]? =some fn) (J:fn.body=some body) (S:(fn.name== "runtime.NumGoroutine")=false) {xs:List AV} {h:List Zh} {A:AV->List Zh->Prop} (H:Qb h.length nb=true)
  (hW:Dn (tbH kp rs cs G lp nb) (λ_=>aB) (Zes (tbH kp rs cs G lp nb) fn.results.toList h.length A) 100 .none [.code body] (entry fn.ntmps xs) h []) (U:zOk h=true:=by rfl):SC (λ_=>aB) f xs h A:=SC.ofD (T:=tbH kp rs cs G lp nb) (hTH kp rs cs G lp nb) hm I J S U (λ_=>Q8 H) hW
theorem Zfu (kp rs:Bool) (cs A:List Nat) (lp:Bool) {nb:Nat} {K:Ex->List AV->List Zh->Cd->Prop} {k:List Item} {s:List AV} {h:List Zh} (hW:Dn (tbH kp rs cs A lp nb) (λ_=>aB) K 100 .none k s h []):HP false nb (λ_=>aB) k K s h:=HP.ofD (T:=tbH kp rs cs A lp nb) (hTH kp rs cs A lp nb) hm hW
theorem Zcn {rd:Bool} {nb:Nat} {K:Ex->List AV->List Zh->Cd->Prop} {k:List Item} {s s₂:List AV} {h h₂:List Zh} (L:List Nat) (n:Nat) (G:Qb n h.length=true) (I:Qb nb n=true) (A:To (trimS n h (Vm.keep L s)) (Vm.sel true (List.range n) h) s₂ h₂) (H:HP rd nb (λ_=>aB) k K s₂ h₂):HP rd nb (λ_=>aB) k K s h:=
 HP.cut L n (Q8 G) (Q8 I) A H
theorem ZG (kp rs:Bool) (cs:List Nat) {x:Code} {Q:Ex->List AV->List Zh->Prop} {s:List AV} {h:List Zh} {ι:Type} (L:List Nat) (ex:List Zh) (ch:ι->List (Nat×AV)) (A:ι->List (Nat×Zh)) (inv:ι->Prop) (H:ι->Nat) (i:ι)
  (hi:inv i) (G:To (Vm.keep L s) h (YQ (Vm.keep L s) (ch i)) (X3 (h++ex) (A i)))
  (step:∀i,inv i->Dn (tbX kp rs cs) (λ_=>aB) (ZeI L (λi=>YQ (Vm.keep L s) (ch i)) (λi=>X3 (h++ex) (A i)) inv H i (h++ex).length Q) 100 .none [.code x] (YQ (Vm.keep L s) (ch i)) (X3 (h++ex) (A i)) []):LP false (λ_=>aB) x Q s h:=
 LP.indD (T:=tbX kp rs cs) (hTX kp rs cs) hm rfl L (λi=>YQ (Vm.keep L s) (ch i)) (λi=>X3 (h++ex) (A i)) inv H i (h++ex).length (λ_=>Zax _ _) hi G step
def tbV (kp rs:Bool) (cs:List Nat):Tb:={tb with kp,rs,cuts:=cs,nov:=true}
theorem hTV (kp rs:Bool) (cs:List Nat):(tbV kp rs cs).Of ((λ_=>aB:Unit->Program) ()):=⟨Zav,Zau,Zaw⟩
theorem Zx3 (kp rs:Bool) (cs:List Nat) {f:FuncId} {fn:Func} {body:Code} (G:aB.funcs[f]? =some fn) (H:fn.body=some body) (I:(fn.name== "runtime.NumGoroutine")=false) {xs:List AV} {h:List Zh} {A:AV->List Zh->Prop}
  (hW:Dn (tbV kp rs cs) (λ_=>aB) (Zes (tbV kp rs cs) fn.results.toList h.length A) 100 .none [.code body] (entry fn.ntmps xs) h []) (J:zOk h=true:=by rfl):SC (λ_=>aB) f xs h A:=SC.ofD (T:=tbV kp rs cs) (hTV kp rs cs) hm G H I J (λh=>by cases h) hW
theorem ZqA (kp rs:Bool) (cs:List Nat) {x:Code} {Q:Ex->List AV->List Zh->Prop} {s:List AV} {h:List Zh} {ι:Type} (L:List Nat) (ex:List Zh) (ch:ι->List (Nat×AV)) (A:ι->List (Nat×Zh)) (inv:ι->Prop) (H:ι->Nat) (i:ι)
  (hi:inv i) (G:To (Vm.keep L s) h (YQ (Vm.keep L s) (ch i)) (X3 (h++ex) (A i)))
  (step:∀i,inv i->Dn (tbV kp rs cs) (λ_=>aB) (ZeI L (λi=>YQ (Vm.keep L s) (ch i)) (λi=>X3 (h++ex) (A i)) inv H i (h++ex).length Q) 100 .none [.code x] (YQ (Vm.keep L s) (ch i)) (X3 (h++ex) (A i)) []):LP false (λ_=>aB) x Q s h:=
 LP.indD (T:=tbV kp rs cs) (hTV kp rs cs) hm rfl L (λi=>YQ (Vm.keep L s) (ch i)) (λi=>X3 (h++ex) (A i)) inv H i (h++ex).length (λ_=>Zax _ _) hi G step
theorem Zx2 (kp rs:Bool) (cs:List Nat) {x:Code} {Q:Ex->List AV->List Zh->Prop} {s:List AV} {h:List Zh} {ι:Type} (L:List Nat) (ch:ι->List (Nat×AV)) (A:ι->List (Nat×Zh)) (inv:ι->Prop)
  (step:Dn (tbX kp rs cs) (λ_=>aB) (Zmk L (λi=>YQ (Vm.keep L s) (ch i)) (λi=>X3 h (A i)) inv h.length Q) 100 .none [.code x] s h [])
  (rest:∀i,inv i->Q .normal (YQ (Vm.keep L s) (ch i)) (X3 h (A i))):XP false (λ_=>aB) x Q s h:=
 XP.byD (T:=tbX kp rs cs) (hTX kp rs cs) hm rfl L (λi=>YQ (Vm.keep L s) (ch i)) (λi=>X3 h (A i)) inv step rest
theorem Zq7 (kp rs:Bool) (cs:List Nat) (G:Nat) {m:Nat} {T:Tb} {K:Ex->List AV->List Zh->Cd->Prop} {x:Code} {k:List Item} {Q:Ex->List AV->List Zh->Prop} {s:List AV} {h:List Zh} {ι:Type} (L:List Nat) (ch:ι->List (Nat×AV)) (A:ι->List (Nat×Zh)) (inv:ι->Prop)
  (I:∀s h,Dn T (λ_=>aB) K m .none k s h []->Q .normal s h) (H:G<=m)
  (step:Dn (tbX kp rs cs) (λ_=>aB) (Zmk L (λi=>YQ (Vm.keep L s) (ch i)) (λi=>X3 h (A i)) inv h.length Q) 100 .none [.code x] s h [])
  (rest:∀i,inv i->Dn T (λ_=>aB) K G .none k (YQ (Vm.keep L s) (ch i)) (X3 h (A i)) []):XP false (λ_=>aB) x Q s h:=
 Zx2 kp rs cs L ch A inv step λi J=>I _ _ (ZuO H (rest i J))
theorem nb1 {x:Bool} (h:x=false):(!x)=true:=by rw[h];rfl
theorem nb2 {x:Bool} (h:(!x)=true):x=false:=by cases x;rfl;cases h
theorem nb3 {x:Bool} (h:x=true):(!x)=false:=by rw[h];rfl
theorem nb4 {x:Bool} (h:(!x)=false):x=true:=by cases x;cases h;rfl
theorem ZbQ {f:FuncId} {xs I:List AV} {h:List Zh} {G Q:AV->List Zh->Prop} (H:SC (λ_=>aB) f I [] Q) (J:To xs h I h) (U:I.map (QD false [] h 5)=I) (S:∀r A,Q r A->G (ren (Jh [] h.length) 5 r) (back [] h A)):SC (λ_=>aB) f xs h G:=
 SC.to J (ZN H U S)
theorem ZH {P:Prop} (h:P:=by(try simp only[nc,Xx,Xw,XM,Xv,Cn.p,and_true,true_and,iU,imp_self,List.length_cons,List.length_nil]);all_goals ((repeat' (first|apply And.intro|intro _))<;>first|omega|rfl|exact Or.inl rfl|assumption|exact nb1 (by assumption)|exact nb2 (by assumption)|exact nb3 (by assumption)|exact nb4 (by assumption)|decide|decide+kernel|(simp[*];done))):P:=h
theorem okd {P:Prop} (h:P:=by(try simp only[nc,Xx,Xw,XM,Xv,Cn.p,and_true,true_and,iU,imp_self,List.length_cons,List.length_nil]);all_goals ((repeat' (first|apply And.intro|intro _))<;>first|omega|rfl|exact Or.inl rfl|assumption|exact nb1 (by assumption)|exact nb2 (by assumption)|exact nb3 (by assumption)|exact nb4 (by assumption)|exact nb5 (by assumption) (by assumption)|exact nb6 (by assumption) (by assumption)|(rename_i h;have A:=eq_of_beq h;omega)|exact iY (by omega)|exact iZ (by omega)|decide|decide+kernel|(simp[*];done))):P:=h
theorem XU {P:Prop} (h:P:=by first|exact .int rfl|exact .int (by first|omega|(simp only[nc];omega)|(simp;done))|exact .bool rfl|exact .snoc O rfl rfl rfl|exact .snoc O rfl rfl (by simp only[encZone,encTrain,Za O];rfl)|exact lit_nt O _ _ _ _ rfl|exact take_nt O (by omega)|exact lstR_wk O|exact .tok rfl|exact .tok (by simp)|exact .lst O rfl|exact .gsl (by simp)|exact .empty rfl|exact .nilOwn (by decide) (by decide) rfl|exact .nilGar (by decide) (by decide) rfl|exact .gd (by first|assumption|decide|(simp[*];done)) (.refl _)):P:=h
structure HdW (B:Prop):Prop where
 out:B
theorem wS {A B:Prop} (k:B) (h:HdW B->A:=by intro hW;cbv;(try simp only[nc]at*);(try refine Chk.mk (ZH) ?_);exact hW.out):A:=h ⟨k⟩
theorem vS {A B:Prop} (k:B) (h:HdW B->A:=by intro hW;cbv;(try simp only[nc]at*);exact hW.out):A:=h ⟨k⟩
theorem ZB {s s':List AV} {h h':List Zh} (k:To s h s' h':=by(refine To.of [] ?_;cbv;(try simp only[nc]);(repeat' (first|exact trivial|exact Zz.refl _|exact ZK.refl _|refine⟨?_,?_⟩|refine ZK.cells ?_|refine Zz.agg ?_|refine Zz.tup ?_));(all_goals (first|exact XU|skip)))):To s h s' h':=k
theorem Ji {s s':List AV} {h h':List Zh} {B:Prop} (k:B) (t:HdW B->To s h s' h':=by intro hW;(refine To.of [] ?_;cbv;(try simp only[nc]);(repeat' (first|exact trivial|exact Zz.refl _|exact ZK.refl _|refine⟨?_,?_⟩|refine ZK.cells ?_|refine Zz.agg ?_|refine Zz.tup ?_));(all_goals (first|exact XU|exact hW.out)))):To s h s' h':=t ⟨k⟩
theorem Zv8 {s s':List AV} {h h':List Zh} {B C:Prop} (k:B) (l:C) (t:HdW B->HdW C->To s h s' h':=by intro hW hV;(refine To.of [] ?_;cbv;(try simp only[nc]);(repeat' (first|exact trivial|exact Zz.refl _|exact ZK.refl _|refine⟨?_,?_⟩|refine ZK.cells ?_|refine Zz.agg ?_|refine Zz.tup ?_));(all_goals (first|exact XU|exact hW.out|exact hV.out)))):To s h s' h':=t ⟨k⟩ ⟨l⟩
theorem wZ {A:Prop} (h:A:=by cbv;(try simp only[nc]at*);(try refine Chk.mk (ZH) ?_)):A:=h
theorem zW {A:Prop} (h:A:=by (cbv;(try simp only[nc]at*);(try refine Chk.mk (ZH) ?_));(try first|exact⟨rfl,trivial⟩|exact⟨trivial,trivial⟩)):A:=h
theorem zV {A:Prop} (h:A:=by (cbv;try simp only[nc]at*);(try first|exact⟨rfl,trivial⟩|exact⟨trivial,trivial⟩)):A:=h
theorem xT {A:Prop} (h:A:=by first|exact trivial|exact Zz.refl _|exact ZK.refl _):A:=h
end Vm
end Go.Proofs.YtjgpiclllehgmaaGreat
