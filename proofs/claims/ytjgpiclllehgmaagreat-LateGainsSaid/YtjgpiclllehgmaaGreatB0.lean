/- Lemmas. -/
import Derived.Test.YtjgpiclllehgmaaGreatTbl
import Derived.Test.YtjgpiclllehgmaaGreatM5
set_option linter.all false
open Int renaming tmod_eq_emod_of_nonneg->fx
open List renaming length_cons->bF,length_nil->cE
open Go.Proofs.Tryz renaming prog->aB
namespace Go.Proofs.YtjgpiclllehgmaaGreat
namespace Vm
open Go Go.Proofs
set_option maxRecDepth 100000
theorem nc (i:Nat):(NatCast.natCast i:Int)=(i:Int):=rfl
theorem XD:ZV []↔True:=⟨λ_=>trivial,λ_=>Yp⟩
theorem Znj {x:Cn} {c:Cd}:ZV (x::c)↔x.p/\ZV c:=⟨λh=>⟨h x (List.mem_cons_self ..),λq A=>h q (List.mem_cons_of_mem _ A)⟩,λh q A=>by
 rcases List.mem_cons.1 A with rfl|A
 ·exact h.1
 exact h.2 q A⟩
theorem XC {P:Unit->Prop} {b:Unit->Bool} {ok:b ()=true->P ()} {c:Cd}:ZV (.d P b ok::c)↔P ()/\ZV c:=Znj
theorem XS {v w:Unit->AV} {c:Cd}:ZV (.e v w::c)↔(v ()=w ()\/Imp (v ()) (w ()))/\ZV c:=Znj
theorem XB {g:Unit->Bool} {x:Cn} {c:Cd}:ZV (.i g x::c)↔(g ()=true->x.p)/\ZV c:=Znj
theorem all_cons {x:Cn} {c:Cd} (A:x.p) (G:ZV c):ZV (x::c):=Znj.2 ⟨A,G⟩
theorem ZtF (n k:Int):(0<=n->n.tmod k=n%k)/\(n<0->n.tmod k=-((-n)%k)):=by
 refine⟨λh=>fx h,λh=>?_⟩;have:=Int.neg_tmod (-n) k;rw[Int.neg_neg]at this;rw[this,fx (by omega)]
theorem ZL {f:FuncId} {xs I:List AV} {h:List Zi} {G Q:AV->List Zi->Prop} (H:SC (λ_=>aB) f I [] Q) (U:xs.map (QE false [] h 5)=I) (J:∀r A,Q r A->G (ren (Jg [] h.length) 5 r) (back [] h A)):SC (λ_=>aB) f xs h G:=
 SC.frame [] List.nodup_nil (λi S=>by cases S) (by rw[U];exact H) J
theorem ZP (l:List Nat) {f:FuncId} {xs J:List AV} {h U:List Zi} {G Q:AV->List Zi->Prop} (H:SC (λ_=>aB) f J U Q) (S:l.Nodup) (I:∀i∈l,i<h.length) (Z:xs.map (QE false l h 5)=J) (Y:sel false l h=U) (V:∀r A,Q r A->G (ren (Jg l h.length) 5 r) (back l h A)):SC (λ_=>aB) f xs h G:=
 SC.frame l S I (by rw[Z,Y];exact H) V
theorem Br.isT {b:Unit->Bool} {A B:Unit->Prop} (h:b ()=true) (H:A ()):Br b A B:=⟨λ_=>H,λG=>(by rw[h]at G;cases G)⟩
theorem Br.isF {b:Unit->Bool} {A B:Unit->Prop} (h:b ()=false) (H:B ()):Br b A B:=⟨λG=>(by rw[h]at G;cases G),λ_=>H⟩
theorem X3 {rd:Bool} {x:Code} {Q':Ex->List AV->List Zi->Prop} {s:List AV} {h:List Zi} (H:∀Q:Ex->List AV->List Zi->Prop,(∀e s h,Q' e s h->Q e s h)->LP rd (λ_=>aB) x Q s h):LP rd (λ_=>aB) x Q' s h:=H Q' λ_ _ _ h=>h
def mkS (n:Nat) (l:List (Nat×AV)):List AV:=l.foldl (λs p=>s.set p.1 p.2) (List.replicate n .undef)
theorem QO {f:FuncId} {fn:Func} {body:Code} (G:aB.funcs[f]? =some fn) (H:fn.body=some body) (I:(fn.name== "runtime.NumGoroutine")=false) {xs:List AV} {h:List Zi} {A:AV->List Zi->Prop}
  (hW:Dn tb (λ_=>aB) (Zfw tb fn.results.toList h.length A) 100 .none [.code body] (entry fn.ntmps xs) h []) (J:zOk h=true:=by rfl):SC (λ_=>aB) f xs h A:=SC.ofD (T:=tb) hT hm G H I J (λh=>by cases h) hW
theorem ZxL (kp rs:Bool) {f:FuncId} {fn:Func} {body:Code} (G:aB.funcs[f]? =some fn) (H:fn.body=some body) (I:(fn.name== "runtime.NumGoroutine")=false) {xs:List AV} {h:List Zi} {A:AV->List Zi->Prop}
  (hW:Dn (tbF kp rs) (λ_=>aB) (Zfw (tbF kp rs) fn.results.toList h.length A) 100 .none [.code body] (entry fn.ntmps xs) h []) (J:zOk h=true:=by rfl):SC (λ_=>aB) f xs h A:=SC.ofD (T:=tbF kp rs) (hTF kp rs) hm G H I J (λh=>by cases h) hW
theorem Zke {x:Code} {Q:Ex->List AV->List Zi->Prop} {s:List AV} {h:List Zi} {ι:Type} (L:List Nat) (st:ι->List AV) (A:ι->List Zi) (inv:ι->Prop) (H:ι->Nat) (i:ι) (n:Nat)
  (I:∀i,(A i).length=n) (hi:inv i) (G:To (Vm.keep L s) h (st i) (A i)) (step:∀i,inv i->Dn tb (λ_=>aB) (ZfD L st A inv H i n Q) 100 .none [.code x] (st i) (A i) []):LP false (λ_=>aB) x Q s h:=
 LP.indD (T:=tb) hT hm rfl L st A inv H i n I hi G step
theorem ZwJ (kp rs:Bool) {x:Code} {Q:Ex->List AV->List Zi->Prop} {s:List AV} {h:List Zi} {ι:Type} (L:List Nat) (st:ι->List AV) (A:ι->List Zi) (inv:ι->Prop) (H:ι->Nat) (i:ι) (n:Nat)
  (I:∀i,(A i).length=n) (hi:inv i) (G:To (Vm.keep L s) h (st i) (A i)) (step:∀i,inv i->Dn (tbF kp rs) (λ_=>aB) (ZfD L st A inv H i n Q) 100 .none [.code x] (st i) (A i) []):LP false (λ_=>aB) x Q s h:=
 LP.indD (T:=tbF kp rs) (hTF kp rs) hm rfl L st A inv H i n I hi G step
def tbX (kp rs:Bool) (cs:List Nat):Tb:={tb with kp,rs,cuts:=cs}
theorem hTX (kp rs:Bool) (cs:List Nat):(tbX kp rs cs).Of ((λ_=>aB:Unit->Program) ()):=⟨Zbi,Zbh,Zbj⟩
def Jj (s:List AV) (l:List (Nat×AV)):List AV:=l.foldl (λs p=>s.set p.1 p.2) s
def Yx (h:List Zi) (l:List (Nat×Zi)):List Zi:=l.foldl (λs p=>s.set p.1 p.2) h
theorem Zb5 (l:List (Nat×Zi)):∀(h:List Zi),(Yx h l).length=h.length:=by
 induction l with
 |nil=>intro h;rfl
 |cons p l A=>intro h;show(Yx (h.set p.1 p.2) l).length=_;rw[A];simp
theorem Zg3 (kp rs:Bool) (cs:List Nat) {f:FuncId} {fn:Func} {body:Code} (G:aB.funcs[f]? =some fn) (H:fn.body=some body) (I:(fn.name== "runtime.NumGoroutine")=false) {xs:List AV} {h:List Zi} {A:AV->List Zi->Prop}
  (hW:Dn (tbX kp rs cs) (λ_=>aB) (Zfw (tbX kp rs cs) fn.results.toList h.length A) 100 .none [.code body] (entry fn.ntmps xs) h []) (J:zOk h=true:=by rfl):SC (λ_=>aB) f xs h A:=SC.ofD (T:=tbX kp rs cs) (hTX kp rs cs) hm G H I J (λh=>by cases h) hW
def tbG (kp rs:Bool) (cs:List Nat):Tb:={tb with kp,rs,cuts:=cs,gr:=true}
theorem hTG (kp rs:Bool) (cs:List Nat):(tbG kp rs cs).Of ((λ_=>aB:Unit->Program) ()):=⟨Zbi,Zbh,Zbj⟩
theorem Zvo (kp rs:Bool) (cs:List Nat) {f:FuncId} {fn:Func} {body:Code} (G:aB.funcs[f]? =some fn) (H:fn.body=some body) (I:(fn.name== "runtime.NumGoroutine")=false) {xs:List AV} {h:List Zi} {A:AV->List Zi->Prop}
  (hW:Dn (tbG kp rs cs) (λ_=>aB) (Zfw (tbG kp rs cs) fn.results.toList h.length A) 100 .none [.code body] (entry fn.ntmps xs) h []) (J:zOk h=true:=by rfl):SC (λ_=>aB) f xs h A:=SC.ofD (T:=tbG kp rs cs) (hTG kp rs cs) hm G H I J (λh=>by cases h) hW
def tbH (kp rs:Bool) (cs A:List Nat) (lp:Bool) (nb:Nat):Tb:={tb with kp,rs,cuts:=cs,fl:=true,hand:=A,lp,nb}
theorem hTH (kp rs:Bool) (cs A:List Nat) (lp:Bool) (nb:Nat):(tbH kp rs cs A lp nb).Of ((λ_=>aB:Unit->Program) ()):=⟨Zbi,Zbh,Zbj⟩
theorem Zvn (kp rs:Bool) (cs G:List Nat) (lp:Bool) (nb:Nat) {f:FuncId} {fn:Func} {body:Code} (I:aB.funcs[f]? =some fn) (J:fn.body=some body) (S:(fn.name== "runtime.NumGoroutine")=false) {xs:List AV} {h:List Zi} {A:AV->List Zi->Prop} (H:Qd h.length nb=true)
  (hW:Dn (tbH kp rs cs G lp nb) (λ_=>aB) (Zfw (tbH kp rs cs G lp nb) fn.results.toList h.length A) 100 .none [.code body] (entry fn.ntmps xs) h []) (U:zOk h=true:=by rfl):SC (λ_=>aB) f xs h A:=SC.ofD (T:=tbH kp rs cs G lp nb) (hTH kp rs cs G lp nb) hm I J S U (λ_=>Xc H) hW
theorem Zfk (kp rs:Bool) (cs A:List Nat) (lp:Bool) {nb:Nat} {K:Ex->List AV->List Zi->Cd->Prop} {k:List Item} {s:List AV} {h:List Zi} (hW:Dn (tbH kp rs cs A lp nb) (λ_=>aB) K 100 .none k s h []):HP false nb (λ_=>aB) k K s h:=HP.ofD (T:=tbH kp rs cs A lp nb) (hTH kp rs cs A lp nb) hm hW
theorem Zcj {rd:Bool} {nb:Nat} {K:Ex->List AV->List Zi->Cd->Prop} {k:List Item} {s s₂:List AV} {h h₂:List Zi} (L:List Nat) (n:Nat) (G:Qd n h.length=true) (I:Qd nb n=true) (A:To (trimS n h (Vm.keep L s)) (Vm.sel true (List.range n) h) s₂ h₂) (H:HP rd nb (λ_=>aB) k K s₂ h₂):HP rd nb (λ_=>aB) k K s h:=
 HP.cut L n (Xc G) (Xc I) A H
theorem ZJ (kp rs:Bool) (cs:List Nat) {x:Code} {Q:Ex->List AV->List Zi->Prop} {s:List AV} {h:List Zi} {ι:Type} (L:List Nat) (ex:List Zi) (ch:ι->List (Nat×AV)) (A:ι->List (Nat×Zi)) (inv:ι->Prop) (H:ι->Nat) (i:ι)
  (hi:inv i) (G:To (Vm.keep L s) h (Jj (Vm.keep L s) (ch i)) (Yx (h++ex) (A i)))
  (step:∀i,inv i->Dn (tbX kp rs cs) (λ_=>aB) (ZfD L (λi=>Jj (Vm.keep L s) (ch i)) (λi=>Yx (h++ex) (A i)) inv H i (h++ex).length Q) 100 .none [.code x] (Jj (Vm.keep L s) (ch i)) (Yx (h++ex) (A i)) []):LP false (λ_=>aB) x Q s h:=
 LP.indD (T:=tbX kp rs cs) (hTX kp rs cs) hm rfl L (λi=>Jj (Vm.keep L s) (ch i)) (λi=>Yx (h++ex) (A i)) inv H i (h++ex).length (λ_=>Zb5 _ _) hi G step
theorem ZxK (kp rs:Bool) (cs:List Nat) {x:Code} {Q:Ex->List AV->List Zi->Prop} {s:List AV} {h:List Zi} {ι:Type} (L:List Nat) (ch:ι->List (Nat×AV)) (A:ι->List (Nat×Zi)) (inv:ι->Prop)
  (step:Dn (tbX kp rs cs) (λ_=>aB) (Zmh L (λi=>Jj (Vm.keep L s) (ch i)) (λi=>Yx h (A i)) inv h.length Q) 100 .none [.code x] s h [])
  (rest:∀i,inv i->Q .normal (Jj (Vm.keep L s) (ch i)) (Yx h (A i))):XP false (λ_=>aB) x Q s h:=
 XP.byD (T:=tbX kp rs cs) (hTX kp rs cs) hm rfl L (λi=>Jj (Vm.keep L s) (ch i)) (λi=>Yx h (A i)) inv step rest
theorem Zq8 (kp rs:Bool) (cs:List Nat) (G:Nat) {m:Nat} {T:Tb} {K:Ex->List AV->List Zi->Cd->Prop} {x:Code} {k:List Item} {Q:Ex->List AV->List Zi->Prop} {s:List AV} {h:List Zi} {ι:Type} (L:List Nat) (ch:ι->List (Nat×AV)) (A:ι->List (Nat×Zi)) (inv:ι->Prop)
  (I:∀s h,Dn T (λ_=>aB) K m .none k s h []->Q .normal s h) (H:G<=m)
  (step:Dn (tbX kp rs cs) (λ_=>aB) (Zmh L (λi=>Jj (Vm.keep L s) (ch i)) (λi=>Yx h (A i)) inv h.length Q) 100 .none [.code x] s h [])
  (rest:∀i,inv i->Dn T (λ_=>aB) K G .none k (Jj (Vm.keep L s) (ch i)) (Yx h (A i)) []):XP false (λ_=>aB) x Q s h:=
 ZxK kp rs cs L ch A inv step λi J=>I _ _ (Zno H (rest i J))
theorem nb1 {x:Bool} (h:x=false):(!x)=true:=by rw[h];rfl
theorem nb2 {x:Bool} (h:(!x)=true):x=false:=by cases x;rfl;cases h
theorem nb3 {x:Bool} (h:x=true):(!x)=false:=by rw[h];rfl
theorem nb4 {x:Bool} (h:(!x)=false):x=true:=by cases x;cases h;rfl
theorem ZbH {f:FuncId} {xs I:List AV} {h:List Zi} {G Q:AV->List Zi->Prop} (H:SC (λ_=>aB) f I [] Q) (J:To xs h I h) (U:I.map (QE false [] h 5)=I) (S:∀r A,Q r A->G (ren (Jg [] h.length) 5 r) (back [] h A)):SC (λ_=>aB) f xs h G:=
 SC.to J (ZL H U S)
theorem ZH {P:Prop} (h:P:=by(try simp only[nc,XD,XC,XS,XB,Cn.p,and_true,true_and,iR,imp_self,List.length_cons,List.length_nil]);all_goals ((repeat' (first|apply And.intro|intro _))<;>first|omega|rfl|exact Or.inl rfl|assumption|exact nb1 (by assumption)|exact nb2 (by assumption)|exact nb3 (by assumption)|exact nb4 (by assumption)|decide|decide+kernel|(simp[*];done))):P:=h
theorem okd {P:Prop} (h:P:=by(try simp only[nc,XD,XC,XS,XB,Cn.p,and_true,true_and,iR,imp_self,List.length_cons,List.length_nil]);all_goals ((repeat' (first|apply And.intro|intro _))<;>first|omega|rfl|exact Or.inl rfl|assumption|exact nb1 (by assumption)|exact nb2 (by assumption)|exact nb3 (by assumption)|exact nb4 (by assumption)|exact nb5 (by assumption) (by assumption)|exact nb6 (by assumption) (by assumption)|(rename_i h;have A:=eq_of_beq h;omega)|exact iW (by omega)|exact iX (by omega)|decide|decide+kernel|(simp[*];done))):P:=h
theorem XZ {P:Prop} (h:P:=by first|exact .int rfl|exact .int (by first|omega|(simp only[nc];omega)|(simp;done))|exact .bool rfl|exact .snoc O rfl rfl rfl|exact .snoc O rfl rfl (by simp only[encZone,encTrain,Za O];rfl)|exact lit_nt O _ _ _ _ rfl|exact take_nt O (by omega)|exact lstR_wk O|exact .tok rfl|exact .tok (by simp)|exact .lst O rfl|exact .gsl (by simp)|exact .empty rfl|exact .nilOwn (by decide) (by decide) rfl|exact .nilGar (by decide) (by decide) rfl|exact .gd (by first|assumption|decide|(simp[*];done)) (.refl _)):P:=h
structure HdW (B:Prop):Prop where
 out:B
theorem wS {A B:Prop} (k:B) (h:HdW B->A:=by intro hW;cbv;(try simp only[nc]at*);(try refine Chk.mk (ZH) ?_);exact hW.out):A:=h ⟨k⟩
theorem vS {A B:Prop} (k:B) (h:HdW B->A:=by intro hW;cbv;(try simp only[nc]at*);exact hW.out):A:=h ⟨k⟩
theorem ZG {s s':List AV} {h h':List Zi} (k:To s h s' h':=by(refine To.of [] ?_;cbv;(try simp only[nc]);(repeat' (first|exact trivial|exact ZC.refl _|exact ZM.refl _|refine⟨?_,?_⟩|refine ZM.cells ?_|refine ZC.agg ?_|refine ZC.tup ?_));(all_goals (first|exact XZ|skip)))):To s h s' h':=k
theorem toR {s s':List AV} {h h':List Zi} {B:Prop} (k:B) (t:HdW B->To s h s' h':=by intro hW;(refine To.of [] ?_;cbv;(try simp only[nc]);(repeat' (first|exact trivial|exact ZC.refl _|exact ZM.refl _|refine⟨?_,?_⟩|refine ZM.cells ?_|refine ZC.agg ?_|refine ZC.tup ?_));(all_goals (first|exact XZ|exact hW.out)))):To s h s' h':=t ⟨k⟩
theorem Zv1 {s s':List AV} {h h':List Zi} {B C:Prop} (k:B) (l:C) (t:HdW B->HdW C->To s h s' h':=by intro hW hV;(refine To.of [] ?_;cbv;(try simp only[nc]);(repeat' (first|exact trivial|exact ZC.refl _|exact ZM.refl _|refine⟨?_,?_⟩|refine ZM.cells ?_|refine ZC.agg ?_|refine ZC.tup ?_));(all_goals (first|exact XZ|exact hW.out|exact hV.out)))):To s h s' h':=t ⟨k⟩ ⟨l⟩
theorem wZ {A:Prop} (h:A:=by cbv;(try simp only[nc]at*);(try refine Chk.mk (ZH) ?_)):A:=h
theorem zW {A:Prop} (h:A:=by (cbv;(try simp only[nc]at*);(try refine Chk.mk (ZH) ?_));(try first|exact⟨rfl,trivial⟩|exact⟨trivial,trivial⟩)):A:=h
theorem zV {A:Prop} (h:A:=by (cbv;try simp only[nc]at*);(try first|exact⟨rfl,trivial⟩|exact⟨trivial,trivial⟩)):A:=h
theorem xT {A:Prop} (h:A:=by first|exact trivial|exact ZC.refl _|exact ZM.refl _):A:=h
end Vm
end Go.Proofs.YtjgpiclllehgmaaGreat
