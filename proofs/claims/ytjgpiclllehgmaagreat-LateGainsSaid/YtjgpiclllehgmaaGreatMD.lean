/- Lemmas. -/
import Derived.Test.YtjgpiclllehgmaaGreatM4
set_option linter.all false
open Bool renaming false_eq_true->aX
open Nat renaming le_add_right->iu
open Option.some renaming injEq->aD
open Prod.mk renaming injEq->aK
namespace Go.Proofs.YtjgpiclllehgmaaGreat
namespace Vm
open Go
section
variable {T:Tb} {p:Unit->Program} {K:Ex->List AV->List Zi->Cd->Prop}
def Zg2 (T:Tb) (p:Unit->Program) (K:Ex->List AV->List Zi->Cd->Prop) (n:Nat) (x:Cx) (k:List Item) (s:List AV) (v:AV) (h:List Zi) (c:Cd):Prop:=match x with
 |.u ops o r=>ZjA T p ops r (putO s o.dst v) h c λs h c=>W T p K n k (Zek T h s) h c
 |.d ops G A m done q=>WDk T p ops G A (λs h c=>W T p K n k (Zek T h s) h c) m done s q v h c
def Zmv (T:Tb) (p:Unit->Program) (K:Ex->List AV->List Zi->Cd->Prop) (n:Nat) (A:Hd) (k:List Item) (s:List AV) (h:List Zi) (c:Cd):Prop:=match A with
 |.none=>W T p K n k s h c
 |.ops ops l=>ZjA T p ops l s h c λs h c=>W T p K n k (Zek T h s) h c
 |.drawn ops H G m done=>WD T p ops H G (λs h c=>W T p K n k (Zek T h s) h c) m done s h c
 |.gev x=>Wop T p x.ops x.o (ev s) h c (Zg2 T p K n x k s)
 |.event x=>ZjC T p x.o (ev s) h c (Zg2 T p K n x k s)
theorem Zor {o:Oper} {E:Operand->AV} {h:List Zi} {c:Cd} {K G:AV->List Zi->Cd->Prop} (A:∀v h c,K v h c->G v h c) (hW:ZjC T p o E h c K):ZjC T p o E h c G:=by
 unfold ZjC at*;split at hW
 ·exact hW
 ·exact A _ _ _ hW
 exact Qi (λh=>h.mono λr H hr=>A _ _ _ hr) hW
theorem ZkI {n m:Nat} (A:n<=m) {x:Cx} {k:List Item} {s:List AV} (v:AV) (h:List Zi) (c:Cd) (H:Zg2 T p K n x k s v h c):Zg2 T p K m x k s v h c:=by
 cases x with
 |u ops o r=>exact ZcS (λs h c G=>Zk2 A G) H
 |d ops S J I done q=>exact Zhk (ZfQ (λs h c G=>Zk2 A G) I) v h c H
theorem ZcT {n m:Nat} (A:n<=m) {H:Hd} {k:List Item} {s:List AV} {h:List Zi} {c:Cd} (G:Zmv T p K n H k s h c):Zmv T p K m H k s h c:=by
 cases H with
 |none=>exact Zk2 A G
 |ops ops l=>exact ZcS (λs h c I=>Zk2 A I) G
 |drawn ops U J S done=>exact ZfQ (λs h c I=>Zk2 A I) _ _ _ _ _ G
 |gev x=>exact Zd3 (ZkI A) G
 |event x=>exact Zor (ZkI A) G
theorem Zdt {n:Nat} {x:Cx} {k:List Item} {v:AV} {s s':List AV} {h:List Zi} {c c':Cd} {G:Hd} (A:YO T x v s h c=some (G,s',c')) (H:Zmv T p K n G k s' h c'):Zg2 T p K n x k s v h c:=by
 cases x with
 |u ops o r=>
  simp only[YO,aD,aK]at A;obtain⟨rfl,rfl,rfl⟩:=A;exact H
 |d ops S J m done q=>
  simp only[YO]at A;split at A
  ·rename_i I hr;simp only[aD,aK]at A;obtain⟨rfl,rfl,rfl⟩:=A;simp only[Zg2,WDk,hr];exact H
  cases A
theorem Zna {D : Hd -> List Item -> List AV -> List Zi -> Cd -> Prop} {N : Nat} (hD : ∀ G k s h c, D G k s h c -> Zmv T p K N G k s h c) : ∀ (f : Nat) (G : Hd) (k : List Item) (s : List AV) (h : List Zi) (c : Cd), den T p K D (exec T f G k s h c) -> Zmv T p K (N + f) G k s h c
  | 0, _, _, _, _, _, G => by simp only [exec, den] at G
  | f + 1, G, k, s, h, c, hden => by
    have ih := Zna hD f;have H := λk s h c G => ih .none k s h c G;have V : ∀ k s h c, D .none k s h c -> W T p K (N + f) k s h c := λk s h c Y => Zk2 (iu _ _) (hD _ _ _ _ _ Y);have ab : ∀ G k s h c, D G k s h c -> Zmv T p K (N + (f + 1)) G k s h c := λG k s h c Y => ZcT (iu _ _) (hD _ _ _ _ _ Y)
    have S : ∀ (id : Nat) (k : List Item) (s : List AV) (h : List Zi), (match exitTo id k with
        | some k => D .none k s h []
        | none => K (.exit id) s h []) -> (match exitTo id k with
        | some k => W T p K (N + f) k s h []
        | none => K (.exit id) s h []) := λid k s h Y => by
      split at Y
      · exact V _ _ _ _ Y
      · exact Y
    have U : N + f <= N + (f + 1) := Nat.le_succ _;cases G with
    | none =>
      show W T p K (N + f + 1) k s h c;unfold exec at hden;simp only at hden;unfold W;split at hden
      · exact hden
      · exact H _ _ _ _ hden
      · exact H _ _ _ _ hden
      · split at hden
        · exact H _ _ _ _ hden
        · exact H _ _ _ _ hden
        · exact H _ _ _ _ hden
        · split at hden
          · rename_i J
            simp only [J, if_true];refine Qi (λh => h.mono λe s h I => ?_) hden;cases e with
            | normal => exact V _ _ _ _ I
            | exit id => exact S _ _ _ _ I
            | ret => exact I
          rename_i J;simp only [J, aX, if_false];split at hden
          · rename_i b hb
            simp only [hb];exact Qi (λh => ⟨λe => V _ _ _ _ (h.t e), λe => V _ _ _ _ (h.f e)⟩) hden
          · exact False.elim hden
        · split at hden
          · rename_i J
            simp only [J, if_true];refine Qi (λh => h.mono λe s h I => ?_) hden;cases e with
            | normal => exact V _ _ _ _ I
            | exit id => exact S _ _ _ _ I
            | ret => exact I
          rename_i J;simp only [J, aX, if_false];exact H _ _ _ _ hden
        · exact H _ _ _ _ hden
        · split at hden
          · rename_i J
            simp only [J, if_true];exact hden
          rename_i J;simp only [J, aX, if_false];refine Qi (λh => h.mono λe s h I => ?_) hden;cases e with
          | normal => exact I
          | exit id => exact S _ _ _ _ I
          | ret => exact I
        · rename_i id
          split at hden
          · rename_i k2 Z
            simp only [Z];exact H _ _ _ _ hden
          · rename_i Z
            simp only [Z];exact hden
        · split at hden
          · rename_i k2 Z
            simp only [Z];split at hden
            · rename_i A
              simp only [A, if_true];exact hden
            · exact False.elim hden
          · exact False.elim hden
        · exact hden
        · rename_i id ops d
          split at hden
          · rename_i J
            simp only [J, if_true];exact hden
          rename_i J;simp only [J, aX, if_false];cases d with
          | true =>
            simp only [if_true] at hden;exact ih _ _ _ _ _ hden
          | false =>
            simp only [aX, if_false] at hden;exact ih _ _ _ _ _ hden
        · split at hden
          · exact False.elim hden
          rename_i ah;simp only [iP ah];refine Qi (λh => h.mono λe s h I => ?_) hden;cases e with
          | normal => exact V _ _ _ _ I
          | exit id => exact S _ _ _ _ I
          | ret => exact I
        · exact False.elim hden
      · split at hden
        · rename_i A
          simp only [A, if_true];exact hden
        · exact False.elim hden
      · exact False.elim hden
    | ops ops l =>
      unfold exec at hden;cases l with
      | nil => exact Zk2 U (H _ _ _ _ hden)
      | cons o r =>
        simp only at hden;split at hden
        · rename_i A
          split at hden
          · rename_i v c' hv
            have := ZcT U (ih _ _ _ _ _ hden);show Wop T p ops o (ev s) h c λv h c => ZjA T p ops r (putO s o.dst v) h c λs h c => W T p K (N + (f + 1)) k (Zek T h s) h c;unfold Wop;unfold XA at A;split at A
            · cases A
            · cases A
            · cases A
            · cases A
            · first
              | (simp only [hv]; exact this)
              | (split
                 · contradiction
                 · contradiction
                 · contradiction
                 · contradiction
                 · simp only [hv]
                   exact this)
          · exact False.elim hden
        · have := ZcT U (ih (.gev (.u ops o r)) k s h c hden)
          exact this
    | drawn ops pr s0 m done =>
      unfold exec at hden;cases m with
      | zero => exact False.elim hden
      | succ m =>
        simp only at hden;show WD T p ops pr s0 (λs h c => W T p K (N + (f + 1)) k (Zek T h s) h c) (m + 1) done s h c;simp only [WD];split at hden
        · exact False.elim hden
        rename_i s1 aa c1 hf;split at hden;case isFalse => exact False.elim hden
        rename_i ae;simp only [hf];rw [iQ ae];generalize Yr pr aa = l at hden |-;match l, hden with
        | [], hden =>
          simp only at hden |-;split at hden
          · rename_i ha
            rw [iQ ha];exact Zk2 U (H _ _ _ _ hden)
          · exact False.elim hden
        | [q], hden =>
          have := ZcT U (ih (.gev (.d ops pr s0 m aa q)) k s1 h c1 hden);exact this
        | q :: q' :: r, hden => exact Qi (λh => ZcV (λq Y => ab _ _ _ _ _ Y) h) hden
    | gev x =>
      unfold exec at hden;simp only at hden;split at hden
      · exact False.elim hden
      rename_i A;have A : XA x.o.op = false := by simpa using A
      split at hden
      · exact False.elim hden
      · rename_i hg
        exact Zrt A hg (ZcT U (ih _ _ _ _ _ hden))
      · rename_i g hg
        refine Zrt A hg (Qi (λh => ⟨λe => ?_, λe => ?_⟩) hden)
        · exact ab _ _ _ _ _ (h.t e)
        · have : (match YO T x (skV T) s _ [] with
            | some (G, s, c) => D G k s _ c
            | none => False) := h.f e
          split at this
          · rename_i ac s' c' he
            exact Zdt he (ab _ _ _ _ _ this)
          · exact this.elim
    | event x =>
      unfold exec at hden;simp only at hden;show ZjC T p x.o (ev s) h c (Zg2 T p K (N + (f + 1)) x k s);unfold ZjC;split at hden
      · exact False.elim hden
      · rename_i v h' c' he
        try simp only [he]
        split at hden
        · rename_i ac s' c2 ha
          exact Zdt ha (ZcT U (ih _ _ _ _ _ hden))
        · exact False.elim hden
      · rename_i ai xs c' he
        try simp only [he]
        refine Qi (λh => h.mono λr h' hr => ?_) hden;split at hr
        · rename_i ac s' c2 ha
          exact Zdt ha (ab _ _ _ _ _ hr)
        · exact hr.elim
theorem Zhm:∀(m:Nat) (A:Hd) (k:List Item) (s:List AV) (h:List Zi) (c:Cd),Dn T p K m A k s h c->Zmv T p K (m*4000) A k s h c
 |0,_,_,_,_,_,h=>by simp only[Dn]at h
 |m+1,A,k,s,h,c,hh=>by
  have:=Zna (D:=Dn T p K m) (N:=m*4000) (Zhm m) 4000 A k s h c hh;rw[Nat.succ_mul];exact this
theorem SC.ofD (hT:T.Of (p ())) (hm:(p ()).follows .mixedOrders=true) {f:FuncId} {fn:Func} {body:Code} (H:(p ()).funcs[f]? =some fn) (I:fn.body=some body) (J:(fn.name== "runtime.NumGoroutine")=false) {xs:List AV} {h:List Zi} {A:AV->List Zi->Prop}
  (S:zOk h=true) (G:T.fl=true->h.length<=T.nb) (hW:Dn T p (Zfw T fn.results.toList h.length A) 100 .none [.code body] (entry fn.ntmps xs) h []):SC p f xs h A:=SC.of hT hm H I J S (Zhm _ _ _ _ _ _ hW) G
theorem LP.indD (hT:T.Of (p ())) (hm:(p ()).follows .mixedOrders=true) (I:T.fl=false) {x:Code} {Q:Ex->List AV->List Zi->Prop} {s:List AV} {h:List Zi} {ι:Type} (L:List Nat) (st:ι->List AV) (A:ι->List Zi) (inv:ι->Prop) (H:ι->Nat) (i:ι) (n:Nat)
  (J:∀i,(A i).length=n) (hi:inv i) (G:To (Vm.keep L s) h (st i) (A i)) (step:∀i,inv i->Dn T p (ZfD L st A inv H i n Q) 100 .none [.code x] (st i) (A i) []):LP T.rd p x Q s h:=
 LP.ind hT hm I L st A inv H i n J hi G λi hi=>Zhm _ _ _ _ _ _ (step i hi)
theorem XP.byD (hT:T.Of (p ())) (hm:(p ()).follows .mixedOrders=true) (G:T.fl=false) {x:Code} {Q:Ex->List AV->List Zi->Prop} {s:List AV} {h:List Zi} {ι:Type} (L:List Nat) (st:ι->List AV) (A:ι->List Zi) (inv:ι->Prop)
  (step:Dn T p (Zmh L st A inv h.length Q) 100 .none [.code x] s h []) (rest:∀i,inv i->Q .normal (st i) (A i)):XP T.rd p x Q s h:=XP.by hT hm G L st A inv (Zhm _ _ _ _ _ _ step) rest
theorem Zq4 {D D':Hd->List Item->List AV->List Zi->Cd->Prop} (H:∀I k s h c,D I k s h c->D' I k s h c):∀(x:St),den T p K D x->den T p K D' x
 |.bad,h=>h
 |.fin ..,h=>h
 |.br c b k₁ k₂ s h,A=>Qi (λh=>⟨λe=>H _ _ _ _ _ (h.t e),λe=>H _ _ _ _ _ (h.f e)⟩) A
 |.gd c g x k s h,A=>Qi (λb=>⟨λe=>H _ _ _ _ _ (b.t e),λe=>by
   have:=b.f e;revert this;cases YO T x (skV T) s h []with
   |none=>exact id
   |some p=>exact H _ _ _ _ _⟩) A
 |.call c f xs x k s h,A=>Qi (λb=>b.mono λr J hr=>by
   revert hr;cases YO T x r s J []with
   |none=>exact id
   |some p=>exact H _ _ _ _ _) A
 |.alls c ops pr s0 n done qs k s h,A=>Qi (λh=>ZcV (λq A=>H _ _ _ _ _ A) h) A
 |.loop c x k s h,A=>Qi (λb=>b.mono λe s h G=>by
   cases e with
   |normal=>exact G
   |exit id=>
    revert G;dsimp only;cases exitTo id k with
    |none=>exact λh=>h
    |some k=>exact H _ _ _ _ _
   |ret=>exact G) A
 |.cb c f ps a x k s h,A=>Qi (λb=>b.mono λe s h G=>by
   cases e with
   |normal=>exact H _ _ _ _ _ G
   |exit id=>
    revert G;dsimp only;cases exitTo id k with
    |none=>exact λh=>h
    |some k=>exact H _ _ _ _ _
   |ret=>exact G) A
 |.cut c x k s h,A=>Qi (λb=>b.mono λe s h G=>by
   cases e with
   |normal=>exact H _ _ _ _ _ G
   |exit id=>
    revert G;dsimp only;cases exitTo id k with
    |none=>exact λh=>h
    |some k=>exact H _ _ _ _ _
   |ret=>exact G) A
 |.hand c k s h,A=>A
theorem Znn:∀(m:Nat) (A:Hd) (k:List Item) (s:List AV) (h:List Zi) (c:Cd),Dn T p K m A k s h c->Dn T p K (m+1) A k s h c
 |0,_,_,_,_,_,h=>by simp only[Dn]at h
 |m+1,A,k,s,h,c,hh=>Zq4 (Znn m) _ hh
theorem Zno {m m':Nat} (G:m<=m') {A:Hd} {k:List Item} {s:List AV} {h:List Zi} {c:Cd} (I:Dn T p K m A k s h c):Dn T p K m' A k s h c:=by
 induction G with
 |refl=>exact I
 |step _ H=>exact Znn _ _ _ _ _ _ H
theorem HP.ofD (hT:T.Of (p ())) (hm:(p ()).follows .mixedOrders=true) {k:List Item} {s:List AV} {h:List Zi} {n:Nat} (hW:Dn T p K n .none k s h []):HP T.rd T.nb p k K s h:=HP.ofW hT hm (Zhm _ _ _ _ _ _ hW)
end
end Vm
end Go.Proofs.YtjgpiclllehgmaaGreat
