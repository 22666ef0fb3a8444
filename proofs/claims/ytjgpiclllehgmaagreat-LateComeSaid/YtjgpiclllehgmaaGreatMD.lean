/- The abstract machine in direct style says what W says: the proof. -/
import Derived.Test.YtjgpiclllehgmaaGreatM4
set_option linter.unusedSimpArgs false
set_option linter.unusedVariables false
namespace Go.Proofs.YtjgpiclllehgmaaGreat.Vm
open Go
section
variable {T:Tb} {p:Unit→Program} {K:Ex→List AV→List Zi→Cd→Prop}
def ZfH (T:Tb) (p:Unit→Program) (K:Ex→List AV→List Zi→Cd→Prop) (n:Nat) (x:Cx) (k:List Item) (s:List AV) (v:AV) (h:List Zi) (c:Cd):Prop:=match x with
 |.u ops o r=>ZhZ T p ops r (putO s o.dst v) h c fun s h c=>W T p K n k (Zdc T h s) h c
 |.d ops pr s0 m done q=>WDk T p ops pr s0 (fun s h c=>W T p K n k (Zdc T h s) h c) m done s q v h c
def Zkx (T:Tb) (p:Unit→Program) (K:Ex→List AV→List Zi→Cd→Prop) (n:Nat) (hd:Hd) (k:List Item) (s:List AV) (h:List Zi) (c:Cd):Prop:=match hd with
 |.none=>W T p K n k s h c
 |.ops ops l=>ZhZ T p ops l s h c fun s h c=>W T p K n k (Zdc T h s) h c
 |.drawn ops pr s0 m done=>WD T p ops pr s0 (fun s h c=>W T p K n k (Zdc T h s) h c) m done s h c
 |.gev x=>Wop T p x.ops x.o (ev s) h c (ZfH T p K n x k s)
 |.event x=>Zh1 T p x.o (ev s) h c (ZfH T p K n x k s)
theorem Zmb {o:Oper} {E:Operand→AV} {h:List Zi} {c:Cd} {K K':AV→List Zi→Cd→Prop} (hk:∀v h c,K v h c→K' v h c) (hW:Zh1 T p o E h c K):Zh1 T p o E h c K':=by
 unfold Zh1 at*
 split at hW
 ·exact hW
 ·exact hk _ _ _ hW
 ·exact Z8 (fun h=>h.mono fun r h' hr=>hk _ _ _ hr) hW
theorem ZiY {n m:Nat} (hle:n≤m) {x:Cx} {k:List Item} {s:List AV} (v:AV) (h:List Zi) (c:Cd) (hk:ZfH T p K n x k s v h c):ZfH T p K m x k s v h c:=by
 cases x with
 |u ops o r=>exact Zb1 (fun s h c hh=>Zjf hle hh) hk
 |d ops pr s0 m' done q=>exact ZfW (ZeE (fun s h c hh=>Zjf hle hh) m') v h c hk
theorem Zb2 {n m:Nat} (hle:n≤m) {hd:Hd} {k:List Item} {s:List AV} {h:List Zi} {c:Cd} (hM:Zkx T p K n hd k s h c):Zkx T p K m hd k s h c:=by
 cases hd with
 |none=>exact Zjf hle hM
 |ops ops l=>exact Zb1 (fun s h c hh=>Zjf hle hh) hM
 |drawn ops pr s0 m' done=>exact ZeE (fun s h c hh=>Zjf hle hh) _ _ _ _ _ hM
 |gev x=>exact Zc2 (ZiY hle) hM
 |event x=>exact Zmb (ZiY hle) hM
theorem Zcx {n:Nat} {x:Cx} {k:List Item} {v:AV} {s s':List AV} {h:List Zi} {c c':Cd} {hd:Hd} (he:YX T x v s h c=some (hd,s',c')) (hM:Zkx T p K n hd k s' h c'):ZfH T p K n x k s v h c:=by
 cases x with
 |u ops o r=>
  simp only[YX,Option.some.injEq,Prod.mk.injEq]at he
  obtain⟨rfl,rfl,rfl⟩:=he
  exact hM
 |d ops pr s0 m done q=>
  simp only[YX]at he
  split at he
  ·rename_i c2 hr
   simp only[Option.some.injEq,Prod.mk.injEq]at he
   obtain⟨rfl,rfl,rfl⟩:=he
   simp only[ZfH,WDk,hr]
   exact hM
  ·cases he
theorem Zk2 {D : Hd → List Item → List AV → List Zi → Cd → Prop} {N : Nat} (hD : ∀ hd k s h c, D hd k s h c → Zkx T p K N hd k s h c) : ∀ (f : Nat) (hd : Hd) (k : List Item) (s : List AV) (h : List Zi) (c : Cd), den T p K D (exec T f hd k s h c) → Zkx T p K (N + f) hd k s h c
  | 0, _, _, _, _, _, hd => by simp only [exec, den] at hd
  | f + 1, hd, k, s, h, c, hden => by
    have ih := Zk2 hD f
    have ihW := fun k s h c hd => ih .none k s h c hd
    have hDW : ∀ k s h c, D .none k s h c → W T p K (N + f) k s h c := fun k s h c hh => Zjf (Nat.le_add_right _ _) (hD _ _ _ _ _ hh)
    have hDM : ∀ hd k s h c, D hd k s h c → Zkx T p K (N + (f + 1)) hd k s h c := fun hd k s h c hh => Zb2 (Nat.le_add_right _ _) (hD _ _ _ _ _ hh)
    have hexit : ∀ (id : Nat) (k : List Item) (s : List AV) (h : List Zi), (match exitTo id k with
        | some k => D .none k s h []
        | none => K (.exit id) s h []) → (match exitTo id k with
        | some k => W T p K (N + f) k s h []
        | none => K (.exit id) s h []) := fun id k s h hh => by
      split at hh
      · exact hDW _ _ _ _ hh
      · exact hh
    have hlt : N + f ≤ N + (f + 1) := Nat.le_succ _
    cases hd with
    | none =>
      show W T p K (N + f + 1) k s h c
      unfold exec at hden
      simp only at hden
      unfold W
      split at hden
      · exact hden
      · exact ihW _ _ _ _ hden
      · exact ihW _ _ _ _ hden
      · split at hden
        · exact ihW _ _ _ _ hden
        · exact ihW _ _ _ _ hden
        · exact ihW _ _ _ _ hden
        · split at hden
          · rename_i hc
            simp only [hc, if_true]
            refine Z8 (fun h => h.mono fun e s h hq => ?_) hden
            cases e with
            | normal => exact hDW _ _ _ _ hq
            | exit id => exact hexit _ _ _ _ hq
            | ret => exact hq
          rename_i hc
          simp only [hc, Bool.false_eq_true, if_false]
          split at hden
          · rename_i b hb
            simp only [hb]
            exact Z8 (fun h => ⟨fun e => hDW _ _ _ _ (h.t e), fun e => hDW _ _ _ _ (h.f e)⟩) hden
          · exact False.elim hden
        · split at hden
          · rename_i hc
            simp only [hc, if_true]
            refine Z8 (fun h => h.mono fun e s h hq => ?_) hden
            cases e with
            | normal => exact hDW _ _ _ _ hq
            | exit id => exact hexit _ _ _ _ hq
            | ret => exact hq
          rename_i hc
          simp only [hc, Bool.false_eq_true, if_false]
          exact ihW _ _ _ _ hden
        · exact ihW _ _ _ _ hden
        · split at hden
          · rename_i hc
            simp only [hc, if_true]
            exact hden
          rename_i hc
          simp only [hc, Bool.false_eq_true, if_false]
          refine Z8 (fun h => h.mono fun e s h hq => ?_) hden
          cases e with
          | normal => exact hq
          | exit id => exact hexit _ _ _ _ hq
          | ret => exact hq
        · rename_i id
          split at hden
          · rename_i k2 hk2
            simp only [hk2]
            exact ihW _ _ _ _ hden
          · rename_i hk2
            simp only [hk2]
            exact hden
        · split at hden
          · rename_i k2 hk2
            simp only [hk2]
            split at hden
            · rename_i hfl
              simp only [hfl, if_true]
              exact hden
            · exact False.elim hden
          · exact False.elim hden
        · exact hden
        · rename_i id ops d
          split at hden
          · rename_i hc
            simp only [hc, if_true]
            exact hden
          rename_i hc
          simp only [hc, Bool.false_eq_true, if_false]
          cases d with
          | true =>
            simp only [if_true] at hden
            exact ih _ _ _ _ _ hden
          | false =>
            simp only [Bool.false_eq_true, if_false] at hden
            exact ih _ _ _ _ _ hden
        · split at hden
          · exact False.elim hden
          rename_i hrd
          simp only [if_neg hrd]
          refine Z8 (fun h => h.mono fun e s h hq => ?_) hden
          cases e with
          | normal => exact hDW _ _ _ _ hq
          | exit id => exact hexit _ _ _ _ hq
          | ret => exact hq
        · exact False.elim hden
      · split at hden
        · rename_i hfl
          simp only [hfl, if_true]
          exact hden
        · exact False.elim hden
      · exact False.elim hden
    | ops ops l =>
      unfold exec at hden
      cases l with
      | nil => exact Zjf hlt (ihW _ _ _ _ hden)
      | cons o r =>
        simp only at hden
        split at hden
        · rename_i hfl
          split at hden
          · rename_i v c' hv
            have := Zb2 hlt (ih _ _ _ _ _ hden)
            show Wop T p ops o (ev s) h c fun v h c => ZhZ T p ops r (putO s o.dst v) h c fun s h c => W T p K (N + (f + 1)) k (Zdc T h s) h c
            unfold Wop
            unfold Q8 at hfl
            split at hfl
            · cases hfl
            · cases hfl
            · cases hfl
            · cases hfl
            · first
              | (simp only [hv]; exact this)
              | (split
                 · contradiction
                 · contradiction
                 · contradiction
                 · contradiction
                 · simp only [hv]
                   exact this)
          · exact False.elim hden
        · have := Zb2 hlt (ih (.gev (.u ops o r)) k s h c hden)
          exact this
    | drawn ops pr s0 m done =>
      unfold exec at hden
      cases m with
      | zero => exact False.elim hden
      | succ m =>
        simp only at hden
        show WD T p ops pr s0 (fun s h c => W T p K (N + (f + 1)) k (Zdc T h s) h c) (m + 1) done s h c
        simp only [WD]
        split at hden
        · exact False.elim hden
        rename_i s1 done1 c1 hf
        split at hden
        case isFalse => exact False.elim hden
        rename_i hsat
        simp only [hf]
        rw [if_pos hsat]
        generalize XT pr done1 = l at hden ⊢
        match l, hden with
        | [], hden =>
          simp only at hden ⊢
          split at hden
          · rename_i ha
            rw [if_pos ha]
            exact Zjf hlt (ihW _ _ _ _ hden)
          · exact False.elim hden
        | [q], hden =>
          have := Zb2 hlt (ih (.gev (.d ops pr s0 m done1 q)) k s1 h c1 hden)
          exact this
        | q :: q' :: r, hden => exact Z8 (fun h => Zb4 (fun q hh => hDM _ _ _ _ _ hh) h) hden
    | gev x =>
      unfold exec at hden
      simp only at hden
      split at hden
      · exact False.elim hden
      rename_i hfl
      have hfl : Q8 x.o.op = false := by simpa using hfl
      split at hden
      · exact False.elim hden
      · rename_i hg
        exact ZoY hfl hg (Zb2 hlt (ih _ _ _ _ _ hden))
      · rename_i g hg
        refine ZoY hfl hg (Z8 (fun h => ⟨fun e => ?_, fun e => ?_⟩) hden)
        · exact hDM _ _ _ _ _ (h.t e)
        · have : (match YX T x .undef s _ [] with
            | some (hd, s, c) => D hd k s _ c
            | none => False) := h.f e
          split at this
          · rename_i hd' s' c' he
            exact Zcx he (hDM _ _ _ _ _ this)
          · exact this.elim
    | event x =>
      unfold exec at hden
      simp only at hden
      show Zh1 T p x.o (ev s) h c (ZfH T p K (N + (f + 1)) x k s)
      unfold Zh1
      split at hden
      · exact False.elim hden
      · rename_i v h' c' he
        try simp only [he]
        split at hden
        · rename_i hd' s' c2 ha
          exact Zcx ha (Zb2 hlt (ih _ _ _ _ _ hden))
        · exact False.elim hden
      · rename_i fid xs c' he
        try simp only [he]
        refine Z8 (fun h => h.mono fun r h' hr => ?_) hden
        split at hr
        · rename_i hd' s' c2 ha
          exact Zcx ha (hDM _ _ _ _ _ hr)
        · exact hr.elim
theorem ZfX:∀(m:Nat) (hd:Hd) (k:List Item) (s:List AV) (h:List Zi) (c:Cd),Dn T p K m hd k s h c→Zkx T p K (m*4000) hd k s h c
 |0,_,_,_,_,_,h=>by simp only[Dn]at h
 |m+1,hd,k,s,h,c,hh=>by
  have:=Zk2 (D:=Dn T p K m) (N:=m*4000) (ZfX m) 4000 hd k s h c hh
  rw[Nat.succ_mul]
  exact this
theorem SC.ofD (hT:T.Of (p ())) (hm:(p ()).follows .mixedOrders=true) {f:FuncId} {fn:Func} {body:Code} (hf:(p ()).funcs[f]? =some fn) (hb:fn.body=some body) (hn:(fn.name== "runtime.NumGoroutine")=false) {xs:List AV} {h:List Zi} {Post:AV→List Zi→Prop}
  (hz:zOk h=true) (hnb:T.fl=true→h.length≤T.nb) (hW:Dn T p (Ze2 T fn.results.toList h.length Post) 100 .none [.code body] (entry fn.ntmps xs) h []):SC p f xs h Post:=SC.of hT hm hf hb hn hz (ZfX _ _ _ _ _ _ hW) hnb
theorem LP.indD (hT:T.Of (p ())) (hm:(p ()).follows .mixedOrders=true) (hfl:T.fl=false) {x:Code} {Q:Ex→List AV→List Zi→Prop} {s:List AV} {h:List Zi} {ι:Type} (L:List Nat) (st:ι→List AV) (hp:ι→List Zi) (inv:ι→Prop) (μ:ι→Nat) (i:ι) (n:Nat)
  (hn:∀i,(hp i).length=n) (hi:inv i) (hto:To (Vm.keep L s) h (st i) (hp i)) (step:∀i,inv i→Dn T p (Zfu L st hp inv μ i n Q) 100 .none [.code x] (st i) (hp i) []):LP T.rd p x Q s h:=
 LP.ind hT hm hfl L st hp inv μ i n hn hi hto fun i hi=>ZfX _ _ _ _ _ _ (step i hi)
theorem XP.byD (hT:T.Of (p ())) (hm:(p ()).follows .mixedOrders=true) (hfl:T.fl=false) {x:Code} {Q:Ex→List AV→List Zi→Prop} {s:List AV} {h:List Zi} {ι:Type} (L:List Nat) (st:ι→List AV) (hp:ι→List Zi) (inv:ι→Prop)
  (step:Dn T p (Zkk L st hp inv h.length Q) 100 .none [.code x] s h []) (rest:∀i,inv i→Q .normal (st i) (hp i)):XP T.rd p x Q s h:=XP.by hT hm hfl L st hp inv (ZfX _ _ _ _ _ _ step) rest
theorem ZoD {D D':Hd→List Item→List AV→List Zi→Cd→Prop} (hD:∀hd k s h c,D hd k s h c→D' hd k s h c):∀(x:St),den T p K D x→den T p K D' x
 |.bad,h=>h
 |.fin ..,h=>h
 |.br c b k₁ k₂ s h,hh=>Z8 (fun h=>⟨fun e=>hD _ _ _ _ _ (h.t e),fun e=>hD _ _ _ _ _ (h.f e)⟩) hh
 |.gd c g x k s h,hh=>Z8 (fun b=>⟨fun e=>hD _ _ _ _ _ (b.t e),fun e=>by
   have:=b.f e
   revert this
   cases YX T x .undef s h []with
   |none=>exact id
   |some p=>exact hD _ _ _ _ _⟩) hh
 |.call c f xs x k s h,hh=>Z8 (fun b=>b.mono fun r h' hr=>by
   revert hr
   cases YX T x r s h' []with
   |none=>exact id
   |some p=>exact hD _ _ _ _ _) hh
 |.alls c ops pr s0 n done qs k s h,hh=>Z8 (fun h=>Zb4 (fun q hh=>hD _ _ _ _ _ hh) h) hh
 |.loop c x k s h,hh=>Z8 (fun b=>b.mono fun e s h hq=>by
   cases e with
   |normal=>exact hq
   |exit id=>
    revert hq
    dsimp only
    cases exitTo id k with
    |none=>exact fun h=>h
    |some k=>exact hD _ _ _ _ _
   |ret=>exact hq) hh
 |.cb c f ps a x k s h,hh=>Z8 (fun b=>b.mono fun e s h hq=>by
   cases e with
   |normal=>exact hD _ _ _ _ _ hq
   |exit id=>
    revert hq
    dsimp only
    cases exitTo id k with
    |none=>exact fun h=>h
    |some k=>exact hD _ _ _ _ _
   |ret=>exact hq) hh
 |.cut c x k s h,hh=>Z8 (fun b=>b.mono fun e s h hq=>by
   cases e with
   |normal=>exact hD _ _ _ _ _ hq
   |exit id=>
    revert hq
    dsimp only
    cases exitTo id k with
    |none=>exact fun h=>h
    |some k=>exact hD _ _ _ _ _
   |ret=>exact hq) hh
 |.hand c k s h,hh=>hh
theorem Zlc:∀(m:Nat) (hd:Hd) (k:List Item) (s:List AV) (h:List Zi) (c:Cd),Dn T p K m hd k s h c→Dn T p K (m+1) hd k s h c
 |0,_,_,_,_,_,h=>by simp only[Dn]at h
 |m+1,hd,k,s,h,c,hh=>ZoD (Zlc m) _ hh
theorem Zr2 {m m':Nat} (hle:m≤m') {hd:Hd} {k:List Item} {s:List AV} {h:List Zi} {c:Cd} (hh:Dn T p K m hd k s h c):Dn T p K m' hd k s h c:=by
 induction hle with
 |refl=>exact hh
 |step _ ih=>exact Zlc _ _ _ _ _ _ ih
theorem HP.ofD (hT:T.Of (p ())) (hm:(p ()).follows .mixedOrders=true) {k:List Item} {s:List AV} {h:List Zi} {n:Nat} (hW:Dn T p K n .none k s h []):HP T.rd T.nb p k K s h:=HP.ofW hT hm (ZfX _ _ _ _ _ _ hW)
end
end Go.Proofs.YtjgpiclllehgmaaGreat.Vm
