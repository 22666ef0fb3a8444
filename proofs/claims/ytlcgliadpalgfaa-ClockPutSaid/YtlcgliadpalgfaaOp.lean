/- From arguments that came in to what the abstract machine says of them: structs, slices of structs. -/
import Derived.Test.YtlcgliadpalgfaaFr
import Derived.Test.YtlcgliadpalgfaaGd
import Derived.Deep.Slices
set_option linter.unusedSimpArgs false
set_option linter.unusedVariables false
namespace Go.Proofs.Ytlcgliadpalgfaa.Vm
open Go Go.Proofs Sp
open Go.ChangeShapes Go.WideShapes Go.ChangeAt Go.RowKit

section
variable {H : Type} {he : TypeId × Value → H} {P : Program} {w : World}

/-- Cells of a type that are read as data are what an element tells. -/
def Opn (he : TypeId × Value → H) (P : Program) (w : World) (t : TypeId) (s : Nat) {α : Type} (enc : α → List AV) (Q : α → Prop) : Prop :=
  ∀ (fuel : Nat) (cs : List Value) (x : DataW H × List MemPlace), DataW.trod he P w 0 (fun _ => true) true fuel t cs = some x →
    cs.length = s ∧ ∃ a, Q a ∧ (enc a).length = s ∧ ∀ (j : Nat) (c : AV), (enc a)[j]? = some c → PR w (fun b _ _ => b < w.heap.size) c (cs.getD j undef)

theorem opn_int {t : TypeId} (ht : P.underlying t = some (.int .i64)) : Opn he P w t 1 (fun n : Int => [.int .i64 fun _ => n]) (fun n => -9223372036854775808 ≤ n ∧ n ≤ 9223372036854775807) := fun fuel cs x h => by
  obtain ⟨n, rfl, _, hw⟩ := DataW.trod_int ht h
  refine ⟨rfl, n, bounds_i64 hw, rfl, fun j c hj => ?_⟩
  cases j with
  | zero => simp only [List.getElem?_cons_zero, Option.some.injEq] at hj; subst hj; exact .int .i64 _
  | succ j => simp at hj

theorem cell_lt {w : World} {b o : Nat} {v : Value} (h : w.cell? ⟨b, o, none⟩ = some v) : b < w.heap.size := by
  by_cases hb : b < w.heap.size
  · exact hb
  · rw [World.cell?, Array.getElem?_eq_none (Nat.le_of_not_lt hb)] at h
    cases h

theorem opn_slice {t e : TypeId} {s : Nat} {α : Type} [Inhabited α] {enc : α → List AV} {Q : α → Prop} {d : α} (ht : P.underlying t = some (.slice e)) (hs : P.cellsOf e = s) (h0 : 0 < s) (hE : Opn he P w e s enc Q) :
    Opn he P w t 1 (fun l : List α => [lst s enc d l]) (fun l => (∀ a ∈ l, Q a) ∧ (l.length : Int) ≤ 9223372036854775807) := fun fuel cs x h => by
  have one : ∀ (l : List α) (v : Value), PR w (fun b _ _ => b < w.heap.size) (lst s enc d l) v → ∀ (j : Nat) (c : AV), [lst s enc d l][j]? = some c → PR w (fun b _ _ => b < w.heap.size) c ([v].getD j undef) := fun l v hp j c hj => by
    cases j with
    | zero => simp only [List.getElem?_cons_zero, Option.some.injEq] at hj; subst hj; exact hp
    | succ j => simp at hj
  rcases Go.Deep.open_slice ht h with ⟨rfl, _⟩ | ⟨a, len, cap, m, n, D, Pl, rfl, hb, hl, hm, hmm, _, hx⟩
  · exact ⟨rfl, [], ⟨by simp, by simp⟩, rfl, one _ _ (.isl0 _ _ _ _ rfl (fun id e => by cases e))⟩
  have hmm : m = cap := by rw [hmm]; rfl
  subst hmm
  rcases Nat.eq_zero_or_pos m with hm0 | hm0
  · have hl0 : len = 0 := by omega
    subst hm0 hl0
    exact ⟨rfl, [], ⟨by simp, by simp⟩, rfl, one _ _ (.islE _ _ _ _ a rfl (.inl rfl))⟩
  rw [hs] at hx
  obtain ⟨b, o, spot⟩ := a
  have hspot : spot = none := by
    obtain ⟨cs', h1, _⟩ := hx 0 hm0
    obtain ⟨_, hlen, hc⟩ := World.cells?_some h1
    have := hc 0 h0
    rw [List.getElem?_eq_getElem (by omega)] at this
    simpa [Addr.add] using World.cell?_spot this
  subst hspot
  have hcell : ∀ i, i < m → ∃ a, Q a ∧ (enc a).length = s ∧ ∀ (j : Nat) (c : AV), (enc a)[j]? = some c → ∃ v, w.cell? ⟨b, o + i * s + j, none⟩ = some v ∧ PR w (fun b _ _ => b < w.heap.size) c v := fun i hi => by
    obtain ⟨cs', h1, h2⟩ := hx i hi
    obtain ⟨_, hlen, hc⟩ := World.cells?_some h1
    obtain ⟨_, a, g1, g2, g3⟩ := hE _ _ _ h2
    refine ⟨a, g1, g2, fun j c hj => ?_⟩
    have hjs : j < s := by rw [← g2]; exact (List.getElem?_eq_some_iff.1 hj).1
    have hcj := hc j hjs
    rw [Go.WideShapes.add_plain, Go.WideShapes.add_plain, List.getElem?_eq_getElem (by omega)] at hcj
    refine ⟨_, hcj, ?_⟩
    have := g3 j c hj
    rw [List.getD_eq_getElem?_getD, List.getElem?_eq_getElem (by omega)] at this
    exact this
  obtain ⟨A, hA⟩ := Go.Deep.choose_lt hcell
  have hbs : b < w.heap.size := by
    obtain ⟨h1, h2, h3⟩ := hA 0 hm0
    obtain ⟨v, hv, _⟩ := h3 0 _ (List.getElem?_eq_getElem (by omega))
    exact cell_lt hv
  have hg : ∀ i, i < len → ((List.range len).map A).getD i d = A i := fun i hi => by
    rw [List.getD_eq_getElem?_getD]
    simp [hi]
  have hmax : (len : Int) ≤ 9223372036854775807 := by unfold maxLen at hm; omega
  refine ⟨rfl, (List.range len).map A, ⟨fun y hy => ?_, by simpa using hmax⟩, rfl, one _ _ ?_⟩
  · obtain ⟨i, hi, rfl⟩ := List.mem_map.1 hy
    exact (hA i (by have := List.mem_range.1 hi; omega)).1
  · refine .isl _ _ _ _ b o len m (fun i j => (w.cell? ⟨b, o + i * s + j, none⟩).getD undef) (by simp) hl (.inl rfl) (fun e => by cases e) (fun i hi => ?_) (fun i j c hi hj => ?_) (fun i j c hi hj => ?_) hbs
    · unfold lstR
      simp only [Int.toNat_natCast, hg i hi]
      exact (hA i (by omega)).2.1
    · unfold lstR at hj
      simp only [Int.toNat_natCast, hg i hi] at hj
      obtain ⟨v, hv, _⟩ := (hA i (by omega)).2.2 j c hj
      rw [hv]; rfl
    · unfold lstR at hj
      simp only [Int.toNat_natCast, hg i hi] at hj
      obtain ⟨v, hv, hp⟩ := (hA i (by omega)).2.2 j c hj
      rw [hv]; exact hp

/-- Fields of one cell each, one behind the other. -/
def OpnF (he : TypeId × Value → H) (P : Program) (w : World) (f : Field) (o : Nat) {α : Type} (v : α → AV) (Q : α → Prop) : Prop := f.offset = o ∧ P.cellsOf f.type = 1 ∧ Opn he P w f.type 1 (fun a => [v a]) Q

theorem opn_field {fs : Array Field} {m : Nat} {cs : List Value} {xs : List (DataW H × List MemPlace)} {i : Nat} {f : Field} {o : Nat} {α : Type} {v : α → AV} {Q : α → Prop} (hf : fs[i]? = some f) (hF : OpnF he P w f o v Q)
    (hx : ∀ (i : Nat) (f : Field), fs[i]? = some f → DataW.trod he P w 0 (fun _ => true) true m f.type ((cs.drop f.offset).take (P.cellsOf f.type)) = xs[i]?) (hl : xs.length = fs.size) : ∃ a, Q a ∧ PR w (fun b _ _ => b < w.heap.size) (v a) (cs.getD o undef) := by
  obtain ⟨h1, h2, h3⟩ := hF
  have h4 := hx i f hf
  have hi : i < xs.length := by rw [hl]; exact (Array.getElem?_eq_some_iff.1 hf).1
  rw [List.getElem?_eq_getElem hi, h1, h2] at h4
  obtain ⟨h5, a, h6, _, h7⟩ := h3 _ _ _ h4
  refine ⟨a, h6, ?_⟩
  have := h7 0 _ rfl
  have e : ((cs.drop o).take 1).getD 0 undef = cs.getD o undef := by
    simp [List.getD_eq_getElem?_getD, List.getElem?_take, List.getElem?_drop]
  rw [e] at this
  exact this

theorem cells_cons {w : World} {c0 : AV} {l : List AV} {cs : List Value} {k : Nat} (h0 : PR w (fun b _ _ => b < w.heap.size) c0 (cs.getD k undef)) (hl : ∀ (j : Nat) (c : AV), l[j]? = some c → PR w (fun b _ _ => b < w.heap.size) c (cs.getD (k + 1 + j) undef)) :
    ∀ (j : Nat) (c : AV), (c0 :: l)[j]? = some c → PR w (fun b _ _ => b < w.heap.size) c (cs.getD (k + j) undef) := fun j c hj => by
  cases j with
  | zero => simp only [List.getElem?_cons_zero, Option.some.injEq] at hj; subst hj; exact h0
  | succ j => rw [show k + (j + 1) = k + 1 + j by omega]; exact hl j c (by simpa using hj)
theorem cells_nil {w : World} {cs : List Value} {k : Nat} : ∀ (j : Nat) (c : AV), ([] : List AV)[j]? = some c → PR w (fun b _ _ => b < w.heap.size) c (cs.getD (k + j) undef) := fun j c hj => by simp at hj
end

section
variable {H : Type} {he : TypeId × Value → H} {w : World}
def I64 (n : Int) : Prop := -9223372036854775808 ≤ n ∧ n ≤ 9223372036854775807

theorem opn_2 {P : Program} {t : TypeId} {f0 f1 : Field} {α β : Type} {v0 : α → AV} {v1 : β → AV} {Q0 : α → Prop} {Q1 : β → Prop} {γ : Type} {enc : γ → List AV} (mk : α → β → γ) (ht : P.underlying t = some (.struct #[f0, f1])) (hc : P.cellsOf t = 2)
    (h0 : OpnF he P w f0 0 v0 Q0) (h1 : OpnF he P w f1 1 v1 Q1) (he2 : ∀ a b, enc (mk a b) = [v0 a, v1 b]) : Opn he P w t 2 enc (fun z => ∃ a b, z = mk a b ∧ Q0 a ∧ Q1 b) := fun fuel cs x h => by
  obtain ⟨xs, m, _, _, hlen, hxl, hf⟩ := DataW.trod_struct ht h
  obtain ⟨a, qa, pa⟩ := opn_field (i := 0) rfl h0 hf hxl
  obtain ⟨b, qb, pb⟩ := opn_field (i := 1) rfl h1 hf hxl
  refine ⟨hlen.trans hc, mk a b, ⟨a, b, rfl, qa, qb⟩, by rw [he2]; rfl, ?_⟩
  rw [he2]
  have := cells_cons (k := 0) pa (cells_cons (k := 1) pb cells_nil)
  simpa using this
theorem Opn.mono {P : Program} {t : TypeId} {s : Nat} {α : Type} {enc : α → List AV} {Q Q' : α → Prop} (h : Opn he P w t s enc Q) (hq : ∀ a, Q a → Q' a) : Opn he P w t s enc Q' := fun fuel cs x hx => by
  obtain ⟨h1, a, h2, h3⟩ := h fuel cs x hx
  exact ⟨h1, a, hq a h2, h3⟩

/-- An argument that is a struct. -/
theorem arg_agg {P : Program} {t : TypeId} {s : Nat} {fs : Array Field} {α : Type} {enc : α → List AV} {Q : α → Prop} (ht : P.underlying t = some (.struct fs)) (hO : Opn he P w t s enc Q) {base : Nat} {v : Value} {d : DataW H} {p : List MemPlace} (hv : Value.okWide P w .any base t v) (hd : DataW.Trod he P w 0 (fun _ => true) true t v d p) :
    ∃ a, Q a ∧ VR (R0 w) (.agg (enc a)) v := by
  obtain ⟨cs, rfl, _⟩ := okWide_struct ht hv
  obtain ⟨fuel, hf⟩ := hd
  obtain ⟨h1, a, h2, h3, h4⟩ := hO _ _ _ hf
  have h1 : cs.size = s := by simpa [Value.cells] using h1
  refine ⟨a, h2, .agg _ _ (by omega) fun j c hj => ?_⟩
  have := h4 j c hj
  refine .pure _ _ (show PR w (fun b _ _ => b < w.heap.size) c _ from ?_)
  simpa [Value.cells, Array.getD_eq_getD_getElem?, List.getD_eq_getElem?_getD] using this
/-- An argument of one cell. -/
theorem arg_one {P : Program} {t : TypeId} {α : Type} {x : α → AV} {Q : α → Prop} (hO : Opn he P w t 1 (fun a => [x a]) Q) {v : Value} {d : DataW H} {p : List MemPlace} (hc : v.cells = #[v]) (hd : DataW.Trod he P w 0 (fun _ => true) true t v d p) :
    ∃ a, Q a ∧ VR (R0 w) (x a) v := by
  obtain ⟨fuel, hf⟩ := hd
  obtain ⟨_, a, h2, _, h4⟩ := hO _ _ _ hf
  refine ⟨a, h2, .pure _ _ ?_⟩
  have := h4 0 _ rfl
  rw [hc] at this
  exact this
theorem cells_slice {P : Program} {r : Reach} {base : Nat} {t e : TypeId} {v : Value} (ht : P.underlying t = some (.slice e)) (h : Value.okWide P w r base t v) : v.cells = #[v] := by
  obtain ⟨a, l, c, rfl⟩ := okWide_slice ht h
  rfl
theorem cells_int {P : Program} {r : Reach} {base : Nat} {t : TypeId} {k : IntKind} {v : Value} (ht : P.underlying t = some (.int k)) (h : Value.okWide P w r base t v) : v.cells = #[v] := by
  obtain ⟨n, rfl⟩ := okWide_int ht h
  rfl

theorem rowA_nil {R : RC} : RowA R [] #[] := ⟨rfl, fun j c h => by simp at h⟩
theorem rowA_cons {R : RC} {c : AV} {l : List AV} {v : Value} {vs : List Value} (h0 : VR R c v) (hl : RowA R l vs.toArray) : RowA R (c :: l) (v :: vs).toArray := by
  refine ⟨by have := hl.1; simp at this ⊢; exact this, fun j d hj => ?_⟩
  cases j with
  | zero => simp only [List.getElem?_cons_zero, Option.some.injEq] at hj; subst hj; exact h0
  | succ j =>
    have := hl.2 j d (by simpa using hj)
    simpa [Array.getD_eq_getD_getElem?] using this

/-! The types of this program. -/
def ChgI (c : Chg) : Prop := I64 c.at_ ∧ I64 c.by_
def ZoneI (z : Zone) : Prop := I64 z.base ∧ (∀ c ∈ z.chs, ChgI c) ∧ (z.chs.length : Int) ≤ 9223372036854775807

theorem on : Opn he Try.prog w 3 1 (fun n : Int => [.int .i64 fun _ => n]) I64 := opn_int Try.underlying3
theorem ol : Opn he Try.prog w 22 1 (fun l : List Int => [lst 1 encI 0 l]) (fun l => (l.length : Int) ≤ 9223372036854775807) := (opn_slice (d := 0) Try.underlying22 (by decide +kernel) (by decide) on).mono fun _ h => h.2
theorem oc : Opn he Try.prog w 62 2 encChg ChgI := (opn_2 (enc := encChg) Chg.mk Try.underlying62 (by decide +kernel) ⟨rfl, by decide +kernel, on⟩ ⟨rfl, by decide +kernel, on⟩ fun _ _ => rfl).mono fun _ ⟨_, _, e, h1, h2⟩ => by subst e; exact ⟨h1, h2⟩
theorem oz : Opn he Try.prog w 51 2 encZone ZoneI := (opn_2 (enc := encZone) Zone.mk Try.underlying51 (by decide +kernel) ⟨rfl, by decide +kernel, on⟩ ⟨rfl, by decide +kernel, opn_slice (d := default) Try.underlying49 (by decide +kernel) (by decide) oc⟩ fun _ _ => rfl).mono fun _ ⟨_, _, e, h1, h2⟩ => by subst e; exact ⟨h1, h2⟩
end
end Go.Proofs.Ytlcgliadpalgfaa.Vm
