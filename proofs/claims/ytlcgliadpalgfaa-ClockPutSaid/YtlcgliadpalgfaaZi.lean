/- Contract: the reference's spans. -/
import Derived.Test.YtlcgliadpalgfaaPx
import Derived.Test.YtlcgliadpalgfaaPt
set_option linter.unusedSimpArgs false
set_option linter.unusedVariables false
namespace Go.Proofs.Ytlcgliadpalgfaa.Vm
open Go Go.Proofs Sp
set_option maxRecDepth 100000
set_option maxHeartbeats 1600000

/-- Which counts it looks for. -/
def qOf (b : Bool) (n : Int) : Bool := (b && decide (n = 0)) || (!b && decide (1 < n))

theorem refStep_len (q : Int → Bool) (out : List Sp.Span) (n : Int) : out.length ≤ (refStep q out n).length := by
  unfold refStep
  split
  · exact Nat.le_refl _
  · split
    · rename_i x hx
      have : 0 < out.length := by
        rcases Nat.eq_zero_or_pos out.length with h | h
        · rw [List.eq_nil_of_length_eq_zero h] at hx; cases hx
        · exact h
      split <;> rw [List.length_append, List.length_singleton] <;> (try rw [List.length_dropLast]) <;> omega
    · rw [List.length_append]; omega
theorem refGo_len (q : Int → Bool) : ∀ (k : Nat) (n : Int) (out : List Sp.Span), out.length ≤ (refGo q k n out).length
  | 0, _, out => Nat.le_refl _
  | k + 1, n, out => Nat.le_trans (refStep_len q out n) (refGo_len q k (n + 1) _)

theorem last_nt {nt : (α : Type) → α → List α → Int → α} (hnt : ∀ (α : Type) (d : α) (l : List α) (i : Int), nt α d l i = l.getD i.toNat d) {α : Type} {d : α} {l : List α} (hl : 0 < l.length) : l.getLast? = some (nt α d l ((l.length : Int) - 1)) := by
  rw [hnt, show ((l.length : Int) - 1).toNat = l.length - 1 by omega, List.getD_eq_getElem?_getD, List.getLast?_eq_getElem?, List.getElem?_eq_getElem (by omega), Option.getD_some]

theorem span_put {nt : (α : Type) → α → List α → Int → α} (hnt : ∀ (α : Type) (d : α) (l : List α) (i : Int), nt α d l i = l.getD i.toNat d) {out : List Sp.Span} {n : Int} (ho : 0 < out.length) (i : Nat) (hi : i < out.length) :
    [AV.int .i64 fun _ => (nt Sp.Span default out (i : Int)).fr, .int .i64 fun _ => bif decide ((i : Int) = (out.length : Int) - 1) then n else (nt Sp.Span default out (i : Int)).to_] = encSpan (nt Sp.Span default (out.dropLast ++ [⟨(nt Sp.Span default out ((out.length : Int) - 1)).fr, n⟩]) (i : Int)) := by
  rw [nt_app hnt, List.length_dropLast]
  by_cases h : i < out.length - 1
  · rw [if_pos h]
    have e : nt Sp.Span default out.dropLast (i : Int) = nt Sp.Span default out (i : Int) := by
      rw [hnt, hnt, Int.toNat_natCast, List.getD_eq_getElem?_getD, List.getD_eq_getElem?_getD, List.getElem?_dropLast, if_pos h]
    rw [e]
    have hd : decide ((i : Int) = (out.length : Int) - 1) = false := decide_eq_false (by omega)
    rw [hd]
    rfl
  · rw [if_neg h]
    have hd : decide ((i : Int) = (out.length : Int) - 1) = true := decide_eq_true (by omega)
    rw [hd, show i - (out.length - 1) = 0 by omega, show (i : Int) = (out.length : Int) - 1 by omega]
    rw [hnt Sp.Span default [_] _]
    rfl

theorem c84 (z : Zone) (b : Bool) (hz : checkZone z = 0) : SC (fun _ => Try.prog) 84 [zoneA z, .bool fun _ => b] [] fun v h => v = lst 2 encSpan default (spans z (qOf b)) ∧ h = [] := by
  obtain ⟨nt, hnt⟩ := nth_ex
  have hq1 : qOf b 1 = false := by cases b <;> rfl
  obtain ⟨hpl, hpb⟩ := pieces_bd hz
  have hl1 : 1 ≤ (pieces z).length := (pcsGo_len _ _ _).1
  have hLb : ∀ x ∈ strs z, -1000000 ≤ x.ahd ∧ x.ahd ≤ 1000000 ∧ 0 ≤ x.fr ∧ x.fr ≤ 43200 ∧ -1 ≤ x.bef ∧ x.bef ≤ 1099511627776 := fun x hx => by
    obtain ⟨p, hp, rfl⟩ := List.mem_map.1 hx
    have := hpb p hp
    unfold cl
    split
    · exact ⟨by simp only; omega, by simp only; omega, by simp only; omega, by simp only; omega, by simp, by simp⟩
    · omega
  have hLl : (strs z).length = (pieces z).length := List.length_map _
  have hx0 : nt Pc default (strs z) 0 ∈ strs z := nt_mem hnt (i := 0) (by omega)
  obtain ⟨e1, e2, e3⟩ := spans_ref hz hq1 hx0
  rw [e1]
  have h101 := c101 z hz
  refine SC.less (con Try.func84 (body := bodyOf Try.f84) rfl (by decide +kernel) ?_)
  unfold zoneA at *
  simp only [lst_nt hnt] at h101 ⊢
  generalize hL : strs z = L at *
  have hx0b := hLb _ hx0
  generalize hx : nt Pc default L 0 = x0 at *
  (cbv; (try simp only [nc] at *); (try refine Chk.mk (by (try simp only [nc, allc0, allc1, allcE, allcI, Cn.p, and_true, true_and, decide_eq_true_eq, imp_self, List.length_cons, List.length_nil]); all_goals ((repeat' (first | apply And.intro | intro _)) <;> first | omega | rfl | exact Or.inl rfl | assumption | exact nb1 (by assumption) | exact nb2 (by assumption) | exact nb3 (by assumption) | exact nb4 (by assumption) | decide | decide +kernel | (simp [*]; done))) ?_))
  refine call0 (h101) (by first | rfl | (simp only [zoneA, lst_nt hnt]; rfl)) fun r h₂ hp => ?_
  (try simp only [zoneA, lst_nt hnt] at hp)
  obtain ⟨rfl, rfl⟩ := hp
  (cbv; try simp only [nc] at *)
  simp only [hx]
  refine Chk.mk (by (try simp only [nc, allc0, allc1, allcE, allcI, Cn.p, and_true, true_and, decide_eq_true_eq, imp_self, List.length_cons, List.length_nil]); all_goals ((repeat' (first | apply And.intro | intro _)) <;> first | omega | rfl | exact Or.inl rfl | assumption | exact nb1 (by assumption) | exact nb2 (by assumption) | exact nb3 (by assumption) | exact nb4 (by assumption) | decide | decide +kernel | (simp [*]; done))) ?_
  generalize hlow : lowF (x0.fr + x0.ahd) L = low at *
  generalize hhigh : highF 0 L = high at *
  refine loopQ fun Q hQ => ?_
  refine loopS false false [] [1, 5, 6, 7, 8] [] (fun (⟨i, a, c⟩ : Nat × Int × Int) => [(6, .int .i64 fun _ => a), (7, .int .i64 fun _ => c), (8, .int .i64 fun _ => (i : Int))]) (fun _ => []) (fun ⟨i, a, c⟩ => i ≤ L.length ∧ lowF a (L.drop i) = low ∧ highF c (L.drop i) = high ∧ -2000000 ≤ a ∧ a ≤ 2000000 ∧ 0 ≤ c ∧ c ≤ 1099600000000) (fun i => L.length - i.1 + 0) (0, x0.fr + x0.ahd, 0) ⟨Nat.zero_le _, hlow, hhigh, by omega, by omega, by omega, by omega⟩ ?_ ?_
  · (refine To.of [] ?_; cbv; (try simp only [nc]); (repeat' (first | exact trivial | exact WkN.refl _ | exact WkB.refl _ | refine ⟨?_, ?_⟩ | refine WkB.cells ?_ | refine WkN.agg ?_ | refine WkN.tup ?_)); (all_goals (first | exact .int rfl | exact .int (by first | omega | (simp only [nc]; omega) | (simp; done)) | exact .bool rfl | exact .snoc hnt rfl rfl rfl | exact .snoc hnt rfl rfl (by simp only [encZone, encTrain, lst_nt hnt]; rfl) | exact lit_nt hnt _ _ _ _ rfl | exact take_nt hnt (by omega) | exact lstR_wk hnt | exact .tok rfl | exact .tok (by simp) | exact .lst hnt rfl | exact .gsl (by simp) | exact .empty rfl | exact .nilOwn (by decide) (by decide) rfl | exact .nilGar (by decide) (by decide) rfl | exact .gd (by first | assumption | decide | (simp [*]; done)) (.refl _) | skip)))
  rintro ⟨i, a, c⟩ ⟨hi, ha, hc, hab⟩
  (cbv; (try simp only [nc] at *); (try refine Chk.mk (by (try simp only [nc, allc0, allc1, allcE, allcI, Cn.p, and_true, true_and, decide_eq_true_eq, imp_self, List.length_cons, List.length_nil]); all_goals ((repeat' (first | apply And.intro | intro _)) <;> first | omega | rfl | exact Or.inl rfl | assumption | exact nb1 (by assumption) | exact nb2 (by assumption) | exact nb3 (by assumption) | exact nb4 (by assumption) | decide | decide +kernel | (simp [*]; done))) ?_))
  refine ⟨fun hb => ?_, fun hb => ?_⟩
  · simp only [decide_eq_true_eq] at hb
    have hil : i < L.length := by omega
    rw [nt_drop (d := default) hnt hil] at ha hc
    have hpb := hLb _ (nt_mem hnt hil : nt Pc default L (i : Int) ∈ L)
    generalize hp : nt Pc default L (i : Int) = p at *
    (cbv; try simp only [nc] at *)
    simp only [hp]
    refine Chk.mk (by (try simp only [nc, allc0, allc1, allcE, allcI, Cn.p, and_true, true_and, decide_eq_true_eq, imp_self, List.length_cons, List.length_nil]); all_goals ((repeat' (first | apply And.intro | intro _)) <;> first | omega | rfl | exact Or.inl rfl | assumption | exact nb1 (by assumption) | exact nb2 (by assumption) | exact nb3 (by assumption) | exact nb4 (by assumption) | decide | decide +kernel | (simp [*]; done))) ?_
    have ea : (if p.fr + p.ahd < a then p.fr + p.ahd else a) = min a (p.fr + p.ahd) := by split <;> omega
    have ec : (if (if c < p.fr + p.ahd then p.fr + p.ahd else c) < p.bef + p.ahd then p.bef + p.ahd else if c < p.fr + p.ahd then p.fr + p.ahd else c) = max (max c (p.fr + p.ahd)) (p.bef + p.ahd) := by split <;> split <;> omega
    rw [ea, ec]
    have ha' : lowF (min a (p.fr + p.ahd)) (L.drop (i + 1)) = low := ha
    have hc' : highF (max (max c (p.fr + p.ahd)) (p.bef + p.ahd)) (L.drop (i + 1)) = high := hc
    have b1 : -2000000 ≤ min a (p.fr + p.ahd) ∧ min a (p.fr + p.ahd) ≤ 2000000 := by omega
    have b2 : 0 ≤ max (max c (p.fr + p.ahd)) (p.bef + p.ahd) ∧ max (max c (p.fr + p.ahd)) (p.bef + p.ahd) ≤ 1099600000000 := by omega
    generalize min a (p.fr + p.ahd) = a' at *
    generalize max (max c (p.fr + p.ahd)) (p.bef + p.ahd) = c' at *
    refine ⟨(i + 1, a', c'), ⟨by omega, ha', hc', b1.1, b1.2, b2.1, b2.2⟩, by show L.length - (i + 1) + 0 < L.length - i + 0; omega, ?_⟩
    (refine To.of [] ?_; cbv; (try simp only [nc]); (repeat' (first | exact trivial | exact WkN.refl _ | exact WkB.refl _ | refine ⟨?_, ?_⟩ | refine WkB.cells ?_ | refine WkN.agg ?_ | refine WkN.tup ?_)); (all_goals (first | exact .int rfl | exact .int (by first | omega | (simp only [nc]; omega) | (simp; done)) | exact .bool rfl | exact .snoc hnt rfl rfl rfl | exact .snoc hnt rfl rfl (by simp only [encZone, encTrain, lst_nt hnt]; rfl) | exact lit_nt hnt _ _ _ _ rfl | exact take_nt hnt (by omega) | exact lstR_wk hnt | exact .tok rfl | exact .tok (by simp) | exact .lst hnt rfl | exact .gsl (by simp) | exact .empty rfl | exact .nilOwn (by decide) (by decide) rfl | exact .nilGar (by decide) (by decide) rfl | exact .gd (by first | assumption | decide | (simp [*]; done)) (.refl _) | skip)))
  · simp only [decide_eq_false_iff_not] at hb
    have hd : L.drop i = [] := List.drop_eq_nil_of_le (by omega)
    rw [hd] at ha hc
    have ha : a = low := ha
    have hc : c = high := hc
    subst ha hc
    (cbv; (try simp only [nc] at *); (try refine Chk.mk (by (try simp only [nc, allc0, allc1, allcE, allcI, Cn.p, and_true, true_and, decide_eq_true_eq, imp_self, List.length_cons, List.length_nil]); all_goals ((repeat' (first | apply And.intro | intro _)) <;> first | omega | rfl | exact Or.inl rfl | assumption | exact nb1 (by assumption) | exact nb2 (by assumption) | exact nb3 (by assumption) | exact nb4 (by assumption) | decide | decide +kernel | (simp [*]; done))) ?_))
    refine hQ _ _ _ ?_
    (cbv; (try simp only [nc] at *); (try refine Chk.mk (by (try simp only [nc, allc0, allc1, allcE, allcI, Cn.p, and_true, true_and, decide_eq_true_eq, imp_self, List.length_cons, List.length_nil]); all_goals ((repeat' (first | apply And.intro | intro _)) <;> first | omega | rfl | exact Or.inl rfl | assumption | exact nb1 (by assumption) | exact nb2 (by assumption) | exact nb3 (by assumption) | exact nb4 (by assumption) | decide | decide +kernel | (simp [*]; done))) ?_))
    generalize hq : qOf b = q at *
    refine loopS false false [] [1, 5, 7, 9, 10] [.gar 2 (fun _ => 0) (fun e => encSpan (nt Sp.Span default [] (e ())))] (fun (⟨k, out⟩ : Nat × List Sp.Span) => [(9, .gsl 1 (fun _ => (out.length : Int))), (10, .int .i64 fun _ => a + (k : Int))]) (fun ⟨k, out⟩ => [(1, .gar 2 (fun _ => (out.length : Int)) (fun e => encSpan (nt Sp.Span default out (e ()))))]) (fun ⟨k, out⟩ => k ≤ (c + 1 - a).toNat ∧ spans z q = refGo (fun n => q (cnt L n : Int)) ((c + 1 - a).toNat - k) (a + (k : Int)) out ∧ out.length ≤ k) (fun i => (c + 1 - a).toNat - i.1 + 0) (0, []) ⟨Nat.zero_le _, by simpa using e1, by simp⟩ ?_ ?_
    · (refine To.of [(2,true)] ?_; cbv; (try simp only [nc]); (repeat' (first | exact trivial | exact WkN.refl _ | exact WkB.refl _ | refine ⟨?_, ?_⟩ | refine WkB.cells ?_ | refine WkN.agg ?_ | refine WkN.tup ?_)); (all_goals (first | exact .int rfl | exact .int (by first | omega | (simp only [nc]; omega) | (simp; done)) | exact .bool rfl | exact .snoc hnt rfl rfl rfl | exact .snoc hnt rfl rfl (by simp only [encZone, encTrain, lst_nt hnt]; rfl) | exact lit_nt hnt _ _ _ _ rfl | exact take_nt hnt (by omega) | exact lstR_wk hnt | exact .tok rfl | exact .tok (by simp) | exact .lst hnt rfl | exact .gsl (by simp) | exact .empty rfl | exact .nilOwn (by decide) (by decide) rfl | exact .nilGar (by decide) (by decide) rfl | exact .gd (by first | assumption | decide | (simp [*]; done)) (.refl _) | skip)))
      exact .gar rfl (fun i hi => absurd hi (by show ¬ ((i : Int) < 0); omega))
    rintro ⟨k, out⟩ ⟨hk, hp, ho⟩
    (cbv; (try simp only [nc] at *); (try refine Chk.mk (by (try simp only [nc, allc0, allc1, allcE, allcI, Cn.p, and_true, true_and, decide_eq_true_eq, imp_self, List.length_cons, List.length_nil]); all_goals ((repeat' (first | apply And.intro | intro _)) <;> first | omega | rfl | exact Or.inl rfl | assumption | exact nb1 (by assumption) | exact nb2 (by assumption) | exact nb3 (by assumption) | exact nb4 (by assumption) | decide | decide +kernel | (simp [*]; done))) ?_))
    refine ⟨fun hn => ?_, fun hn => ?_⟩
    · simp only [decide_eq_true_eq] at hn
      obtain ⟨m, hm⟩ : ∃ m, (c + 1 - a).toNat - k = m + 1 := ⟨(c + 1 - a).toNat - k - 1, by omega⟩
      have hmu : (c + 1 - a).toNat - (k + 1) + 0 < (c + 1 - a).toNat - k + 0 := by omega
      have hk1 : k + 1 ≤ (c + 1 - a).toNat := by omega
      rw [hm] at hp
      have k116 := c116 L (a + (k : Int)) (by omega) (fun p hp => by have := hLb p hp; omega) (by omega)
      change _ = refGo _ m (a + (k : Int) + 1) (refStep _ out (a + (k : Int))) at hp
      unfold refStep at hp
      generalize hC : cnt L (a + (k : Int)) = C at *
      rw [lst_nt hnt] at k116
      (cbv; (try simp only [nc] at *); (try refine Chk.mk (by (try simp only [nc, allc0, allc1, allcE, allcI, Cn.p, and_true, true_and, decide_eq_true_eq, imp_self, List.length_cons, List.length_nil]); all_goals ((repeat' (first | apply And.intro | intro _)) <;> first | omega | rfl | exact Or.inl rfl | assumption | exact nb1 (by assumption) | exact nb2 (by assumption) | exact nb3 (by assumption) | exact nb4 (by assumption) | decide | decide +kernel | (simp [*]; done))) ?_))
      refine call0 (k116) (by first | rfl | (simp only [zoneA, lst_nt hnt]; rfl)) fun r h₂ hp => ?_
      (try simp only [zoneA, lst_nt hnt] at hp)
      obtain ⟨rfl, rfl⟩ := hp
      (cbv; (try simp only [nc] at *); (try refine Chk.mk (by (try simp only [nc, allc0, allc1, allcE, allcI, Cn.p, and_true, true_and, decide_eq_true_eq, imp_self, List.length_cons, List.length_nil]); all_goals ((repeat' (first | apply And.intro | intro _)) <;> first | omega | rfl | exact Or.inl rfl | assumption | exact nb1 (by assumption) | exact nb2 (by assumption) | exact nb3 (by assumption) | exact nb4 (by assumption) | decide | decide +kernel | (simp [*]; done))) ?_))
      have eq : (bif bif b then ((C : Int) == 0) else false then true else bif !b then decide (1 < (C : Int)) else false) = q (C : Int) := by
        subst hq
        cases b
        · simp [qOf]
        · have e0 : ((C : Int) == 0) = decide (C = 0) := by by_cases h : C = 0 <;> simp [h]
          simp [qOf, e0]
      rw [eq]
      refine ⟨fun h1 => ?_, fun h1 => ?_⟩
      · have h1 : q (C : Int) = false := by simpa using h1
        simp only [hC] at hp
        rw [if_pos h1] at hp
        (cbv; (try simp only [nc] at *); (try refine Chk.mk (by (try simp only [nc, allc0, allc1, allcE, allcI, Cn.p, and_true, true_and, decide_eq_true_eq, imp_self, List.length_cons, List.length_nil]); all_goals ((repeat' (first | apply And.intro | intro _)) <;> first | omega | rfl | exact Or.inl rfl | assumption | exact nb1 (by assumption) | exact nb2 (by assumption) | exact nb3 (by assumption) | exact nb4 (by assumption) | decide | decide +kernel | (simp [*]; done))) ?_))
        refine ⟨(k + 1, out), ⟨hk1, ?_, by show out.length ≤ k + 1; omega⟩, hmu, ?_⟩
        · show spans z q = refGo _ ((c + 1 - a).toNat - (k + 1)) (a + ((k + 1 : Nat) : Int)) out
          rw [show (c + 1 - a).toNat - (k + 1) = m by omega, show a + ((k + 1 : Nat) : Int) = a + (k : Int) + 1 by omega]
          exact hp
        (refine To.of [] ?_; cbv; (try simp only [nc]); (repeat' (first | exact trivial | exact WkN.refl _ | exact WkB.refl _ | refine ⟨?_, ?_⟩ | refine WkB.cells ?_ | refine WkN.agg ?_ | refine WkN.tup ?_)); (all_goals (first | exact .int rfl | exact .int (by first | omega | (simp only [nc]; omega) | (simp; done)) | exact .bool rfl | exact .snoc hnt rfl rfl rfl | exact .snoc hnt rfl rfl (by simp only [encZone, encTrain, lst_nt hnt]; rfl) | exact lit_nt hnt _ _ _ _ rfl | exact take_nt hnt (by omega) | exact lstR_wk hnt | exact .tok rfl | exact .tok (by simp) | exact .lst hnt rfl | exact .gsl (by simp) | exact .empty rfl | exact .nilOwn (by decide) (by decide) rfl | exact .nilGar (by decide) (by decide) rfl | exact .gd (by first | assumption | decide | (simp [*]; done)) (.refl _) | skip)))
      · have h1 : q (C : Int) = true := by simpa using h1
        simp only [hC] at hp
        rw [if_neg (by rw [h1]; exact Bool.noConfusion)] at hp
        (cbv; (try simp only [nc] at *); (try refine Chk.mk (by (try simp only [nc, allc0, allc1, allcE, allcI, Cn.p, and_true, true_and, decide_eq_true_eq, imp_self, List.length_cons, List.length_nil]); all_goals ((repeat' (first | apply And.intro | intro _)) <;> first | omega | rfl | exact Or.inl rfl | assumption | exact nb1 (by assumption) | exact nb2 (by assumption) | exact nb3 (by assumption) | exact nb4 (by assumption) | decide | decide +kernel | (simp [*]; done))) ?_))
        refine ⟨fun h2 => ?_, fun h2 => ?_⟩
        · have hne : 0 < out.length := by
            rcases Nat.eq_zero_or_pos out.length with h | h
            · rw [h] at h2; cases h2
            · exact h
          have h2' : (nt Sp.Span default out ((out.length : Int) - 1)).to_ = a + (k : Int) - 1 := by
            have hd : decide ((0 : Int) < (out.length : Int)) = true := decide_eq_true (by omega)
            rw [hd] at h2
            exact beq_iff_eq.1 h2
          have hlast : out.getLast? = some (nt Sp.Span default out ((out.length : Int) - 1)) := last_nt hnt hne
          rw [hlast] at hp
          replace hp : spans z q = refGo _ m (a + (k : Int) + 1) (if _ = _ then _ else _) := hp
          rw [if_pos h2'] at hp
          have hlen : (out.dropLast ++ [(⟨(nt Sp.Span default out ((out.length : Int) - 1)).fr, a + (k : Int)⟩ : Sp.Span)]).length = out.length := by
            rw [List.length_append, List.length_dropLast, List.length_singleton]; omega
          have hput := span_put hnt hne (n := a + (k : Int))
          have hol : (out.dropLast ++ [(⟨(nt Sp.Span default out ((out.length : Int) - 1)).fr, a + (k : Int)⟩ : Sp.Span)]).length ≤ k + 1 := by rw [hlen]; omega
          generalize out.dropLast ++ [(⟨(nt Sp.Span default out ((out.length : Int) - 1)).fr, a + (k : Int)⟩ : Sp.Span)] = out' at *
          (cbv; (try simp only [nc] at *); (try refine Chk.mk (by (try simp only [nc, allc0, allc1, allcE, allcI, Cn.p, and_true, true_and, decide_eq_true_eq, imp_self, List.length_cons, List.length_nil]); all_goals ((repeat' (first | apply And.intro | intro _)) <;> first | omega | rfl | exact Or.inl rfl | assumption | exact nb1 (by assumption) | exact nb2 (by assumption) | exact nb3 (by assumption) | exact nb4 (by assumption) | decide | decide +kernel | (simp [*]; done))) ?_))
          refine ⟨(k + 1, out'), ⟨hk1, ?_, hol⟩, hmu, ?_⟩
          · show spans z q = refGo _ ((c + 1 - a).toNat - (k + 1)) (a + ((k + 1 : Nat) : Int)) out'
            rw [show (c + 1 - a).toNat - (k + 1) = m by omega, show a + ((k + 1 : Nat) : Int) = a + (k : Int) + 1 by omega]
            exact hp
          (refine To.of [] ?_; cbv; (try simp only [nc]); (repeat' (first | exact trivial | exact WkN.refl _ | exact WkB.refl _ | refine ⟨?_, ?_⟩ | refine WkB.cells ?_ | refine WkN.agg ?_ | refine WkN.tup ?_)); (all_goals (first | exact .int rfl | exact .int (by first | omega | (simp only [nc]; omega) | (simp; done)) | exact .bool rfl | exact .snoc hnt rfl rfl rfl | exact .snoc hnt rfl rfl (by simp only [encZone, encTrain, lst_nt hnt]; rfl) | exact lit_nt hnt _ _ _ _ rfl | exact take_nt hnt (by omega) | exact lstR_wk hnt | exact .tok rfl | exact .tok (by simp) | exact .lst hnt rfl | exact .gsl (by simp) | exact .empty rfl | exact .nilOwn (by decide) (by decide) rfl | exact .nilGar (by decide) (by decide) rfl | exact .gd (by first | assumption | decide | (simp [*]; done)) (.refl _) | skip)))
          · exact .gsl (by show (out.length : Int) = (out'.length : Int); omega)
          · exact .gar (by show (out.length : Int) = (out'.length : Int); omega) fun i hi => hput i (by have : (i : Int) < (out.length : Int) := hi; omega)
        · replace hp : spans z q = refGo (fun n => q (cnt L n : Int)) m (a + (k : Int) + 1) (out ++ [⟨a + (k : Int), a + (k : Int)⟩]) := by
            rw [hp]
            congr 1
            cases ho' : out.getLast? with
            | none => rfl
            | some x =>
              have hne : 0 < out.length := by
                rcases Nat.eq_zero_or_pos out.length with h | h
                · rw [List.eq_nil_of_length_eq_zero h] at ho'; cases ho'
                · exact h
              rw [last_nt hnt hne] at ho'
              have hx : nt Sp.Span default out ((out.length : Int) - 1) = x := Option.some.inj ho'
              have hd : decide ((0 : Int) < (out.length : Int)) = true := decide_eq_true (by omega)
              rw [hd, hx] at h2
              have h2 : (x.to_ == a + (k : Int) - 1) = false := h2
              have h2 : ¬ x.to_ = a + (k : Int) - 1 := fun e => by rw [e] at h2; simp at h2
              show (if _ then _ else _) = _
              rw [if_neg h2]
          obtain ⟨out', he⟩ : ∃ o, o = out ++ [(⟨a + (k : Int), a + (k : Int)⟩ : Sp.Span)] := ⟨_, rfl⟩
          have hlen : out'.length = out.length + 1 := by rw [he, List.length_append, List.length_singleton]
          have hol : out'.length ≤ k + 1 := by omega
          rw [← he] at hp
          have h8 : out'.length ≤ 8 := by
            have := spans_len hz q
            rw [hp] at this
            exact Nat.le_trans (refGo_len _ _ _ _) this
          have h8 : (out.length : Int) + 1 ≤ 1000000 := by omega
          (cbv; (try simp only [nc] at *); (try refine Chk.mk (by (try simp only [nc, allc0, allc1, allcE, allcI, Cn.p, and_true, true_and, decide_eq_true_eq, imp_self, List.length_cons, List.length_nil]); all_goals ((repeat' (first | apply And.intro | intro _)) <;> first | omega | rfl | exact Or.inl rfl | assumption | exact nb1 (by assumption) | exact nb2 (by assumption) | exact nb3 (by assumption) | exact nb4 (by assumption) | decide | decide +kernel | (simp [*]; done))) ?_))
          refine ⟨(k + 1, out'), ⟨hk1, ?_, hol⟩, hmu, ?_⟩
          · show spans z q = refGo _ ((c + 1 - a).toNat - (k + 1)) (a + ((k + 1 : Nat) : Int)) out'
            rw [show (c + 1 - a).toNat - (k + 1) = m by omega, show a + ((k + 1 : Nat) : Int) = a + (k : Int) + 1 by omega]
            exact hp
          clear hp h8 hol hlen h2 eq hQ
          subst he
          (refine To.of [] ?_; cbv; (try simp only [nc]); (repeat' (first | exact trivial | exact WkN.refl _ | exact WkB.refl _ | refine ⟨?_, ?_⟩ | refine WkB.cells ?_ | refine WkN.agg ?_ | refine WkN.tup ?_)); (all_goals (first | exact .int rfl | exact .int (by first | omega | (simp only [nc]; omega) | (simp; done)) | exact .bool rfl | exact .snoc hnt rfl rfl rfl | exact .snoc hnt rfl rfl (by simp only [encZone, encTrain, lst_nt hnt]; rfl) | exact lit_nt hnt _ _ _ _ rfl | exact take_nt hnt (by omega) | exact lstR_wk hnt | exact .tok rfl | exact .tok (by simp) | exact .lst hnt rfl | exact .gsl (by simp) | exact .empty rfl | exact .nilOwn (by decide) (by decide) rfl | exact .nilGar (by decide) (by decide) rfl | exact .gd (by first | assumption | decide | (simp [*]; done)) (.refl _) | skip)))
    · simp only [decide_eq_false_iff_not] at hn
      have eo : refGo (fun n => q (cnt L n : Int)) (c + 1 - a).toNat a [] = out := by
        rw [← e1, hp, show (c + 1 - a).toNat - k = 0 by omega]; rfl
      rw [eo]
      (cbv; (try simp only [nc] at *); (try refine Chk.mk (by (try simp only [nc, allc0, allc1, allcE, allcI, Cn.p, and_true, true_and, decide_eq_true_eq, imp_self, List.length_cons, List.length_nil]); all_goals ((repeat' (first | apply And.intro | intro _)) <;> first | omega | rfl | exact Or.inl rfl | assumption | exact nb1 (by assumption) | exact nb2 (by assumption) | exact nb3 (by assumption) | exact nb4 (by assumption) | decide | decide +kernel | (simp [*]; done))) ?_))
      refine ⟨_, _, ?_, rfl, rfl⟩
      (refine To.of [] ?_; cbv; (try simp only [nc]); (repeat' (first | exact trivial | exact WkN.refl _ | exact WkB.refl _ | refine ⟨?_, ?_⟩ | refine WkB.cells ?_ | refine WkN.agg ?_ | refine WkN.tup ?_)); (all_goals (first | exact .int rfl | exact .int (by first | omega | (simp only [nc]; omega) | (simp; done)) | exact .bool rfl | exact .snoc hnt rfl rfl rfl | exact .snoc hnt rfl rfl (by simp only [encZone, encTrain, lst_nt hnt]; rfl) | exact lit_nt hnt _ _ _ _ rfl | exact take_nt hnt (by omega) | exact lstR_wk hnt | exact .tok rfl | exact .tok (by simp) | exact .lst hnt rfl | exact .gsl (by simp) | exact .empty rfl | exact .nilOwn (by decide) (by decide) rfl | exact .nilGar (by decide) (by decide) rfl | exact .gd (by first | assumption | decide | (simp [*]; done)) (.refl _) | skip)))
end Go.Proofs.Ytlcgliadpalgfaa.Vm
