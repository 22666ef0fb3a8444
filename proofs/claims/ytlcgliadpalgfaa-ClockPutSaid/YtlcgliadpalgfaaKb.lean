/- Contracts: zones made of numbers. -/
import Derived.Test.YtlcgliadpalgfaaKa
set_option linter.unusedSimpArgs false
set_option linter.unusedVariables false
namespace Go.Proofs.Ytlcgliadpalgfaa.Vm
open Go Go.Proofs Sp
set_option maxRecDepth 100000
set_option maxHeartbeats 800000

def ByOk (n : Int) : Prop := n = 60 ∨ n = -60 ∨ n = 30 ∨ n = -90 ∨ (1 ≤ n ∧ n ≤ 20)
/-- A zone that is made of numbers. -/
structure ZMade (k : Int) (z : Sp.Zone) : Prop where
  base : -120 ≤ z.base ∧ z.base ≤ 120
  len : (z.chs.length : Int) ≤ k ∨ z.chs.length = 0
  asc : z.chs.Pairwise fun a b => a.at_ < b.at_
  at_ : ∀ c ∈ z.chs, 0 ≤ c.at_ ∧ c.at_ ≤ 1500 + 2000 * ((z.chs.length : Int) - 1)
  by_ : ∀ c ∈ z.chs, ByOk c.by_

theorem lit_lst {α : Type} {n k sz : Nat} (enc : α → List AV) (d : α) (l : List α) : WkN n k (islLit sz (l.map enc)) (lst sz enc d l) :=
  .none (by simp) fun i hi => by
    have hi : i < l.length := by simpa using hi
    show (l.map enc).getD i _ = enc (l.getD i d)
    simp [List.getD_eq_getElem?_getD, List.getElem?_eq_getElem hi]
theorem c81L (s : Int) (l : List Int) (hl : 0 < l.length ∧ l.length ≤ 1000000) : SC (fun _ => Try.prog) 81 [.ptr 0 0, islLit 1 (l.map encI)] [bagB s] fun r h => ∃ x s' : Int, x ∈ l ∧ r = .int .i64 (fun _ => x) ∧ h = [bagB s'] :=
  SC.to (xs₂ := [.ptr 0 0, lst 1 encI 0 l]) (h₂ := [bagB s]) (To.of [] ⟨⟨.refl _, lit_lst encI 0 l, trivial⟩, .refl _, trivial⟩) (c81 s l hl)

theorem c29 (s k : Int) (hk : k ≤ 10) : SC (fun _ => Try.prog) 29 [.ptr 0 0, .int .i64 fun _ => k] [bagB s] fun r h => ∃ (z : Sp.Zone) (s' : Int), ZMade k z ∧ r = zoneA z ∧ h = [bagB s'] := by
  obtain ⟨nt, hnt⟩ := nth_ex
  refine SC.less (con Try.func29 (body := bodyOf Try.f29) rfl (by decide +kernel) ?_)
  (cbv; (try simp only [nc] at *); (try refine Chk.mk (by (try simp only [nc, allc0, allc1, allcE, allcI, Cn.p, and_true, true_and, decide_eq_true_eq, imp_self, List.length_cons, List.length_nil]); all_goals ((repeat' (first | apply And.intro | intro _)) <;> first | omega | rfl | exact Or.inl rfl | assumption | exact nb1 (by assumption) | exact nb2 (by assumption) | exact nb3 (by assumption) | exact nb4 (by assumption) | decide | decide +kernel | (simp [*]; done))) ?_))
  refine callL [0] (c22 s (-4) 4 (by omega) (by omega)) (by decide) (by simp) rfl rfl fun r h₂ hp => ?_
  obtain ⟨b, s1, hb, rfl, rfl⟩ := hp
  (cbv; (try simp only [nc] at *); (try refine Chk.mk (by (try simp only [nc, allc0, allc1, allcE, allcI, Cn.p, and_true, true_and, decide_eq_true_eq, imp_self, List.length_cons, List.length_nil]); all_goals ((repeat' (first | apply And.intro | intro _)) <;> first | omega | rfl | exact Or.inl rfl | assumption | exact nb1 (by assumption) | exact nb2 (by assumption) | exact nb3 (by assumption) | exact nb4 (by assumption) | decide | decide +kernel | (simp [*]; done))) ?_))
  refine callL [0] (c17 s1 1500 (by omega)) (by decide) (by simp) rfl rfl fun r h₂ hp => ?_
  obtain ⟨a, s2, ha, rfl, rfl⟩ := hp
  (cbv; (try simp only [nc] at *); (try refine Chk.mk (by (try simp only [nc, allc0, allc1, allcE, allcI, Cn.p, and_true, true_and, decide_eq_true_eq, imp_self, List.length_cons, List.length_nil]); all_goals ((repeat' (first | apply And.intro | intro _)) <;> first | omega | rfl | exact Or.inl rfl | assumption | exact nb1 (by assumption) | exact nb2 (by assumption) | exact nb3 (by assumption) | exact nb4 (by assumption) | decide | decide +kernel | (simp [*]; done))) ?_))
  refine callL [0] (c17 s2 k (by omega)) (by decide) (by simp) rfl rfl fun r h₂ hp => ?_
  obtain ⟨n, s3, hn, rfl, rfl⟩ := hp
  (cbv; (try simp only [nc] at *); (try refine Chk.mk (by (try simp only [nc, allc0, allc1, allcE, allcI, Cn.p, and_true, true_and, decide_eq_true_eq, imp_self, List.length_cons, List.length_nil]); all_goals ((repeat' (first | apply And.intro | intro _)) <;> first | omega | rfl | exact Or.inl rfl | assumption | exact nb1 (by assumption) | exact nb2 (by assumption) | exact nb3 (by assumption) | exact nb4 (by assumption) | decide | decide +kernel | (simp [*]; done))) ?_))
  refine loopA [0, 4, 5, 6, 7] (fun (⟨i, t, s, l⟩ : Int × Int × Int × List Chg) => mkS 43 [(0, .ptr 0 0), (4, .ptr 1 0), (5, .ptr 2 0), (6, .int .i64 fun _ => t), (7, .int .i64 fun _ => i)])
    (fun ⟨i, t, s, l⟩ => [bagB s, .cells [.int .i64 fun _ => 0, .isl 0 (fun _ => 0) (fun _ => []) .nil], .cells [.int .i64 fun _ => 30 * b, .isl 2 (fun _ => (l.length : Int)) (fun e => encChg (nt Chg default l (e ()))) (.own 3)], .tok 2 fun _ => (l.length : Int)])
    (fun ⟨i, t, s, l⟩ => 0 ≤ i ∧ (l.length + i ≤ k ∨ (l.length : Int) + i = 0) ∧ 0 ≤ t ∧ t ≤ 1500 + 2000 * (l.length : Int) ∧ l.Pairwise (fun a b => a.at_ < b.at_) ∧ (∀ c ∈ l, 0 ≤ c.at_ ∧ c.at_ < t ∧ c.at_ ≤ 1500 + 2000 * ((l.length : Int) - 1)) ∧ ∀ c ∈ l, ByOk c.by_)
    (fun i => i.1.toNat + 0) (n, a, s3, []) 4 (fun _ => rfl) ⟨by omega, by simp; omega, by omega, by simp; omega, .nil, by simp, by simp⟩ (To.of [(2, false)] ?_) ?_
  · cbv
    exact ⟨⟨.refl _, .refl _, .refl _, .refl _, .refl _, trivial⟩, .refl _, .refl _, .cells ⟨.refl _, .nilOwn (by decide) (by decide) rfl, trivial⟩, .tok rfl, trivial⟩
  rintro ⟨i, t, s, l⟩ ⟨hi, hlen, ht0, ht, hpw, hat, hby⟩
  (cbv; (try simp only [nc] at *); (try refine Chk.mk (by (try simp only [nc, allc0, allc1, allcE, allcI, Cn.p, and_true, true_and, decide_eq_true_eq, imp_self, List.length_cons, List.length_nil]); all_goals ((repeat' (first | apply And.intro | intro _)) <;> first | omega | rfl | exact Or.inl rfl | assumption | exact nb1 (by assumption) | exact nb2 (by assumption) | exact nb3 (by assumption) | exact nb4 (by assumption) | decide | decide +kernel | (simp [*]; done))) ?_))
  refine ⟨fun hb => ?_, fun hb => ?_⟩
  · simp only [gt_iff_lt, decide_eq_true_eq] at hb
    (cbv; (try simp only [nc] at *); (try refine Chk.mk (by (try simp only [nc, allc0, allc1, allcE, allcI, Cn.p, and_true, true_and, decide_eq_true_eq, imp_self, List.length_cons, List.length_nil]); all_goals ((repeat' (first | apply And.intro | intro _)) <;> first | omega | rfl | exact Or.inl rfl | assumption | exact nb1 (by assumption) | exact nb2 (by assumption) | exact nb3 (by assumption) | exact nb4 (by assumption) | decide | decide +kernel | (simp [*]; done))) ?_))
    refine callL [0] (c22 s 1 20 (by omega) (by omega)) (by decide) (by simp) rfl rfl fun r h₂ hp => ?_
    obtain ⟨x, s1, hx, rfl, rfl⟩ := hp
    (cbv; (try simp only [nc] at *); (try refine Chk.mk (by (try simp only [nc, allc0, allc1, allcE, allcI, Cn.p, and_true, true_and, decide_eq_true_eq, imp_self, List.length_cons, List.length_nil]); all_goals ((repeat' (first | apply And.intro | intro _)) <;> first | omega | rfl | exact Or.inl rfl | assumption | exact nb1 (by assumption) | exact nb2 (by assumption) | exact nb3 (by assumption) | exact nb4 (by assumption) | decide | decide +kernel | (simp [*]; done))) ?_))
    refine callL [0] (c81L s1 [60, -60, 30, -90, x] (by simp)) (by decide) (by simp) rfl rfl fun r h₂ hp => ?_
    obtain ⟨y, s2, hy, rfl, rfl⟩ := hp
    (cbv; (try simp only [nc] at *); (try refine Chk.mk (by (try simp only [nc, allc0, allc1, allcE, allcI, Cn.p, and_true, true_and, decide_eq_true_eq, imp_self, List.length_cons, List.length_nil]); all_goals ((repeat' (first | apply And.intro | intro _)) <;> first | omega | rfl | exact Or.inl rfl | assumption | exact nb1 (by assumption) | exact nb2 (by assumption) | exact nb3 (by assumption) | exact nb4 (by assumption) | decide | decide +kernel | (simp [*]; done))) ?_))
    refine callL [0] (c22 s2 1 40 (by omega) (by omega)) (by decide) (by simp) rfl rfl fun r h₂ hp => ?_
    obtain ⟨u, s3, hu, rfl, rfl⟩ := hp
    (cbv; (try simp only [nc] at *); (try refine Chk.mk (by (try simp only [nc, allc0, allc1, allcE, allcI, Cn.p, and_true, true_and, decide_eq_true_eq, imp_self, List.length_cons, List.length_nil]); all_goals ((repeat' (first | apply And.intro | intro _)) <;> first | omega | rfl | exact Or.inl rfl | assumption | exact nb1 (by assumption) | exact nb2 (by assumption) | exact nb3 (by assumption) | exact nb4 (by assumption) | decide | decide +kernel | (simp [*]; done))) ?_))
    refine callL [0] (c22 s3 100 2000 (by omega) (by omega)) (by decide) (by simp) rfl rfl fun r h₂ hp => ?_
    obtain ⟨v, s4, hv, rfl, rfl⟩ := hp
    (cbv; (try simp only [nc] at *); (try refine Chk.mk (by (try simp only [nc, allc0, allc1, allcE, allcI, Cn.p, and_true, true_and, decide_eq_true_eq, imp_self, List.length_cons, List.length_nil]); all_goals ((repeat' (first | apply And.intro | intro _)) <;> first | omega | rfl | exact Or.inl rfl | assumption | exact nb1 (by assumption) | exact nb2 (by assumption) | exact nb3 (by assumption) | exact nb4 (by assumption) | decide | decide +kernel | (simp [*]; done))) ?_))
    refine callL [0] (c81L s4 [u, v] (by simp)) (by decide) (by simp) rfl rfl fun r h₂ hp => ?_
    obtain ⟨q, s5, hq, rfl, rfl⟩ := hp
    have hq : 1 ≤ q ∧ q ≤ 2000 := by simp at hq; omega
    (cbv; (try simp only [nc] at *); (try refine Chk.mk (by (try simp only [nc, allc0, allc1, allcE, allcI, Cn.p, and_true, true_and, decide_eq_true_eq, imp_self, List.length_cons, List.length_nil]); all_goals ((repeat' (first | apply And.intro | intro _)) <;> first | omega | rfl | exact Or.inl rfl | assumption | exact nb1 (by assumption) | exact nb2 (by assumption) | exact nb3 (by assumption) | exact nb4 (by assumption) | decide | decide +kernel | (simp [*]; done))) ?_))
    have hlen' : ((l ++ [(⟨t, y⟩ : Chg)]).length : Int) = l.length + 1 := by simp
    refine ⟨(i - 1, t + q, s5, l ++ [⟨t, y⟩]), ⟨by dsimp only; omega, by dsimp only; omega, by dsimp only; omega, by dsimp only; omega, ?_, ?_, ?_⟩, by show (i - 1).toNat + 0 < i.toNat + 0; omega, To.of [] ?_⟩
    · refine List.pairwise_append.2 ⟨hpw, List.pairwise_singleton _ _, fun c hc d hd => ?_⟩
      simp only [List.mem_singleton] at hd
      subst hd
      exact (hat c hc).2.1
    · intro c hc
      rw [hlen']
      dsimp only
      rcases List.mem_append.1 hc with hc | hc
      · have := hat c hc
        omega
      · simp only [List.mem_singleton] at hc
        subst hc
        dsimp only
        omega
    · intro c hc
      rcases List.mem_append.1 hc with hc | hc
      · exact hby c hc
      · simp only [List.mem_singleton] at hc
        subst hc
        simp at hy
        unfold ByOk
        dsimp only
        omega
    · cbv
      exact ⟨⟨.refl _, .refl _, .refl _, .refl _, .refl _, trivial⟩, .refl _, .refl _, .cells ⟨.refl _, .snoc hnt rfl rfl rfl, trivial⟩, .tok (by simp), trivial⟩
  · simp only [decide_eq_false_iff_not] at hb
    (cbv; (try simp only [nc] at *); (try refine Chk.mk (by (try simp only [nc, allc0, allc1, allcE, allcI, Cn.p, and_true, true_and, decide_eq_true_eq, imp_self, List.length_cons, List.length_nil]); all_goals ((repeat' (first | apply And.intro | intro _)) <;> first | omega | rfl | exact Or.inl rfl | assumption | exact nb1 (by assumption) | exact nb2 (by assumption) | exact nb3 (by assumption) | exact nb4 (by assumption) | decide | decide +kernel | (simp [*]; done))) ?_))
    exact ⟨zoneA ⟨30 * b, l⟩, [bagB s], To.of [] ⟨⟨.agg ⟨.refl _, .lst hnt rfl, trivial⟩, trivial⟩, .refl _, trivial⟩, ⟨30 * b, l⟩, _, ⟨by dsimp only; omega, by dsimp only; omega, hpw, fun c hc => by have := hat c hc; dsimp only; omega, hby⟩, rfl, rfl⟩
end Go.Proofs.Ytlcgliadpalgfaa.Vm
