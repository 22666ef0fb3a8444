/- The statement ClockSoonest: no choice of runs comes earlier. -/
import Derived.Test.YtlcgliadpalgfaaRw
import Derived.Test.YtlcgliadpalgfaaRv
set_option linter.unusedSimpArgs false
set_option linter.unusedVariables false
namespace Go.Proofs.Ytlcgliadpalgfaa.Vm
open Go Go.Proofs Sp
set_option maxRecDepth 100000
set_option maxHeartbeats 1600000

theorem legs_check {b : Book} (hchk : Check b = 0) {n : Int} {L : List Sp.Leg} (h : LegsMade n L) (h1 : 1 ≤ L.length) (h4 : L.length ≤ 4) : checkLegs b L = 0 := by
  unfold checkLegs
  rw [hchk, if_neg (fun h => h rfl), counted_of (by omega) (by omega), if_neg (fun h => h rfl)]
  refine firstErr_zero fun i _ hi => ?_
  have hi : i < L.length := by omega
  unfold legErr
  have hm : L.getD i default ∈ L := by rw [List.getD_eq_getElem?_getD, List.getElem?_eq_getElem hi]; exact List.getElem_mem _
  rw [if_neg (h.ne _ hm), if_neg ?_]
  rintro ⟨h0, hne⟩
  have := h.chain (i - 1) (by omega)
  rw [show i - 1 + 1 = i by omega] at this
  exact hne this

def encRowN (nt : (α : Type) → α → List α → Int → α) (R : List Sp.Ride) : List AV := [.isl 3 (fun _ => (R.length : Int)) (fun e => encRide (nt Sp.Ride default R (e ()))) .none]

theorem some_step {R : List Sp.Ride} {k : Nat} {x z : Sp.Ride} {sm : Bool} (htk : R.take (k + 1) = R.take k ++ [z]) (hsm : sm = true ↔ x ∈ R.take k) : (bif sm then true else z.day == x.day && (z.depart == x.depart && (z.arrive == x.arrive && true))) = true ↔ x ∈ R.take (k + 1) := by
  rw [htk, List.mem_append, List.mem_singleton]
  obtain ⟨z1, z2, z3⟩ := z
  obtain ⟨x1, x2, x3⟩ := x
  cases sm
  · have : ¬ _ := fun h => Bool.false_ne_true (hsm.2 h)
    simp only [this, false_or, cond_false, Bool.and_eq_true, beq_iff_eq, and_true, Sp.Ride.mk.injEq]
    constructor <;> (rintro ⟨rfl, rfl, rfl⟩; exact ⟨rfl, rfl, rfl⟩)
  · simp [hsm.1 rfl]

theorem c3 (l : List Int) (hl : (l.length : Int) ≤ 9223372036854775807) : SC (fun _ => Try.prog) 3 [lst 1 encI 0 l] [] fun r h => r = .bool (fun _ => true) := by
  obtain ⟨nt, hnt⟩ := nth_ex
  refine conX false false [] Try.func3 (body := bodyOf Try.f3) rfl (by decide +kernel) ?_
  (cbv; (try simp only [nc] at *); (try refine Chk.mk (by (try simp only [nc, allc0, allc1, allcE, allcI, Cn.p, and_true, true_and, decide_eq_true_eq, imp_self, List.length_cons, List.length_nil]); all_goals ((repeat' (first | apply And.intro | intro _)) <;> first | omega | rfl | exact Or.inl rfl | assumption | exact nb1 (by assumption) | exact nb2 (by assumption) | exact nb3 (by assumption) | exact nb4 (by assumption) | decide | decide +kernel | (simp [*]; done))) ?_))
  refine call0 (c14 l hl) (by first | rfl | (simp only [zoneA, bookA, lst_nt hnt]; rfl)) fun r h₂ hp => ?_
  (try simp only [zoneA, bookA, lst_nt hnt] at hp)
  obtain ⟨s, rfl, rfl⟩ := hp
  (cbv; (try simp only [nc] at *); (try refine Chk.mk (by (try simp only [nc, allc0, allc1, allcE, allcI, Cn.p, and_true, true_and, decide_eq_true_eq, imp_self, List.length_cons, List.length_nil]); all_goals ((repeat' (first | apply And.intro | intro _)) <;> first | omega | rfl | exact Or.inl rfl | assumption | exact nb1 (by assumption) | exact nb2 (by assumption) | exact nb3 (by assumption) | exact nb4 (by assumption) | decide | decide +kernel | (simp [*]; done))) ?_))
  refine callL [0] (c15 s 2 3 (by omega) (by omega)) (by decide) (by simp) (by first | rfl | (simp only [zoneA, bookA, lst_nt hnt]; rfl)) (by first | rfl | (simp only [zoneA, bookA, lst_nt hnt]; rfl)) fun r h₂ hp => ?_
  (try simp only [zoneA, bookA, lst_nt hnt] at hp)
  obtain ⟨b, s', hb, rfl, rfl⟩ := hp
  have hchk := made_check hb (by omega) (by omega)
  have hok := book_ok hchk
  have hfit := made_fit hb (by omega) (by omega)
  have hlast := hok.last
  have k20 := fun g => c20 b g hb hchk hfit
  (cbv; (try simp only [nc] at *); (try refine Chk.mk (by (try simp only [nc, allc0, allc1, allcE, allcI, Cn.p, and_true, true_and, decide_eq_true_eq, imp_self, List.length_cons, List.length_nil]); all_goals ((repeat' (first | apply And.intro | intro _)) <;> first | omega | rfl | exact Or.inl rfl | assumption | exact nb1 (by assumption) | exact nb2 (by assumption) | exact nb3 (by assumption) | exact nb4 (by assumption) | decide | decide +kernel | (simp [*]; done))) ?_))
  refine callL [0] (c16 s' 3 b hb (by omega) (by omega)) (by decide) (by simp) (by first | rfl | (simp only [zoneA, bookA, lst_nt hnt]; rfl)) (by first | rfl | (simp only [zoneA, bookA, lst_nt hnt]; rfl)) fun r h₂ hp => ?_
  (try simp only [zoneA, bookA, lst_nt hnt] at hp)
  obtain ⟨L, s1, hL, rfl, rfl⟩ := hp
  have hLl := hL.len
  (cbv; (try simp only [nc] at *); (try refine Chk.mk (by (try simp only [nc, allc0, allc1, allcE, allcI, Cn.p, and_true, true_and, decide_eq_true_eq, imp_self, List.length_cons, List.length_nil]); all_goals ((repeat' (first | apply And.intro | intro _)) <;> first | omega | rfl | exact Or.inl rfl | assumption | exact nb1 (by assumption) | exact nb2 (by assumption) | exact nb3 (by assumption) | exact nb4 (by assumption) | decide | decide +kernel | (simp [*]; done))) ?_))
  refine callL [0] (c17 s1 1500 (by omega)) (by decide) (by simp) (by first | rfl | (simp only [zoneA, bookA, lst_nt hnt]; rfl)) (by first | rfl | (simp only [zoneA, bookA, lst_nt hnt]; rfl)) fun r h₂ hp => ?_
  (try simp only [zoneA, bookA, lst_nt hnt] at hp)
  obtain ⟨a, s2, ha, rfl, rfl⟩ := hp
  (cbv; (try simp only [nc] at *); (try refine Chk.mk (by (try simp only [nc, allc0, allc1, allcE, allcI, Cn.p, and_true, true_and, decide_eq_true_eq, imp_self, List.length_cons, List.length_nil]); all_goals ((repeat' (first | apply And.intro | intro _)) <;> first | omega | rfl | exact Or.inl rfl | assumption | exact nb1 (by assumption) | exact nb2 (by assumption) | exact nb3 (by assumption) | exact nb4 (by assumption) | decide | decide +kernel | (simp [*]; done))) ?_))
  refine ⟨fun hb1 => ?_, fun hb1 => ?_⟩
  · (cbv; (try simp only [nc] at *); (try refine Chk.mk (by (try simp only [nc, allc0, allc1, allcE, allcI, Cn.p, and_true, true_and, decide_eq_true_eq, imp_self, List.length_cons, List.length_nil]); all_goals ((repeat' (first | apply And.intro | intro _)) <;> first | omega | rfl | exact Or.inl rfl | assumption | exact nb1 (by assumption) | exact nb2 (by assumption) | exact nb3 (by assumption) | exact nb4 (by assumption) | decide | decide +kernel | (simp [*]; done))) ?_))
    refine call0 (c18) (by first | rfl | (simp only [zoneA, bookA, lst_nt hnt]; rfl)) fun r h₂ hp => ?_
    (try simp only [zoneA, bookA, lst_nt hnt] at hp)
    obtain ⟨rfl, rfl⟩ := hp
    (cbv; (try simp only [nc] at *); (try refine Chk.mk (by (try simp only [nc, allc0, allc1, allcE, allcI, Cn.p, and_true, true_and, decide_eq_true_eq, imp_self, List.length_cons, List.length_nil]); all_goals ((repeat' (first | apply And.intro | intro _)) <;> first | omega | rfl | exact Or.inl rfl | assumption | exact nb1 (by assumption) | exact nb2 (by assumption) | exact nb3 (by assumption) | exact nb4 (by assumption) | decide | decide +kernel | (simp [*]; done))) ?_))
  have hl1 : 1 ≤ L.length := by rw [beq_eq_false_iff_ne] at hb1; omega
  have hchkL := legs_check hchk hL hl1 (by omega)
  have hT : (Trip b L a = ([], 11) ∧ greedy (L.map (rides b)) a = none) ∨ ∃ t, Trip b L a = (t, 0) ∧ t.length = L.length ∧ TripOk (L.map (rides b)) a t ∧ greedy (L.map (rides b)) a = some (comes a t) := by
    unfold Trip
    rw [hchkL, if_neg (fun h => h rfl), inB_of (by omega) (by omega), if_neg (by simp)]
    rcases trip_greedy b L a [] with ⟨h1, h2⟩ | ⟨t, h1, h2, h3, h4⟩
    · exact .inl ⟨by rw [if_pos h1], h2⟩
    · exact .inr ⟨t, by rw [h1]; rfl, h2, h3, h4⟩
  have k19 := c19 b hfit L a (by omega)
  have hTl : (Trip b L a).2 = 0 ∧ (Trip b L a).1.length = L.length ∨ (Trip b L a).2 = 11 ∧ (Trip b L a).1.length = 0 := by
    rcases hT with ⟨h1, _⟩ | ⟨t, h1, h2, _⟩
    · rw [h1]; exact .inr ⟨rfl, rfl⟩
    · rw [h1]; exact .inl ⟨rfl, h2⟩
  generalize hTT : Trip b L a = T at *
  have hfine : ∀ g x, x ∈ rides b g → 0 ≤ x.depart ∧ x.depart ≤ x.arrive := fun g x hx => rides_asc hok hx
  have hrl := fun g => rides_len hok g
  unfold legA at k20
  simp only [lst_nt hnt] at k20 k19
  (cbv; (try simp only [nc] at *); (try refine Chk.mk (by (try simp only [nc, allc0, allc1, allcE, allcI, Cn.p, and_true, true_and, decide_eq_true_eq, imp_self, List.length_cons, List.length_nil]); all_goals ((repeat' (first | apply And.intro | intro _)) <;> first | omega | rfl | exact Or.inl rfl | assumption | exact nb1 (by assumption) | exact nb2 (by assumption) | exact nb3 (by assumption) | exact nb4 (by assumption) | decide | decide +kernel | (simp [*]; done))) ?_))
  refine call0 (k19) (by first | rfl | (simp only [zoneA, bookA, lst_nt hnt]; rfl)) fun r h₂ hp => ?_
  (try simp only [zoneA, bookA, lst_nt hnt] at hp)
  obtain ⟨rfl, rfl⟩ := hp
  (cbv; (try simp only [nc] at *); (try refine Chk.mk (by (try simp only [nc, allc0, allc1, allcE, allcI, Cn.p, and_true, true_and, decide_eq_true_eq, imp_self, List.length_cons, List.length_nil]); all_goals ((repeat' (first | apply And.intro | intro _)) <;> first | omega | rfl | exact Or.inl rfl | assumption | exact nb1 (by assumption) | exact nb2 (by assumption) | exact nb3 (by assumption) | exact nb4 (by assumption) | decide | decide +kernel | (simp [*]; done))) ?_))
  refine loopS false false [] [4, 5, 6, 7, 8, 9, 10] [.tok 1 fun _ => 0] (fun (i : Nat) => [(9, .isl 1 (fun _ => (((L.take i).map (rides b)).length : Int)) (fun e => encRowN nt (nt (List Sp.Ride) [] ((L.take i).map (rides b)) (e ()))) (.own 2)), (10, .int .i64 fun _ => (i : Int))]) (fun i => [(2, .tok 1 fun _ => (((L.take i).map (rides b)).length : Int))]) (fun i => i ≤ L.length ∧ ∀ R ∈ (L.take i).map (rides b), NoOver R) (fun i => L.length - i + 0) 0 ⟨Nat.zero_le _, by simp⟩ ?_ ?_
  · (refine To.of [(1,false)] ?_; cbv; (try simp only [nc]); (repeat' (first | exact trivial | exact WkN.refl _ | exact WkB.refl _ | refine ⟨?_, ?_⟩ | refine WkB.cells ?_ | refine WkN.agg ?_ | refine WkN.tup ?_)); (all_goals (first | exact .int rfl | exact .int (by first | omega | (simp only [nc]; omega) | (simp; done)) | exact .bool rfl | exact .snoc hnt rfl rfl rfl | exact .snoc hnt rfl rfl (by simp only [encZone, encTrain, lst_nt hnt]; rfl) | exact lit_nt hnt _ _ _ _ rfl | exact take_nt hnt (by omega) | exact lstR_wk hnt | exact .tok rfl | exact .tok (by simp) | exact .lst hnt rfl | exact .gsl (by simp) | exact .empty rfl | exact .nilOwn (by decide) (by decide) rfl | exact .nilGar (by decide) (by decide) rfl | exact .gd (by first | assumption | decide | (simp [*]; done)) (.refl _) | skip)))
  rintro i ⟨hi, hno⟩
  (cbv; (try simp only [nc] at *); (try refine Chk.mk (by (try simp only [nc, allc0, allc1, allcE, allcI, Cn.p, and_true, true_and, decide_eq_true_eq, imp_self, List.length_cons, List.length_nil]); all_goals ((repeat' (first | apply And.intro | intro _)) <;> first | omega | rfl | exact Or.inl rfl | assumption | exact nb1 (by assumption) | exact nb2 (by assumption) | exact nb3 (by assumption) | exact nb4 (by assumption) | decide | decide +kernel | (simp [*]; done))) ?_))
  refine ⟨fun hb2 => ?_, fun hb2 => ?_⟩
  · simp only [decide_eq_true_eq] at hb2
    have hi' : i < L.length := by omega
    have k20 := k20 (nt Sp.Leg default L (i : Int))
    have hrl := hrl (nt Sp.Leg default L (i : Int))
    have hnx : (L.take (i + 1)).map (rides b) = (L.take i).map (rides b) ++ [rides b (nt Sp.Leg default L (i : Int))] := by
      rw [nt_take (d := default) hnt (l := L) (i := i) hi', List.map_append]; rfl
    generalize rides b (nt Sp.Leg default L (i : Int)) = R at *
    have hAl : ((L.take i).map (rides b)).length ≤ 3 := by rw [List.length_map, List.length_take]; omega
    generalize (L.take i).map (rides b) = A at *
    (cbv; (try simp only [nc] at *); (try refine Chk.mk (by (try simp only [nc, allc0, allc1, allcE, allcI, Cn.p, and_true, true_and, decide_eq_true_eq, imp_self, List.length_cons, List.length_nil]); all_goals ((repeat' (first | apply And.intro | intro _)) <;> first | omega | rfl | exact Or.inl rfl | assumption | exact nb1 (by assumption) | exact nb2 (by assumption) | exact nb3 (by assumption) | exact nb4 (by assumption) | decide | decide +kernel | (simp [*]; done))) ?_))
    refine call0 (k20) (by first | rfl | (simp only [zoneA, bookA, lst_nt hnt]; rfl)) fun r h₂ hp => ?_
    (try simp only [zoneA, bookA, lst_nt hnt] at hp)
    obtain ⟨rfl, rfl⟩ := hp
    (cbv; (try simp only [nc] at *); (try refine Chk.mk (by (try simp only [nc, allc0, allc1, allcE, allcI, Cn.p, and_true, true_and, decide_eq_true_eq, imp_self, List.length_cons, List.length_nil]); all_goals ((repeat' (first | apply And.intro | intro _)) <;> first | omega | rfl | exact Or.inl rfl | assumption | exact nb1 (by assumption) | exact nb2 (by assumption) | exact nb3 (by assumption) | exact nb4 (by assumption) | decide | decide +kernel | (simp [*]; done))) ?_))
    refine Br.isF rfl ?_
    (cbv; (try simp only [nc] at *); (try refine Chk.mk (by (try simp only [nc, allc0, allc1, allcE, allcI, Cn.p, and_true, true_and, decide_eq_true_eq, imp_self, List.length_cons, List.length_nil]); all_goals ((repeat' (first | apply And.intro | intro _)) <;> first | omega | rfl | exact Or.inl rfl | assumption | exact nb1 (by assumption) | exact nb2 (by assumption) | exact nb3 (by assumption) | exact nb4 (by assumption) | decide | decide +kernel | (simp [*]; done))) ?_))
    refine loopQ fun Q hQ => ?_
    refine loopS false false [] [4, 5, 6, 7, 8, 9, 10, 11, 13] [] (fun (k : Nat) => [(13, .int .i64 fun _ => (k : Int))]) (fun _ => []) (fun k => k ≤ R.length ∧ ∀ k' m, k' < k → m < R.length → ((R.getD k' default).depart < (R.getD m default).depart ∨ (R.getD k' default).depart = (R.getD m default).depart ∧ k' < m) → (R.getD k' default).arrive ≤ (R.getD m default).arrive) (fun k => R.length - k + 0) 0 ⟨Nat.zero_le _, fun k' m h => by omega⟩ ?_ ?_
    · (refine To.of [] ?_; cbv; (try simp only [nc]); (repeat' (first | exact trivial | exact WkN.refl _ | exact WkB.refl _ | refine ⟨?_, ?_⟩ | refine WkB.cells ?_ | refine WkN.agg ?_ | refine WkN.tup ?_)); (all_goals (first | exact .int rfl | exact .int (by first | omega | (simp only [nc]; omega) | (simp; done)) | exact .bool rfl | exact .snoc hnt rfl rfl rfl | exact .snoc hnt rfl rfl (by simp only [encZone, encTrain, lst_nt hnt]; rfl) | exact lit_nt hnt _ _ _ _ rfl | exact take_nt hnt (by omega) | exact lstR_wk hnt | exact .tok rfl | exact .tok (by simp) | exact .lst hnt rfl | exact .gsl (by simp) | exact .empty rfl | exact .nilOwn (by decide) (by decide) rfl | exact .nilGar (by decide) (by decide) rfl | exact .gd (by first | assumption | decide | (simp [*]; done)) (.refl _) | skip)))
    rintro k ⟨hk, hok1⟩
    (cbv; (try simp only [nc] at *); (try refine Chk.mk (by (try simp only [nc, allc0, allc1, allcE, allcI, Cn.p, and_true, true_and, decide_eq_true_eq, imp_self, List.length_cons, List.length_nil]); all_goals ((repeat' (first | apply And.intro | intro _)) <;> first | omega | rfl | exact Or.inl rfl | assumption | exact nb1 (by assumption) | exact nb2 (by assumption) | exact nb3 (by assumption) | exact nb4 (by assumption) | decide | decide +kernel | (simp [*]; done))) ?_))
    refine ⟨fun hb3 => ?_, fun hb3 => ?_⟩
    · simp only [decide_eq_true_eq] at hb3
      (cbv; (try simp only [nc] at *); (try refine Chk.mk (by (try simp only [nc, allc0, allc1, allcE, allcI, Cn.p, and_true, true_and, decide_eq_true_eq, imp_self, List.length_cons, List.length_nil]); all_goals ((repeat' (first | apply And.intro | intro _)) <;> first | omega | rfl | exact Or.inl rfl | assumption | exact nb1 (by assumption) | exact nb2 (by assumption) | exact nb3 (by assumption) | exact nb4 (by assumption) | decide | decide +kernel | (simp [*]; done))) ?_))
      refine loopQ fun Q2 hQ2 => ?_
      refine loopS false false [] [4, 5, 6, 7, 8, 9, 10, 11, 13, 14] [] (fun (m : Nat) => [(14, .int .i64 fun _ => (m : Int))]) (fun _ => []) (fun m => m ≤ R.length ∧ ∀ m', m' < m → ((R.getD k default).depart < (R.getD m' default).depart ∨ (R.getD k default).depart = (R.getD m' default).depart ∧ k < m') → (R.getD k default).arrive ≤ (R.getD m' default).arrive) (fun m => R.length - m + 0) 0 ⟨Nat.zero_le _, fun m' h => by omega⟩ ?_ ?_
      · (refine To.of [] ?_; cbv; (try simp only [nc]); (repeat' (first | exact trivial | exact WkN.refl _ | exact WkB.refl _ | refine ⟨?_, ?_⟩ | refine WkB.cells ?_ | refine WkN.agg ?_ | refine WkN.tup ?_)); (all_goals (first | exact .int rfl | exact .int (by first | omega | (simp only [nc]; omega) | (simp; done)) | exact .bool rfl | exact .snoc hnt rfl rfl rfl | exact .snoc hnt rfl rfl (by simp only [encZone, encTrain, lst_nt hnt]; rfl) | exact lit_nt hnt _ _ _ _ rfl | exact take_nt hnt (by omega) | exact lstR_wk hnt | exact .tok rfl | exact .tok (by simp) | exact .lst hnt rfl | exact .gsl (by simp) | exact .empty rfl | exact .nilOwn (by decide) (by decide) rfl | exact .nilGar (by decide) (by decide) rfl | exact .gd (by first | assumption | decide | (simp [*]; done)) (.refl _) | skip)))
      rintro m ⟨hm, hok2⟩
      (cbv; (try simp only [nc] at *); (try refine Chk.mk (by (try simp only [nc, allc0, allc1, allcE, allcI, Cn.p, and_true, true_and, decide_eq_true_eq, imp_self, List.length_cons, List.length_nil]); all_goals ((repeat' (first | apply And.intro | intro _)) <;> first | omega | rfl | exact Or.inl rfl | assumption | exact nb1 (by assumption) | exact nb2 (by assumption) | exact nb3 (by assumption) | exact nb4 (by assumption) | decide | decide +kernel | (simp [*]; done))) ?_))
      refine ⟨fun hb4 => ?_, fun hb4 => ?_⟩
      · simp only [decide_eq_true_eq] at hb4
        have e1 : R.getD k default = nt Sp.Ride default R (k : Int) := by rw [hnt]; rfl
        have e2 : R.getD m default = nt Sp.Ride default R (m : Int) := by rw [hnt]; rfl
        (cbv; try simp only [nc] at *)
        generalize hx : nt Sp.Ride default R (k : Int) = x at *
        generalize hy : nt Sp.Ride default R (m : Int) = y at *
        refine Chk.mk ?_ ?_
        · simp only [nc, allc0, allc1, allcE, allcI, Cn.p, and_true, true_and, decide_eq_true_eq, imp_self, List.length_cons, List.length_nil]
          exact ⟨by decide +kernel, by omega, by omega, fun _ => by omega, fun _ => by omega, fun h1 h2 => by rw [h1, h2]; rfl, fun h => by rw [h]; rfl, fun _ => by omega, fun _ => by omega⟩
        refine ⟨fun hb5 => ?_, fun hb5 => ?_⟩
        · (cbv; try simp only [nc] at *)
          rcases hTl with ⟨h1, h2⟩ | ⟨h1, h2⟩
          · simp only [h1, h2]
            refine Chk.mk (by simp [allc0, allc1, allcE, allcI, Cn.p]) ?_
            refine Br.isT (by simp) ?_
            (cbv; (try simp only [nc] at *); (try refine Chk.mk (by (try simp only [nc, allc0, allc1, allcE, allcI, Cn.p, and_true, true_and, decide_eq_true_eq, imp_self, List.length_cons, List.length_nil]); all_goals ((repeat' (first | apply And.intro | intro _)) <;> first | omega | rfl | exact Or.inl rfl | assumption | exact nb1 (by assumption) | exact nb2 (by assumption) | exact nb3 (by assumption) | exact nb4 (by assumption) | decide | decide +kernel | (simp [*]; done))) ?_))
            refine call0 (c18) (by first | rfl | (simp only [zoneA, bookA, lst_nt hnt]; rfl)) fun r h₂ hp => ?_
            (try simp only [zoneA, bookA, lst_nt hnt] at hp)
            obtain ⟨rfl, rfl⟩ := hp
            (cbv; try simp only [nc] at *)
            refine hQ2 _ _ _ ?_
            clear hQ2
            (cbv; try simp only [nc] at *)
            refine hQ _ _ _ ?_
            clear hQ
            (cbv; (try simp only [nc] at *); (try refine Chk.mk (by (try simp only [nc, allc0, allc1, allcE, allcI, Cn.p, and_true, true_and, decide_eq_true_eq, imp_self, List.length_cons, List.length_nil]); all_goals ((repeat' (first | apply And.intro | intro _)) <;> first | omega | rfl | exact Or.inl rfl | assumption | exact nb1 (by assumption) | exact nb2 (by assumption) | exact nb3 (by assumption) | exact nb4 (by assumption) | decide | decide +kernel | (simp [*]; done))) ?_))
            (try simp)
          · simp only [h1, h2]
            refine Chk.mk (by simp [allc0, allc1, allcE, allcI, Cn.p]) ?_
            refine Br.isT (by simp) ?_
            (cbv; (try simp only [nc] at *); (try refine Chk.mk (by (try simp only [nc, allc0, allc1, allcE, allcI, Cn.p, and_true, true_and, decide_eq_true_eq, imp_self, List.length_cons, List.length_nil]); all_goals ((repeat' (first | apply And.intro | intro _)) <;> first | omega | rfl | exact Or.inl rfl | assumption | exact nb1 (by assumption) | exact nb2 (by assumption) | exact nb3 (by assumption) | exact nb4 (by assumption) | decide | decide +kernel | (simp [*]; done))) ?_))
            refine call0 (c18) (by first | rfl | (simp only [zoneA, bookA, lst_nt hnt]; rfl)) fun r h₂ hp => ?_
            (try simp only [zoneA, bookA, lst_nt hnt] at hp)
            obtain ⟨rfl, rfl⟩ := hp
            (cbv; try simp only [nc] at *)
            refine hQ2 _ _ _ ?_
            clear hQ2
            (cbv; try simp only [nc] at *)
            refine hQ _ _ _ ?_
            clear hQ
            (cbv; (try simp only [nc] at *); (try refine Chk.mk (by (try simp only [nc, allc0, allc1, allcE, allcI, Cn.p, and_true, true_and, decide_eq_true_eq, imp_self, List.length_cons, List.length_nil]); all_goals ((repeat' (first | apply And.intro | intro _)) <;> first | omega | rfl | exact Or.inl rfl | assumption | exact nb1 (by assumption) | exact nb2 (by assumption) | exact nb3 (by assumption) | exact nb4 (by assumption) | decide | decide +kernel | (simp [*]; done))) ?_))
            (try simp)
        · have hno2 : (x.depart < y.depart ∨ x.depart = y.depart ∧ k < m) → x.arrive ≤ y.arrive := by
            intro hc
            have hc' : (bif decide (x.depart < y.depart) then true else bif x.depart == y.depart then decide ((k : Int) < m) else false) = true := by
              rcases hc with hc | hc
              · rw [decide_eq_true hc]; rfl
              · rw [decide_eq_false (by omega), hc.1, beq_self_eq_true, decide_eq_true (by omega)]; rfl
            rw [hc'] at hb5
            have : decide (y.arrive < x.arrive) = false := hb5
            simpa using this
          (cbv; (try simp only [nc] at *); (try refine Chk.mk (by (try simp only [nc, allc0, allc1, allcE, allcI, Cn.p, and_true, true_and, decide_eq_true_eq, imp_self, List.length_cons, List.length_nil]); all_goals ((repeat' (first | apply And.intro | intro _)) <;> first | omega | rfl | exact Or.inl rfl | assumption | exact nb1 (by assumption) | exact nb2 (by assumption) | exact nb3 (by assumption) | exact nb4 (by assumption) | decide | decide +kernel | (simp [*]; done))) ?_))
          refine ⟨m + 1, ⟨by omega, fun m' h1 => ?_⟩, by omega, ?_⟩
          · by_cases h : m' = m
            · subst h
              rw [e1, e2]
              exact hno2
            · exact hok2 m' (by omega)
          · (refine To.of [] ?_; cbv; (try simp only [nc]); (repeat' (first | exact trivial | exact WkN.refl _ | exact WkB.refl _ | refine ⟨?_, ?_⟩ | refine WkB.cells ?_ | refine WkN.agg ?_ | refine WkN.tup ?_)); (all_goals (first | exact .int rfl | exact .int (by first | omega | (simp only [nc]; omega) | (simp; done)) | exact .bool rfl | exact .snoc hnt rfl rfl rfl | exact .snoc hnt rfl rfl (by simp only [encZone, encTrain, lst_nt hnt]; rfl) | exact lit_nt hnt _ _ _ _ rfl | exact take_nt hnt (by omega) | exact lstR_wk hnt | exact .tok rfl | exact .tok (by simp) | exact .lst hnt rfl | exact .gsl (by simp) | exact .empty rfl | exact .nilOwn (by decide) (by decide) rfl | exact .nilGar (by decide) (by decide) rfl | exact .gd (by first | assumption | decide | (simp [*]; done)) (.refl _) | skip)))
      · (cbv; try simp only [nc] at *)
        refine hQ2 _ _ _ ?_
        clear hQ2
        have hme : R.length ≤ m := by simp only [decide_eq_false_iff_not] at hb4; omega
        (cbv; (try simp only [nc] at *); (try refine Chk.mk (by (try simp only [nc, allc0, allc1, allcE, allcI, Cn.p, and_true, true_and, decide_eq_true_eq, imp_self, List.length_cons, List.length_nil]); all_goals ((repeat' (first | apply And.intro | intro _)) <;> first | omega | rfl | exact Or.inl rfl | assumption | exact nb1 (by assumption) | exact nb2 (by assumption) | exact nb3 (by assumption) | exact nb4 (by assumption) | decide | decide +kernel | (simp [*]; done))) ?_))
        refine ⟨k + 1, ⟨by omega, fun k' m' h1 h2 h3 => ?_⟩, by omega, ?_⟩
        · by_cases h : k' = k
          · subst h; exact hok2 m' (by omega) h3
          · exact hok1 k' m' (by omega) h2 h3
        · (refine To.of [] ?_; cbv; (try simp only [nc]); (repeat' (first | exact trivial | exact WkN.refl _ | exact WkB.refl _ | refine ⟨?_, ?_⟩ | refine WkB.cells ?_ | refine WkN.agg ?_ | refine WkN.tup ?_)); (all_goals (first | exact .int rfl | exact .int (by first | omega | (simp only [nc]; omega) | (simp; done)) | exact .bool rfl | exact .snoc hnt rfl rfl rfl | exact .snoc hnt rfl rfl (by simp only [encZone, encTrain, lst_nt hnt]; rfl) | exact lit_nt hnt _ _ _ _ rfl | exact take_nt hnt (by omega) | exact lstR_wk hnt | exact .tok rfl | exact .tok (by simp) | exact .lst hnt rfl | exact .gsl (by simp) | exact .empty rfl | exact .nilOwn (by decide) (by decide) rfl | exact .nilGar (by decide) (by decide) rfl | exact .gd (by first | assumption | decide | (simp [*]; done)) (.refl _) | skip)))
    · (cbv; try simp only [nc] at *)
      refine hQ _ _ _ ?_
      clear hQ
      have hke : R.length ≤ k := by simp only [decide_eq_false_iff_not] at hb3; omega
      (cbv; (try simp only [nc] at *); (try refine Chk.mk (by (try simp only [nc, allc0, allc1, allcE, allcI, Cn.p, and_true, true_and, decide_eq_true_eq, imp_self, List.length_cons, List.length_nil]); all_goals ((repeat' (first | apply And.intro | intro _)) <;> first | omega | rfl | exact Or.inl rfl | assumption | exact nb1 (by assumption) | exact nb2 (by assumption) | exact nb3 (by assumption) | exact nb4 (by assumption) | decide | decide +kernel | (simp [*]; done))) ?_))
      refine ⟨i + 1, ⟨by omega, ?_⟩, by omega, ?_⟩
      · rw [hnx]
        intro Q hQ
        rcases List.mem_append.1 hQ with h | h
        · exact hno Q h
        · simp at h
          subst h
          exact fun k' m h1 h2 h3 => hok1 k' m (by omega) h2 h3
      · rw [hnx]
        (refine To.of [] ?_; cbv; (try simp only [nc]); (repeat' (first | exact trivial | exact WkN.refl _ | exact WkB.refl _ | refine ⟨?_, ?_⟩ | refine WkB.cells ?_ | refine WkN.agg ?_ | refine WkN.tup ?_)); (all_goals (first | exact .int rfl | exact .int (by first | omega | (simp only [nc]; omega) | (simp; done)) | exact .bool rfl | exact .snoc hnt rfl rfl rfl | exact .snoc hnt rfl rfl (by simp only [encZone, encTrain, lst_nt hnt]; rfl) | exact lit_nt hnt _ _ _ _ rfl | exact take_nt hnt (by omega) | exact lstR_wk hnt | exact .tok rfl | exact .tok (by simp) | exact .lst hnt rfl | exact .gsl (by simp) | exact .empty rfl | exact .nilOwn (by decide) (by decide) rfl | exact .nilGar (by decide) (by decide) rfl | exact .gd (by first | assumption | decide | (simp [*]; done)) (.refl _) | skip)))
  · have hie : i = L.length := by simp only [decide_eq_false_iff_not] at hb2; omega
    subst hie
    rw [List.take_length] at hno
    have hk21 := c21 (L.map (rides b)) a (by simp; omega) (fun R hR => by
      obtain ⟨g, _, rfl⟩ := List.mem_map.1 hR
      have := hrl g; omega)
    have hfin : ∀ R ∈ L.map (rides b), Fine R := fun R hR => by
      refine ⟨hno R hR, ?_⟩
      obtain ⟨g, _, rfl⟩ := List.mem_map.1 hR
      exact fun y hy => hfine g y hy
    have hE := early_greedy hfin ha.1
    have hAl : (L.map (rides b)).length = L.length := List.length_map ..
    have hRl : ∀ R ∈ L.map (rides b), R.length ≤ 100 := fun R hR => by
      obtain ⟨g, _, rfl⟩ := List.mem_map.1 hR
      exact hrl g
    simp only [List.take_length]
    clear hno
    generalize L.map (rides b) = A at *
    simp only [lst_nt hnt, encRows_nt hnt] at hk21
    generalize early A a = E at *
    (cbv; (try simp only [nc] at *); (try refine Chk.mk (by (try simp only [nc, allc0, allc1, allcE, allcI, Cn.p, and_true, true_and, decide_eq_true_eq, imp_self, List.length_cons, List.length_nil]); all_goals ((repeat' (first | apply And.intro | intro _)) <;> first | omega | rfl | exact Or.inl rfl | assumption | exact nb1 (by assumption) | exact nb2 (by assumption) | exact nb3 (by assumption) | exact nb4 (by assumption) | decide | decide +kernel | (simp [*]; done))) ?_))
    refine call0T hk21 (by (refine To.of [] ?_; cbv; (try simp only [nc]); (repeat' (first | exact trivial | exact WkN.refl _ | exact WkB.refl _ | refine ⟨?_, ?_⟩ | refine WkB.cells ?_ | refine WkN.agg ?_ | refine WkN.tup ?_)); (all_goals (first | exact .int rfl | exact .int (by first | omega | (simp only [nc]; omega) | (simp; done)) | exact .bool rfl | exact .snoc hnt rfl rfl rfl | exact .snoc hnt rfl rfl (by simp only [encZone, encTrain, lst_nt hnt]; rfl) | exact lit_nt hnt _ _ _ _ rfl | exact take_nt hnt (by omega) | exact lstR_wk hnt | exact .tok rfl | exact .tok (by simp) | exact .lst hnt rfl | exact .gsl (by simp) | exact .empty rfl | exact .nilOwn (by decide) (by decide) rfl | exact .nilGar (by decide) (by decide) rfl | exact .gd (by first | assumption | decide | (simp [*]; done)) (.refl _) | skip))); exact .none rfl fun _ _ => rfl) (by first | rfl | (simp only [bookA, lst_nt hnt]; rfl)) fun r h₂ hq => ?_
    obtain ⟨rfl, rfl⟩ := hq
    (cbv; (try simp only [nc] at *); (try refine Chk.mk (by (try simp only [nc, allc0, allc1, allcE, allcI, Cn.p, and_true, true_and, decide_eq_true_eq, imp_self, List.length_cons, List.length_nil]); all_goals ((repeat' (first | apply And.intro | intro _)) <;> first | omega | rfl | exact Or.inl rfl | assumption | exact nb1 (by assumption) | exact nb2 (by assumption) | exact nb3 (by assumption) | exact nb4 (by assumption) | decide | decide +kernel | (simp [*]; done))) ?_))
    refine ⟨fun hb3 => ?_, fun hb3 => ?_⟩
    · have hE0 : E < 0 := by simpa using hb3
      have hT2 : T = ([], 11) := by
        rcases hT with ⟨h1, _⟩ | ⟨t, h1, _, _, h4⟩
        · exact h1
        · have h5 := hE.2 _ h4
          have h6 := hE.1
          rw [h4] at h6
          change E = comes a t at h6
          omega
      (cbv; try simp only [nc] at *)
      simp only [hT2]
      refine Chk.mk (by simp [allc0, allc1, allcE, allcI, Cn.p]) ?_
      refine Br.isT (by simp) ?_
      (cbv; (try simp only [nc] at *); (try refine Chk.mk (by (try simp only [nc, allc0, allc1, allcE, allcI, Cn.p, and_true, true_and, decide_eq_true_eq, imp_self, List.length_cons, List.length_nil]); all_goals ((repeat' (first | apply And.intro | intro _)) <;> first | omega | rfl | exact Or.inl rfl | assumption | exact nb1 (by assumption) | exact nb2 (by assumption) | exact nb3 (by assumption) | exact nb4 (by assumption) | decide | decide +kernel | (simp [*]; done))) ?_))
      refine call0 (c18) (by first | rfl | (simp only [zoneA, bookA, lst_nt hnt]; rfl)) fun r h₂ hp => ?_
      (try simp only [zoneA, bookA, lst_nt hnt] at hp)
      obtain ⟨rfl, rfl⟩ := hp
      (cbv; (try simp only [nc] at *); (try refine Chk.mk (by (try simp only [nc, allc0, allc1, allcE, allcI, Cn.p, and_true, true_and, decide_eq_true_eq, imp_self, List.length_cons, List.length_nil]); all_goals ((repeat' (first | apply And.intro | intro _)) <;> first | omega | rfl | exact Or.inl rfl | assumption | exact nb1 (by assumption) | exact nb2 (by assumption) | exact nb3 (by assumption) | exact nb4 (by assumption) | decide | decide +kernel | (simp [*]; done))) ?_))
      (try simp)
    · have hE0 : ¬ E < 0 := by simpa using hb3
      have hT2 : ∃ t, T = (t, 0) ∧ t.length = L.length ∧ TripOk A a t ∧ E = comes a t := by
        rcases hT with ⟨_, h2⟩ | ⟨t, h1, h2, h3, h4⟩
        · exfalso
          have h6 := hE.1
          rw [h2] at h6
          change E = -1 at h6
          omega
        · have h6 := hE.1
          rw [h4] at h6
          exact ⟨t, h1, h2, h3, h6⟩
      (cbv; try simp only [nc] at *)
      obtain ⟨t, rfl, ht1, ht2, ht3⟩ := hT2
      refine Chk.mk (by simp [allc0, allc1, allcE, allcI, Cn.p]) ?_
      refine Br.isF (by simp; omega) ?_
      (cbv; (try simp only [nc] at *); (try refine Chk.mk (by (try simp only [nc, allc0, allc1, allcE, allcI, Cn.p, and_true, true_and, decide_eq_true_eq, imp_self, List.length_cons, List.length_nil]); all_goals ((repeat' (first | apply And.intro | intro _)) <;> first | omega | rfl | exact Or.inl rfl | assumption | exact nb1 (by assumption) | exact nb2 (by assumption) | exact nb3 (by assumption) | exact nb4 (by assumption) | decide | decide +kernel | (simp [*]; done))) ?_))
      refine loopS false false [] [7, 9, 15, 16, 17] [] (fun (⟨i, now⟩ : Nat × Int) => [(16, .int .i64 fun _ => now), (17, .int .i64 fun _ => (i : Int))]) (fun _ => []) (fun ⟨i, now⟩ => i ≤ t.length ∧ TripOk (A.drop i) now (t.drop i) ∧ comes now (t.drop i) = E) (fun i => t.length - i.1 + 0) (0, a) ⟨Nat.zero_le _, by simpa using ht2, by simpa using ht3.symm⟩ ?_ ?_
      · (refine To.of [] ?_; cbv; (try simp only [nc]); (repeat' (first | exact trivial | exact WkN.refl _ | exact WkB.refl _ | refine ⟨?_, ?_⟩ | refine WkB.cells ?_ | refine WkN.agg ?_ | refine WkN.tup ?_)); (all_goals (first | exact .int rfl | exact .int (by first | omega | (simp only [nc]; omega) | (simp; done)) | exact .bool rfl | exact .snoc hnt rfl rfl rfl | exact .snoc hnt rfl rfl (by simp only [encZone, encTrain, lst_nt hnt]; rfl) | exact lit_nt hnt _ _ _ _ rfl | exact take_nt hnt (by omega) | exact lstR_wk hnt | exact .tok rfl | exact .tok (by simp) | exact .lst hnt rfl | exact .gsl (by simp) | exact .empty rfl | exact .nilOwn (by decide) (by decide) rfl | exact .nilGar (by decide) (by decide) rfl | exact .gd (by first | assumption | decide | (simp [*]; done)) (.refl _) | skip)))
      rintro ⟨i, now⟩ ⟨hi, hi2, hi3⟩
      have hi : i ≤ t.length := hi
      have hi2 : TripOk (A.drop i) now (t.drop i) := hi2
      have hi3 : comes now (t.drop i) = E := hi3
      (cbv; (try simp only [nc] at *); (try refine Chk.mk (by (try simp only [nc, allc0, allc1, allcE, allcI, Cn.p, and_true, true_and, decide_eq_true_eq, imp_self, List.length_cons, List.length_nil]); all_goals ((repeat' (first | apply And.intro | intro _)) <;> first | omega | rfl | exact Or.inl rfl | assumption | exact nb1 (by assumption) | exact nb2 (by assumption) | exact nb3 (by assumption) | exact nb4 (by assumption) | decide | decide +kernel | (simp [*]; done))) ?_))
      refine ⟨fun hb4 => ?_, fun hb4 => ?_⟩
      · simp only [decide_eq_true_eq] at hb4
        have hi' : i < t.length := by omega
        have hiA : i < A.length := by omega
        rw [nt_drop (d := default) hnt (l := t) (i := i) hi'] at hi2 hi3
        rw [nt_drop (d := []) hnt (l := A) (i := i) hiA] at hi2
        obtain ⟨x, t', e, hx1, hx2, hx3⟩ := hi2
        rw [List.cons.injEq] at e
        have hx0 := e.1
        rw [← e.2] at hx3
        rw [hx0] at hi3
        have hRl2 := hRl _ (nt_mem (d := []) hnt (l := A) (i := i) hiA)
        clear e
        generalize hRR : nt (List Sp.Ride) [] A (i : Int) = R at *
        (cbv; (try simp only [nc] at *); (try refine Chk.mk (by (try simp only [nc, allc0, allc1, allcE, allcI, Cn.p, and_true, true_and, decide_eq_true_eq, imp_self, List.length_cons, List.length_nil]); all_goals ((repeat' (first | apply And.intro | intro _)) <;> first | omega | rfl | exact Or.inl rfl | assumption | exact nb1 (by assumption) | exact nb2 (by assumption) | exact nb3 (by assumption) | exact nb4 (by assumption) | decide | decide +kernel | (simp [*]; done))) ?_))
        refine loopQ fun Q hQ => ?_
        refine loopS false false [] [7, 9, 15, 16, 17, 18, 19] [] (fun (⟨k, sm⟩ : Nat × Bool) => [(18, .bool fun _ => sm), (19, .int .i64 fun _ => (k : Int))]) (fun _ => []) (fun ⟨k, sm⟩ => k ≤ R.length ∧ (sm = true ↔ x ∈ R.take k)) (fun k => R.length - k.1 + 0) (0, false) ⟨Nat.zero_le _, by simp⟩ ?_ ?_
        · (refine To.of [] ?_; cbv; (try simp only [nc]); (repeat' (first | exact trivial | exact WkN.refl _ | exact WkB.refl _ | refine ⟨?_, ?_⟩ | refine WkB.cells ?_ | refine WkN.agg ?_ | refine WkN.tup ?_)); (all_goals (first | exact .int rfl | exact .int (by first | omega | (simp only [nc]; omega) | (simp; done)) | exact .bool rfl | exact .snoc hnt rfl rfl rfl | exact .snoc hnt rfl rfl (by simp only [encZone, encTrain, lst_nt hnt]; rfl) | exact lit_nt hnt _ _ _ _ rfl | exact take_nt hnt (by omega) | exact lstR_wk hnt | exact .tok rfl | exact .tok (by simp) | exact .lst hnt rfl | exact .gsl (by simp) | exact .empty rfl | exact .nilOwn (by decide) (by decide) rfl | exact .nilGar (by decide) (by decide) rfl | exact .gd (by first | assumption | decide | (simp [*]; done)) (.refl _) | skip)))
        rintro ⟨k, sm⟩ hpp
        have hk : k ≤ R.length := hpp.1
        have hsm : sm = true ↔ x ∈ R.take k := hpp.2
        clear hpp
        (cbv; try simp only [nc] at *)
        (cbv; try simp only [nc] at *)
        simp only [hRR]
        refine Chk.mk (by (try simp only [nc, allc0, allc1, allcE, allcI, Cn.p, and_true, true_and, decide_eq_true_eq, imp_self, List.length_cons, List.length_nil]); all_goals ((repeat' (first | apply And.intro | intro _)) <;> first | omega | rfl | exact Or.inl rfl | assumption | exact nb1 (by assumption) | exact nb2 (by assumption) | exact nb3 (by assumption) | exact nb4 (by assumption) | decide | decide +kernel | (simp [*]; done))) ?_
        refine ⟨fun hb5 => ?_, fun hb5 => ?_⟩
        · simp only [decide_eq_true_eq] at hb5
          have hk' : k < R.length := by omega
          have htk := nt_take (d := default) hnt (l := R) (i := k) hk'
          generalize hz : nt Sp.Ride default R (k : Int) = z at *
          have hsm2 := some_step htk hsm
          (cbv; try simp only [nc] at *)
          simp only [hRR, hx0, hz]
          cases sm
          · refine Chk.mk (by simp only [nc, allc0, allc1, allcE, allcI, Cn.p, and_true, true_and, decide_eq_true_eq, imp_self]; refine ⟨by decide +kernel, ?_⟩; simp; omega) ?_
            refine ⟨(k + 1, _), ⟨by show k + 1 ≤ R.length; omega, hsm2⟩, by show R.length - (k + 1) + 0 < R.length - k + 0; omega, ?_⟩
            (refine To.of [] ?_; cbv; (try simp only [nc]); (repeat' (first | exact trivial | exact WkN.refl _ | exact WkB.refl _ | refine ⟨?_, ?_⟩ | refine WkB.cells ?_ | refine WkN.agg ?_ | refine WkN.tup ?_)); (all_goals (first | exact .int rfl | exact .int (by first | omega | (simp only [nc]; omega) | (simp; done)) | exact .bool rfl | exact .snoc hnt rfl rfl rfl | exact .snoc hnt rfl rfl (by simp only [encZone, encTrain, lst_nt hnt]; rfl) | exact lit_nt hnt _ _ _ _ rfl | exact take_nt hnt (by omega) | exact lstR_wk hnt | exact .tok rfl | exact .tok (by simp) | exact .lst hnt rfl | exact .gsl (by simp) | exact .empty rfl | exact .nilOwn (by decide) (by decide) rfl | exact .nilGar (by decide) (by decide) rfl | exact .gd (by first | assumption | decide | (simp [*]; done)) (.refl _) | skip)))
          · refine Chk.mk (by simp only [nc, allc0, allc1, allcE, allcI, Cn.p, and_true, true_and, decide_eq_true_eq, imp_self]; refine ⟨by decide +kernel, ?_⟩; simp; omega) ?_
            refine ⟨(k + 1, _), ⟨by show k + 1 ≤ R.length; omega, hsm2⟩, by show R.length - (k + 1) + 0 < R.length - k + 0; omega, ?_⟩
            (refine To.of [] ?_; cbv; (try simp only [nc]); (repeat' (first | exact trivial | exact WkN.refl _ | exact WkB.refl _ | refine ⟨?_, ?_⟩ | refine WkB.cells ?_ | refine WkN.agg ?_ | refine WkN.tup ?_)); (all_goals (first | exact .int rfl | exact .int (by first | omega | (simp only [nc]; omega) | (simp; done)) | exact .bool rfl | exact .snoc hnt rfl rfl rfl | exact .snoc hnt rfl rfl (by simp only [encZone, encTrain, lst_nt hnt]; rfl) | exact lit_nt hnt _ _ _ _ rfl | exact take_nt hnt (by omega) | exact lstR_wk hnt | exact .tok rfl | exact .tok (by simp) | exact .lst hnt rfl | exact .gsl (by simp) | exact .empty rfl | exact .nilOwn (by decide) (by decide) rfl | exact .nilGar (by decide) (by decide) rfl | exact .gd (by first | assumption | decide | (simp [*]; done)) (.refl _) | skip)))
        · have hke : R.length ≤ k := by simp only [decide_eq_false_iff_not] at hb5; omega
          rw [List.take_of_length_le hke] at hsm
          have hsm := hsm.2 hx1
          subst hsm
          (cbv; try simp only [nc] at *)
          refine hQ _ _ _ ?_
          clear hQ
          (cbv; try simp only [nc] at *)
          simp only [hx0]
          refine Chk.mk (by simp [allc0, allc1, allcE, allcI, Cn.p]; omega) ?_
          refine Br.isF (by rw [decide_eq_false (by omega)]; rfl) ?_
          (cbv; try simp only [nc] at *)
          simp only [hx0]
          refine Chk.mk (by (try simp only [nc, allc0, allc1, allcE, allcI, Cn.p, and_true, true_and, decide_eq_true_eq, imp_self, List.length_cons, List.length_nil]); all_goals ((repeat' (first | apply And.intro | intro _)) <;> first | omega | rfl | exact Or.inl rfl | assumption | exact nb1 (by assumption) | exact nb2 (by assumption) | exact nb3 (by assumption) | exact nb4 (by assumption) | decide | decide +kernel | (simp [*]; done))) ?_
          refine ⟨(i + 1, x.arrive), ⟨by show i + 1 ≤ t.length; omega, hx3, hi3⟩, by show t.length - (i + 1) + 0 < t.length - i + 0; omega, ?_⟩
          (refine To.of [] ?_; cbv; (try simp only [nc]); (repeat' (first | exact trivial | exact WkN.refl _ | exact WkB.refl _ | refine ⟨?_, ?_⟩ | refine WkB.cells ?_ | refine WkN.agg ?_ | refine WkN.tup ?_)); (all_goals (first | exact .int rfl | exact .int (by first | omega | (simp only [nc]; omega) | (simp; done)) | exact .bool rfl | exact .snoc hnt rfl rfl rfl | exact .snoc hnt rfl rfl (by simp only [encZone, encTrain, lst_nt hnt]; rfl) | exact lit_nt hnt _ _ _ _ rfl | exact take_nt hnt (by omega) | exact lstR_wk hnt | exact .tok rfl | exact .tok (by simp) | exact .lst hnt rfl | exact .gsl (by simp) | exact .empty rfl | exact .nilOwn (by decide) (by decide) rfl | exact .nilGar (by decide) (by decide) rfl | exact .gd (by first | assumption | decide | (simp [*]; done)) (.refl _) | skip)))
      · have hie : t.length ≤ i := by simp only [decide_eq_false_iff_not] at hb4; omega
        rw [List.drop_eq_nil_of_le hie] at hi3
        have hi3 : now = E := hi3
        subst hi3
        (cbv; (try simp only [nc] at *); (try refine Chk.mk (by (try simp only [nc, allc0, allc1, allcE, allcI, Cn.p, and_true, true_and, decide_eq_true_eq, imp_self, List.length_cons, List.length_nil]); all_goals ((repeat' (first | apply And.intro | intro _)) <;> first | omega | rfl | exact Or.inl rfl | assumption | exact nb1 (by assumption) | exact nb2 (by assumption) | exact nb3 (by assumption) | exact nb4 (by assumption) | decide | decide +kernel | (simp [*]; done))) ?_))
        refine Br.isT (by simp) ?_
        (cbv; (try simp only [nc] at *); (try refine Chk.mk (by (try simp only [nc, allc0, allc1, allcE, allcI, Cn.p, and_true, true_and, decide_eq_true_eq, imp_self, List.length_cons, List.length_nil]); all_goals ((repeat' (first | apply And.intro | intro _)) <;> first | omega | rfl | exact Or.inl rfl | assumption | exact nb1 (by assumption) | exact nb2 (by assumption) | exact nb3 (by assumption) | exact nb4 (by assumption) | decide | decide +kernel | (simp [*]; done))) ?_))
        refine call0 (c18) (by first | rfl | (simp only [zoneA, bookA, lst_nt hnt]; rfl)) fun r h₂ hp => ?_
        (try simp only [zoneA, bookA, lst_nt hnt] at hp)
        obtain ⟨rfl, rfl⟩ := hp
        (cbv; (try simp only [nc] at *); (try refine Chk.mk (by (try simp only [nc, allc0, allc1, allcE, allcI, Cn.p, and_true, true_and, decide_eq_true_eq, imp_self, List.length_cons, List.length_nil]); all_goals ((repeat' (first | apply And.intro | intro _)) <;> first | omega | rfl | exact Or.inl rfl | assumption | exact nb1 (by assumption) | exact nb2 (by assumption) | exact nb3 (by assumption) | exact nb4 (by assumption) | decide | decide +kernel | (simp [*]; done))) ?_))
        simp
end Go.Proofs.Ytlcgliadpalgfaa.Vm
