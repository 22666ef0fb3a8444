/- The statement ClockLost: nobody is lost between two timetables. -/
import Derived.Test.YtlcgliadpalgfaaRq
set_option linter.unusedSimpArgs false
set_option linter.unusedVariables false
namespace Go.Proofs.Ytlcgliadpalgfaa.Vm
open Go Go.Proofs Sp
set_option maxRecDepth 100000
set_option maxHeartbeats 1600000

theorem legs_check {b : Book} (hchk : Check b = 0) {n : Int} {L : List Sp.Leg} (h : LegsMade n L) (h1 : 1 ≤ L.length) (h4 : L.length ≤ 4) : checkLegs b L = 0 := by
  unfold checkLegs
  rw [hchk, if_neg (fun h => h rfl), counted_of (by omega) (by omega), if_neg (fun h => h rfl)]
  refine firstErr_zero fun i _ hi => ?_
  have hi : i < L.length := by omega
  unfold legErr
  have hm : L.getD i default ∈ L := by rw [List.getD_eq_getElem?_getD, List.getElem?_eq_getElem hi]; exact List.getElem_mem _
  rw [if_neg (h.ne _ hm), if_neg ?_]
  rintro ⟨h0, hne⟩
  have := h.chain (i - 1) (by omega)
  rw [show i - 1 + 1 = i by omega] at this
  exact hne this

theorem lost_eq {b : Book} {L : List Sp.Leg} {g : Sp.Leg} (hl : L.drop 1 = [g]) (hc : checkLegs b L = 0) : Lost b L = (((rides b (L.getD 0 default)).filter fun x => decide (lastGo (-1) (rides b g) < x.arrive)).map (·.day), 0) := by
  have hok := (checkLegs_ok hc).1
  unfold Lost
  rw [hc, if_neg (fun h => h rfl), hl]
  congr 2
  refine List.filter_congr fun x hx => ?_
  have hb := (rides_bd hok hx).2.1
  have := lost_iff b g (a := x.arrive) hb
  cases h : (trip b [g] x.arrive []).2
  · rw [decide_eq_true (this.1 h)]; rfl
  · rw [decide_eq_false (fun h' => by rw [this.2 h'] at h; cases h)]; rfl

theorem waits_eq {b : Book} {L : List Sp.Leg} {g : Sp.Leg} (hl : L.drop 1 = [g]) (hl2 : L.length = 2) (hc : checkLegs b L = 0) : Waits b L = if ((rides b (L.getD 0 default)).foldl (wtStep (rides b g) (lastGo (-1) (rides b g))) (⟨0, 0⟩, false)).2 = false then (⟨0, 0⟩, 11) else (((rides b (L.getD 0 default)).foldl (wtStep (rides b g) (lastGo (-1) (rides b g))) (⟨0, 0⟩, false)).1, 0) := by
  have hok := (checkLegs_ok hc).1
  have e : waitAll b L = (rides b (L.getD 0 default)).foldl (wtStep (rides b g) (lastGo (-1) (rides b g))) (⟨0, 0⟩, false) := by
    unfold waitAll
    have : ∀ (l : List Sp.Ride) (o : Sp.Span × Bool), (∀ x ∈ l, x ∈ rides b (L.getD 0 default)) → l.foldl (waitStep b L) o = l.foldl (wtStep (rides b g) (lastGo (-1) (rides b g))) o := by
      intro l
      induction l with
      | nil => intro o _; rfl
      | cons x l ih =>
        intro o h
        rw [List.foldl_cons, List.foldl_cons, waitStep_eq hl (rides_bd hok (h x (List.mem_cons_self ..))).2.1]
        exact ih _ fun y hy => h y (List.mem_cons_of_mem _ hy)
    exact this _ _ fun x hx => hx
  unfold Waits
  rw [hc, if_neg (fun h => h rfl), counted_of (by omega) (by omega), if_neg (fun h => h rfl), e]

theorem c11 (l : List Int) (hl : (l.length : Int) ≤ 9223372036854775807) : SC (fun _ => Try.prog) 11 [lst 1 encI 0 l] [] fun r h => r = .bool (fun _ => true) := by
  obtain ⟨nt, hnt⟩ := nth_ex
  refine conX false false [] Try.func11 (body := bodyOf Try.f11) rfl (by decide +kernel) ?_
  (cbv; (try simp only [nc] at *); (try refine Chk.mk (by (try simp only [nc, allc0, allc1, allcE, allcI, Cn.p, and_true, true_and, decide_eq_true_eq, imp_self, List.length_cons, List.length_nil]); all_goals ((repeat' (first | apply And.intro | intro _)) <;> first | omega | rfl | exact Or.inl rfl | assumption | exact nb1 (by assumption) | exact nb2 (by assumption) | exact nb3 (by assumption) | exact nb4 (by assumption) | decide | decide +kernel | (simp [*]; done))) ?_))
  refine call0 (c14 l hl) (by first | rfl | (simp only [zoneA, bookA, lst_nt hnt]; rfl)) fun r h₂ hp => ?_
  (try simp only [zoneA, bookA, lst_nt hnt] at hp)
  obtain ⟨s, rfl, rfl⟩ := hp
  (cbv; (try simp only [nc] at *); (try refine Chk.mk (by (try simp only [nc, allc0, allc1, allcE, allcI, Cn.p, and_true, true_and, decide_eq_true_eq, imp_self, List.length_cons, List.length_nil]); all_goals ((repeat' (first | apply And.intro | intro _)) <;> first | omega | rfl | exact Or.inl rfl | assumption | exact nb1 (by assumption) | exact nb2 (by assumption) | exact nb3 (by assumption) | exact nb4 (by assumption) | decide | decide +kernel | (simp [*]; done))) ?_))
  refine callL [0] (c15 s 2 5 (by omega) (by omega)) (by decide) (by simp) (by first | rfl | (simp only [zoneA, bookA, lst_nt hnt]; rfl)) (by first | rfl | (simp only [zoneA, bookA, lst_nt hnt]; rfl)) fun r h₂ hp => ?_
  (try simp only [zoneA, bookA, lst_nt hnt] at hp)
  obtain ⟨b, s', hb, rfl, rfl⟩ := hp
  have hchk := made_check hb (by omega) (by omega)
  have hok := book_ok hchk
  have hfit := made_fit hb (by omega) (by omega)
  have hlast := hok.last
  have k20 := fun g => c20 b g hb hchk hfit
  (cbv; (try simp only [nc] at *); (try refine Chk.mk (by (try simp only [nc, allc0, allc1, allcE, allcI, Cn.p, and_true, true_and, decide_eq_true_eq, imp_self, List.length_cons, List.length_nil]); all_goals ((repeat' (first | apply And.intro | intro _)) <;> first | omega | rfl | exact Or.inl rfl | assumption | exact nb1 (by assumption) | exact nb2 (by assumption) | exact nb3 (by assumption) | exact nb4 (by assumption) | decide | decide +kernel | (simp [*]; done))) ?_))
  refine callL [0] (c16 s' 2 b hb (by omega) (by omega)) (by decide) (by simp) (by first | rfl | (simp only [zoneA, bookA, lst_nt hnt]; rfl)) (by first | rfl | (simp only [zoneA, bookA, lst_nt hnt]; rfl)) fun r h₂ hp => ?_
  (try simp only [zoneA, bookA, lst_nt hnt] at hp)
  obtain ⟨L, s1, hL, rfl, rfl⟩ := hp
  have hLl := hL.len
  (cbv; (try simp only [nc] at *); (try refine Chk.mk (by (try simp only [nc, allc0, allc1, allcE, allcI, Cn.p, and_true, true_and, decide_eq_true_eq, imp_self, List.length_cons, List.length_nil]); all_goals ((repeat' (first | apply And.intro | intro _)) <;> first | omega | rfl | exact Or.inl rfl | assumption | exact nb1 (by assumption) | exact nb2 (by assumption) | exact nb3 (by assumption) | exact nb4 (by assumption) | decide | decide +kernel | (simp [*]; done))) ?_))
  refine ⟨fun hb1 => ?_, fun hb1 => ?_⟩
  · (cbv; (try simp only [nc] at *); (try refine Chk.mk (by (try simp only [nc, allc0, allc1, allcE, allcI, Cn.p, and_true, true_and, decide_eq_true_eq, imp_self, List.length_cons, List.length_nil]); all_goals ((repeat' (first | apply And.intro | intro _)) <;> first | omega | rfl | exact Or.inl rfl | assumption | exact nb1 (by assumption) | exact nb2 (by assumption) | exact nb3 (by assumption) | exact nb4 (by assumption) | decide | decide +kernel | (simp [*]; done))) ?_))
    refine call0 (c18) (by first | rfl | (simp only [zoneA, bookA, lst_nt hnt]; rfl)) fun r h₂ hp => ?_
    (try simp only [zoneA, bookA, lst_nt hnt] at hp)
    obtain ⟨rfl, rfl⟩ := hp
    (cbv; (try simp only [nc] at *); (try refine Chk.mk (by (try simp only [nc, allc0, allc1, allcE, allcI, Cn.p, and_true, true_and, decide_eq_true_eq, imp_self, List.length_cons, List.length_nil]); all_goals ((repeat' (first | apply And.intro | intro _)) <;> first | omega | rfl | exact Or.inl rfl | assumption | exact nb1 (by assumption) | exact nb2 (by assumption) | exact nb3 (by assumption) | exact nb4 (by assumption) | decide | decide +kernel | (simp [*]; done))) ?_))
  have hl2 : L.length = 2 := by simp only [decide_eq_false_iff_not] at hb1; omega
  have e0 : L.getD 0 default = nt Sp.Leg default L 0 := by rw [hnt]; rfl
  have hdr : L.drop 1 = [nt Sp.Leg default L 1] := by
    rw [hnt]
    match L, hl2 with
    | [x, y], _ => rfl
  have hchkL := legs_check hchk hL (by omega) (by omega)
  have k49 := c49 b hfit L (by omega)
  have k50 := c50 b hfit L (by omega)
  rw [lost_eq hdr hchkL, e0] at k49
  rw [waits_eq hdr hl2 hchkL, e0] at k50
  have q1 := k20 (nt Sp.Leg default L 0)
  have q2 := k20 (nt Sp.Leg default L 1)
  have b1 : ∀ x ∈ rides b (nt Sp.Leg default L 0), RideB x := fun x hx => rides_bd hok hx
  have b2 : ∀ x ∈ rides b (nt Sp.Leg default L 1), RideB x := fun x hx => rides_bd hok hx
  have n1 := rides_len hok (nt Sp.Leg default L 0)
  have n2 := rides_len hok (nt Sp.Leg default L 1)
  generalize rides b (nt Sp.Leg default L 0) = R1 at *
  generalize rides b (nt Sp.Leg default L 1) = R2 at *
  have hlb := lastGo_bd (m := -1) (by omega) b2
  generalize hM : lastGo (-1) R2 = M at *
  dsimp only at k49
  generalize hF : (R1.filter fun x => decide (M < x.arrive)).map (·.day) = F at *
  generalize hO : R1.foldl (wtStep R2 M) (⟨0, 0⟩, false) = O at *
  have hW : (O.2 = false ∧ (if O.2 = false then ((⟨0, 0⟩ : Sp.Span), (11 : Int)) else (O.1, 0)) = (⟨0, 0⟩, 11)) ∨ (O.2 = true ∧ (if O.2 = false then ((⟨0, 0⟩ : Sp.Span), (11 : Int)) else (O.1, 0)) = (O.1, 0)) := by
    cases h : O.2
    · exact .inl ⟨rfl, rfl⟩
    · exact .inr ⟨rfl, rfl⟩
  generalize (if O.2 = false then ((⟨0, 0⟩ : Sp.Span), (11 : Int)) else (O.1, 0)) = W at *
  unfold legA at q1 q2
  simp only [lst_nt hnt] at q1 q2 k49 k50
  (cbv; (try simp only [nc] at *); (try refine Chk.mk (by (try simp only [nc, allc0, allc1, allcE, allcI, Cn.p, and_true, true_and, decide_eq_true_eq, imp_self, List.length_cons, List.length_nil]); all_goals ((repeat' (first | apply And.intro | intro _)) <;> first | omega | rfl | exact Or.inl rfl | assumption | exact nb1 (by assumption) | exact nb2 (by assumption) | exact nb3 (by assumption) | exact nb4 (by assumption) | decide | decide +kernel | (simp [*]; done))) ?_))
  refine call0 (q1) (by first | rfl | (simp only [zoneA, bookA, lst_nt hnt]; rfl)) fun r h₂ hp => ?_
  (try simp only [zoneA, bookA, lst_nt hnt] at hp)
  obtain ⟨rfl, rfl⟩ := hp
  (cbv; (try simp only [nc] at *); (try refine Chk.mk (by (try simp only [nc, allc0, allc1, allcE, allcI, Cn.p, and_true, true_and, decide_eq_true_eq, imp_self, List.length_cons, List.length_nil]); all_goals ((repeat' (first | apply And.intro | intro _)) <;> first | omega | rfl | exact Or.inl rfl | assumption | exact nb1 (by assumption) | exact nb2 (by assumption) | exact nb3 (by assumption) | exact nb4 (by assumption) | decide | decide +kernel | (simp [*]; done))) ?_))
  refine call0 (q2) (by first | rfl | (simp only [zoneA, bookA, lst_nt hnt]; rfl)) fun r h₂ hp => ?_
  (try simp only [zoneA, bookA, lst_nt hnt] at hp)
  obtain ⟨rfl, rfl⟩ := hp
  (cbv; (try simp only [nc] at *); (try refine Chk.mk (by (try simp only [nc, allc0, allc1, allcE, allcI, Cn.p, and_true, true_and, decide_eq_true_eq, imp_self, List.length_cons, List.length_nil]); all_goals ((repeat' (first | apply And.intro | intro _)) <;> first | omega | rfl | exact Or.inl rfl | assumption | exact nb1 (by assumption) | exact nb2 (by assumption) | exact nb3 (by assumption) | exact nb4 (by assumption) | decide | decide +kernel | (simp [*]; done))) ?_))
  refine call0 (k49) (by first | rfl | (simp only [zoneA, bookA, lst_nt hnt]; rfl)) fun r h₂ hp => ?_
  (try simp only [zoneA, bookA, lst_nt hnt] at hp)
  obtain ⟨rfl, rfl⟩ := hp
  (cbv; (try simp only [nc] at *); (try refine Chk.mk (by (try simp only [nc, allc0, allc1, allcE, allcI, Cn.p, and_true, true_and, decide_eq_true_eq, imp_self, List.length_cons, List.length_nil]); all_goals ((repeat' (first | apply And.intro | intro _)) <;> first | omega | rfl | exact Or.inl rfl | assumption | exact nb1 (by assumption) | exact nb2 (by assumption) | exact nb3 (by assumption) | exact nb4 (by assumption) | decide | decide +kernel | (simp [*]; done))) ?_))
  refine call0 (k50) (by first | rfl | (simp only [zoneA, bookA, lst_nt hnt]; rfl)) fun r h₂ hp => ?_
  (try simp only [zoneA, bookA, lst_nt hnt] at hp)
  obtain ⟨rfl, rfl⟩ := hp
  (cbv; (try simp only [nc] at *); (try refine Chk.mk (by (try simp only [nc, allc0, allc1, allcE, allcI, Cn.p, and_true, true_and, decide_eq_true_eq, imp_self, List.length_cons, List.length_nil]); all_goals ((repeat' (first | apply And.intro | intro _)) <;> first | omega | rfl | exact Or.inl rfl | assumption | exact nb1 (by assumption) | exact nb2 (by assumption) | exact nb3 (by assumption) | exact nb4 (by assumption) | decide | decide +kernel | (simp [*]; done))) ?_))
  refine Br.isF (by rcases hW with ⟨_, rfl⟩ | ⟨_, rfl⟩ <;> rfl) ?_
  (cbv; (try simp only [nc] at *); (try refine Chk.mk (by (try simp only [nc, allc0, allc1, allcE, allcI, Cn.p, and_true, true_and, decide_eq_true_eq, imp_self, List.length_cons, List.length_nil]); all_goals ((repeat' (first | apply And.intro | intro _)) <;> first | omega | rfl | exact Or.inl rfl | assumption | exact nb1 (by assumption) | exact nb2 (by assumption) | exact nb3 (by assumption) | exact nb4 (by assumption) | decide | decide +kernel | (simp [*]; done))) ?_))
  refine loopS false false [] [6, 8, 10, 12, 13, 14, 15] [] (fun (⟨k, m⟩ : Nat × Int) => [(14, .int .i64 fun _ => m), (15, .int .i64 fun _ => (k : Int))]) (fun _ => []) (fun ⟨k, m⟩ => k ≤ R2.length ∧ lastGo m (R2.drop k) = M) (fun i => R2.length - i.1 + 0) (0, -1) ⟨Nat.zero_le _, by simpa using hM⟩ ?_ ?_
  · (refine To.of [] ?_; cbv; (try simp only [nc]); (repeat' (first | exact trivial | exact WkN.refl _ | exact WkB.refl _ | refine ⟨?_, ?_⟩ | refine WkB.cells ?_ | refine WkN.agg ?_ | refine WkN.tup ?_)); (all_goals (first | exact .int rfl | exact .int (by first | omega | (simp only [nc]; omega) | (simp; done)) | exact .bool rfl | exact .snoc hnt rfl rfl rfl | exact .snoc hnt rfl rfl (by simp only [encZone, encTrain, lst_nt hnt]; rfl) | exact lit_nt hnt _ _ _ _ rfl | exact take_nt hnt (by omega) | exact lstR_wk hnt | exact .tok rfl | exact .tok (by simp) | exact .lst hnt rfl | exact .gsl (by simp) | exact .empty rfl | exact .nilOwn (by decide) (by decide) rfl | exact .nilGar (by decide) (by decide) rfl | exact .gd (by first | assumption | decide | (simp [*]; done)) (.refl _) | skip)))
  rintro ⟨k, m⟩ ⟨hk, hm⟩
  have hk : k ≤ R2.length := hk
  have hm : lastGo m (R2.drop k) = M := hm
  (cbv; (try simp only [nc] at *); (try refine Chk.mk (by (try simp only [nc, allc0, allc1, allcE, allcI, Cn.p, and_true, true_and, decide_eq_true_eq, imp_self, List.length_cons, List.length_nil]); all_goals ((repeat' (first | apply And.intro | intro _)) <;> first | omega | rfl | exact Or.inl rfl | assumption | exact nb1 (by assumption) | exact nb2 (by assumption) | exact nb3 (by assumption) | exact nb4 (by assumption) | decide | decide +kernel | (simp [*]; done))) ?_))
  refine ⟨fun hb2 => ?_, fun hb2 => ?_⟩
  · simp only [decide_eq_true_eq] at hb2
    rw [nt_drop (d := default) hnt (l := R2) (i := k) (by omega)] at hm
    change lastGo (if m < (nt Sp.Ride default R2 (k : Int)).depart then (nt Sp.Ride default R2 (k : Int)).depart else m) (R2.drop (k + 1)) = M at hm
    (cbv; (try simp only [nc] at *); (try refine Chk.mk (by (try simp only [nc, allc0, allc1, allcE, allcI, Cn.p, and_true, true_and, decide_eq_true_eq, imp_self, List.length_cons, List.length_nil]); all_goals ((repeat' (first | apply And.intro | intro _)) <;> first | omega | rfl | exact Or.inl rfl | assumption | exact nb1 (by assumption) | exact nb2 (by assumption) | exact nb3 (by assumption) | exact nb4 (by assumption) | decide | decide +kernel | (simp [*]; done))) ?_))
    generalize (if m < (nt Sp.Ride default R2 (k : Int)).depart then (nt Sp.Ride default R2 (k : Int)).depart else m) = m' at *
    refine ⟨(k + 1, m'), ⟨by show k + 1 ≤ R2.length; omega, hm⟩, by show R2.length - (k + 1) + 0 < R2.length - k + 0; omega, ?_⟩
    (refine To.of [] ?_; cbv; (try simp only [nc]); (repeat' (first | exact trivial | exact WkN.refl _ | exact WkB.refl _ | refine ⟨?_, ?_⟩ | refine WkB.cells ?_ | refine WkN.agg ?_ | refine WkN.tup ?_)); (all_goals (first | exact .int rfl | exact .int (by first | omega | (simp only [nc]; omega) | (simp; done)) | exact .bool rfl | exact .snoc hnt rfl rfl rfl | exact .snoc hnt rfl rfl (by simp only [encZone, encTrain, lst_nt hnt]; rfl) | exact lit_nt hnt _ _ _ _ rfl | exact take_nt hnt (by omega) | exact lstR_wk hnt | exact .tok rfl | exact .tok (by simp) | exact .lst hnt rfl | exact .gsl (by simp) | exact .empty rfl | exact .nilOwn (by decide) (by decide) rfl | exact .nilGar (by decide) (by decide) rfl | exact .gd (by first | assumption | decide | (simp [*]; done)) (.refl _) | skip)))
  have hke : R2.length ≤ k := by simp only [decide_eq_false_iff_not] at hb2; omega
  rw [List.drop_eq_nil_of_le hke] at hm
  have hm : m = M := hm
  subst hm
  (cbv; (try simp only [nc] at *); (try refine Chk.mk (by (try simp only [nc, allc0, allc1, allcE, allcI, Cn.p, and_true, true_and, decide_eq_true_eq, imp_self, List.length_cons, List.length_nil]); all_goals ((repeat' (first | apply And.intro | intro _)) <;> first | omega | rfl | exact Or.inl rfl | assumption | exact nb1 (by assumption) | exact nb2 (by assumption) | exact nb3 (by assumption) | exact nb4 (by assumption) | decide | decide +kernel | (simp [*]; done))) ?_))
  refine loopS false false [] [6, 8, 10, 12, 13, 14, 16, 17, 18, 19] [] (fun (⟨i, at_, o, s⟩ : Nat × Nat × Sp.Span × Bool) => [(16, .int .i64 fun _ => (at_ : Int)), (17, .bool fun _ => s), (19, .int .i64 fun _ => (i : Int))]) (fun ⟨i, at_, o, s⟩ => [(3, .cells (encSpan o))])
    (fun ⟨i, at_, o, s⟩ => i ≤ R1.length ∧ at_ = ((R1.take i).filter fun x => decide (m < x.arrive)).length ∧ (R1.drop i).foldl (wtStep R2 m) (o, s) = O ∧ ((-1099511627776 ≤ o.fr ∧ o.fr ≤ 1099511627776) ∧ -1099511627776 ≤ o.to_ ∧ o.to_ ≤ 1099511627776)) (fun i => R1.length - i.1 + 0) (0, 0, ⟨0, 0⟩, false) ⟨Nat.zero_le _, by simp, by simpa using hO, by simp⟩ ?_ ?_
  · (refine To.of [] ?_; cbv; (try simp only [nc]); (repeat' (first | exact trivial | exact WkN.refl _ | exact WkB.refl _ | refine ⟨?_, ?_⟩ | refine WkB.cells ?_ | refine WkN.agg ?_ | refine WkN.tup ?_)); (all_goals (first | exact .int rfl | exact .int (by first | omega | (simp only [nc]; omega) | (simp; done)) | exact .bool rfl | exact .snoc hnt rfl rfl rfl | exact .snoc hnt rfl rfl (by simp only [encZone, encTrain, lst_nt hnt]; rfl) | exact lit_nt hnt _ _ _ _ rfl | exact take_nt hnt (by omega) | exact lstR_wk hnt | exact .tok rfl | exact .tok (by simp) | exact .lst hnt rfl | exact .gsl (by simp) | exact .empty rfl | exact .nilOwn (by decide) (by decide) rfl | exact .nilGar (by decide) (by decide) rfl | exact .gd (by first | assumption | decide | (simp [*]; done)) (.refl _) | skip)))
  rintro ⟨i, at_, o, s⟩ ⟨hi, ha, hf, ho⟩
  have hi : i ≤ R1.length := hi
  have ha : at_ = ((R1.take i).filter fun x => decide (m < x.arrive)).length := ha
  have hf : (R1.drop i).foldl (wtStep R2 m) (o, s) = O := hf
  (cbv; (try simp only [nc] at *); (try refine Chk.mk (by (try simp only [nc, allc0, allc1, allcE, allcI, Cn.p, and_true, true_and, decide_eq_true_eq, imp_self, List.length_cons, List.length_nil]); all_goals ((repeat' (first | apply And.intro | intro _)) <;> first | omega | rfl | exact Or.inl rfl | assumption | exact nb1 (by assumption) | exact nb2 (by assumption) | exact nb3 (by assumption) | exact nb4 (by assumption) | decide | decide +kernel | (simp [*]; done))) ?_))
  refine ⟨fun hb3 => ?_, fun hb3 => ?_⟩
  · simp only [decide_eq_true_eq] at hb3
    have hi' : i < R1.length := by omega
    rw [nt_drop (d := default) hnt (l := R1) (i := i) hi', List.foldl_cons] at hf
    have hxb := b1 _ (nt_mem (d := default) hnt (l := R1) (i := i) hi')
    have htk := nt_take (d := default) hnt (l := R1) (i := i) hi'
    have hcut : ∀ x, nt Sp.Ride default R1 (i : Int) = x → decide (m < x.arrive) = true → at_ < F.length ∧ nt Int 0 F (at_ : Int) = x.day := by
      intro x hx hp
      have e : R1 = R1.take i ++ [x] ++ R1.drop (i + 1) := by rw [← hx, ← htk, List.take_append_drop]
      have := filter_cut (d := default) (fun x : Sp.Ride => decide (m < x.arrive)) (R1.take i) (R1.drop (i + 1)) x hp
      rw [← e, ← ha] at this
      rw [← hF, List.length_map, hnt, Int.toNat_natCast]
      refine ⟨this.1, ?_⟩
      have h2 := this.2
      rw [List.getD_eq_getElem?_getD, List.getElem?_eq_getElem this.1] at h2
      rw [List.getD_eq_getElem?_getD, List.getElem?_map, List.getElem?_eq_getElem this.1]
      exact congrArg Sp.Ride.day h2
    have hnx : ∀ x, nt Sp.Ride default R1 (i : Int) = x → ((R1.take (i + 1)).filter fun x => decide (m < x.arrive)).length = at_ + (if m < x.arrive then 1 else 0) := by
      intro x hx
      rw [htk, hx, List.filter_append, List.length_append, ← ha]
      by_cases h : m < x.arrive
      · simp [h]
      · simp [h]
    clear htk
    have hFl : F.length ≤ 100 := by rw [← hF, List.length_map]; exact Nat.le_trans (List.length_filter_le _ _) n1
    generalize hx : nt Sp.Ride default R1 (i : Int) = x at *
    have hcut := hcut x rfl
    have hnx := hnx x rfl
    unfold wtStep at hf
    (cbv; (try simp only [nc] at *); (try refine Chk.mk (by (try simp only [nc, allc0, allc1, allcE, allcI, Cn.p, and_true, true_and, decide_eq_true_eq, imp_self, List.length_cons, List.length_nil]); all_goals ((repeat' (first | apply And.intro | intro _)) <;> first | omega | rfl | exact Or.inl rfl | assumption | exact nb1 (by assumption) | exact nb2 (by assumption) | exact nb3 (by assumption) | exact nb4 (by assumption) | decide | decide +kernel | (simp [*]; done))) ?_))
    simp only [hx]
    refine ⟨fun hb4 => ?_, fun hb4 => ?_⟩
    · have hb4' : m < x.arrive := by simpa using hb4
      rw [if_pos hb4'] at hf hnx
      have hcut := hcut (decide_eq_true hb4')
      (cbv; try simp only [nc] at *)
      simp only [hx, hcut.2]
      refine Chk.mk (by (try simp only [nc, allc0, allc1, allcE, allcI, Cn.p, and_true, true_and, decide_eq_true_eq, imp_self, List.length_cons, List.length_nil]); all_goals ((repeat' (first | apply And.intro | intro _)) <;> first | omega | rfl | exact Or.inl rfl | assumption | exact nb1 (by assumption) | exact nb2 (by assumption) | exact nb3 (by assumption) | exact nb4 (by assumption) | decide | decide +kernel | (simp [*]; done))) ?_
      refine Br.isF (by rw [decide_eq_false (by omega)]; simp) ?_
      (cbv; (try simp only [nc] at *); (try refine Chk.mk (by (try simp only [nc, allc0, allc1, allcE, allcI, Cn.p, and_true, true_and, decide_eq_true_eq, imp_self, List.length_cons, List.length_nil]); all_goals ((repeat' (first | apply And.intro | intro _)) <;> first | omega | rfl | exact Or.inl rfl | assumption | exact nb1 (by assumption) | exact nb2 (by assumption) | exact nb3 (by assumption) | exact nb4 (by assumption) | decide | decide +kernel | (simp [*]; done))) ?_))
      refine ⟨(i + 1, at_ + 1, o, s), ⟨by show i + 1 ≤ R1.length; omega, hnx.symm, hf, ho⟩, by show R1.length - (i + 1) + 0 < R1.length - i + 0; omega, ?_⟩
      (refine To.of [] ?_; cbv; (try simp only [nc]); (repeat' (first | exact trivial | exact WkN.refl _ | exact WkB.refl _ | refine ⟨?_, ?_⟩ | refine WkB.cells ?_ | refine WkN.agg ?_ | refine WkN.tup ?_)); (all_goals (first | exact .int rfl | exact .int (by first | omega | (simp only [nc]; omega) | (simp; done)) | exact .bool rfl | exact .snoc hnt rfl rfl rfl | exact .snoc hnt rfl rfl (by simp only [encZone, encTrain, lst_nt hnt]; rfl) | exact lit_nt hnt _ _ _ _ rfl | exact take_nt hnt (by omega) | exact lstR_wk hnt | exact .tok rfl | exact .tok (by simp) | exact .lst hnt rfl | exact .gsl (by simp) | exact .empty rfl | exact .nilOwn (by decide) (by decide) rfl | exact .nilGar (by decide) (by decide) rfl | exact .gd (by first | assumption | decide | (simp [*]; done)) (.refl _) | skip)))
    · have hb4' : ¬ m < x.arrive := by simpa using hb4
      rw [if_neg hb4'] at hf hnx
      unfold RideB InT at hxb
      generalize hV : wGo x.arrive (-1) R2 = V at *
      (cbv; (try simp only [nc] at *); (try refine Chk.mk (by (try simp only [nc, allc0, allc1, allcE, allcI, Cn.p, and_true, true_and, decide_eq_true_eq, imp_self, List.length_cons, List.length_nil]); all_goals ((repeat' (first | apply And.intro | intro _)) <;> first | omega | rfl | exact Or.inl rfl | assumption | exact nb1 (by assumption) | exact nb2 (by assumption) | exact nb3 (by assumption) | exact nb4 (by assumption) | decide | decide +kernel | (simp [*]; done))) ?_))
      refine loopQ fun Q hQ => ?_
      refine loopS false false [] [6, 8, 10, 12, 13, 14, 16, 17, 18, 19, 20, 21] [] (fun (⟨k, w⟩ : Nat × Int) => [(20, .int .i64 fun _ => w), (21, .int .i64 fun _ => (k : Int))]) (fun _ => []) (fun ⟨k, w⟩ => k ≤ R2.length ∧ (-1 ≤ w ∧ w ≤ 1099511627776) ∧ wGo x.arrive w (R2.drop k) = V) (fun i => R2.length - i.1 + 0) (0, -1) ⟨Nat.zero_le _, by omega, by simpa using hV⟩ ?_ ?_
      · (refine To.of [] ?_; cbv; (try simp only [nc]); (repeat' (first | exact trivial | exact WkN.refl _ | exact WkB.refl _ | refine ⟨?_, ?_⟩ | refine WkB.cells ?_ | refine WkN.agg ?_ | refine WkN.tup ?_)); (all_goals (first | exact .int rfl | exact .int (by first | omega | (simp only [nc]; omega) | (simp; done)) | exact .bool rfl | exact .snoc hnt rfl rfl rfl | exact .snoc hnt rfl rfl (by simp only [encZone, encTrain, lst_nt hnt]; rfl) | exact lit_nt hnt _ _ _ _ rfl | exact take_nt hnt (by omega) | exact lstR_wk hnt | exact .tok rfl | exact .tok (by simp) | exact .lst hnt rfl | exact .gsl (by simp) | exact .empty rfl | exact .nilOwn (by decide) (by decide) rfl | exact .nilGar (by decide) (by decide) rfl | exact .gd (by first | assumption | decide | (simp [*]; done)) (.refl _) | skip)))
      rintro ⟨k, w⟩ ⟨hk2, hw, hv⟩
      have hk2 : k ≤ R2.length := hk2
      have hw : -1 ≤ w ∧ w ≤ 1099511627776 := hw
      have hv : wGo x.arrive w (R2.drop k) = V := hv
      (cbv; (try simp only [nc] at *); (try refine Chk.mk (by (try simp only [nc, allc0, allc1, allcE, allcI, Cn.p, and_true, true_and, decide_eq_true_eq, imp_self, List.length_cons, List.length_nil]); all_goals ((repeat' (first | apply And.intro | intro _)) <;> first | omega | rfl | exact Or.inl rfl | assumption | exact nb1 (by assumption) | exact nb2 (by assumption) | exact nb3 (by assumption) | exact nb4 (by assumption) | decide | decide +kernel | (simp [*]; done))) ?_))
      refine ⟨fun hb5 => ?_, fun hb5 => ?_⟩
      · simp only [decide_eq_true_eq] at hb5
        have hk' : k < R2.length := by omega
        rw [nt_drop (d := default) hnt (l := R2) (i := k) hk'] at hv
        have hyb := b2 _ (nt_mem (d := default) hnt (l := R2) (i := k) hk')
        generalize hy : nt Sp.Ride default R2 (k : Int) = y at *
        change wGo x.arrive (if 0 ≤ y.depart - x.arrive ∧ (w < 0 ∨ y.depart - x.arrive < w) then y.depart - x.arrive else w) (R2.drop (k + 1)) = V at hv
        unfold RideB InT at hyb
        (cbv; try simp only [nc] at *)
        simp only [hx, hy]
        refine Chk.mk ?_ ?_
        · simp only [nc, allc0, allc1, allcE, allcI, Cn.p, and_true, true_and, decide_eq_true_eq, imp_self, List.length_cons, List.length_nil]
          exact ⟨by decide +kernel, ⟨by omega, by omega⟩, ⟨by omega, by omega⟩, ⟨by omega, by omega⟩, fun h1 h2 => by rw [decide_eq_true h1, h2]; rfl⟩
        refine ⟨fun hb6 => ?_, fun hb6 => ?_⟩
        · have hc : 0 ≤ y.depart - x.arrive ∧ (w < 0 ∨ y.depart - x.arrive < w) := by
            have := bif_and hb6
            refine ⟨by simpa using this.1, ?_⟩
            have := this.2
            by_cases h : w < 0
            · exact .inl h
            · rw [decide_eq_false h] at this
              exact .inr (by simpa using this)
          rw [if_pos hc] at hv
          (cbv; (try simp only [nc] at *); (try refine Chk.mk (by (try simp only [nc, allc0, allc1, allcE, allcI, Cn.p, and_true, true_and, decide_eq_true_eq, imp_self, List.length_cons, List.length_nil]); all_goals ((repeat' (first | apply And.intro | intro _)) <;> first | omega | rfl | exact Or.inl rfl | assumption | exact nb1 (by assumption) | exact nb2 (by assumption) | exact nb3 (by assumption) | exact nb4 (by assumption) | decide | decide +kernel | (simp [*]; done))) ?_))
          refine ⟨(k + 1, y.depart - x.arrive), ⟨by show k + 1 ≤ R2.length; omega, by dsimp only; omega, hv⟩, by show R2.length - (k + 1) + 0 < R2.length - k + 0; omega, ?_⟩
          (refine To.of [] ?_; cbv; (try simp only [nc]); (repeat' (first | exact trivial | exact WkN.refl _ | exact WkB.refl _ | refine ⟨?_, ?_⟩ | refine WkB.cells ?_ | refine WkN.agg ?_ | refine WkN.tup ?_)); (all_goals (first | exact .int rfl | exact .int (by first | omega | (simp only [nc]; omega) | (simp; done)) | exact .bool rfl | exact .snoc hnt rfl rfl rfl | exact .snoc hnt rfl rfl (by simp only [encZone, encTrain, lst_nt hnt]; rfl) | exact lit_nt hnt _ _ _ _ rfl | exact take_nt hnt (by omega) | exact lstR_wk hnt | exact .tok rfl | exact .tok (by simp) | exact .lst hnt rfl | exact .gsl (by simp) | exact .empty rfl | exact .nilOwn (by decide) (by decide) rfl | exact .nilGar (by decide) (by decide) rfl | exact .gd (by first | assumption | decide | (simp [*]; done)) (.refl _) | skip)))
        · have hc : ¬ (0 ≤ y.depart - x.arrive ∧ (w < 0 ∨ y.depart - x.arrive < w)) := by
            rintro ⟨h1, h2⟩
            rw [decide_eq_true h1] at hb6
            rcases h2 with h2 | h2
            · rw [decide_eq_true h2] at hb6; cases hb6
            · rw [decide_eq_true h2] at hb6
              cases h3 : decide (w < 0) <;> rw [h3] at hb6 <;> cases hb6
          rw [if_neg hc] at hv
          (cbv; (try simp only [nc] at *); (try refine Chk.mk (by (try simp only [nc, allc0, allc1, allcE, allcI, Cn.p, and_true, true_and, decide_eq_true_eq, imp_self, List.length_cons, List.length_nil]); all_goals ((repeat' (first | apply And.intro | intro _)) <;> first | omega | rfl | exact Or.inl rfl | assumption | exact nb1 (by assumption) | exact nb2 (by assumption) | exact nb3 (by assumption) | exact nb4 (by assumption) | decide | decide +kernel | (simp [*]; done))) ?_))
          refine ⟨(k + 1, w), ⟨by show k + 1 ≤ R2.length; omega, hw, hv⟩, by show R2.length - (k + 1) + 0 < R2.length - k + 0; omega, ?_⟩
          (refine To.of [] ?_; cbv; (try simp only [nc]); (repeat' (first | exact trivial | exact WkN.refl _ | exact WkB.refl _ | refine ⟨?_, ?_⟩ | refine WkB.cells ?_ | refine WkN.agg ?_ | refine WkN.tup ?_)); (all_goals (first | exact .int rfl | exact .int (by first | omega | (simp only [nc]; omega) | (simp; done)) | exact .bool rfl | exact .snoc hnt rfl rfl rfl | exact .snoc hnt rfl rfl (by simp only [encZone, encTrain, lst_nt hnt]; rfl) | exact lit_nt hnt _ _ _ _ rfl | exact take_nt hnt (by omega) | exact lstR_wk hnt | exact .tok rfl | exact .tok (by simp) | exact .lst hnt rfl | exact .gsl (by simp) | exact .empty rfl | exact .nilOwn (by decide) (by decide) rfl | exact .nilGar (by decide) (by decide) rfl | exact .gd (by first | assumption | decide | (simp [*]; done)) (.refl _) | skip)))
      · have hke2 : R2.length ≤ k := by simp only [decide_eq_false_iff_not] at hb5; omega
        rw [List.drop_eq_nil_of_le hke2] at hv
        have hv : w = V := hv
        subst hv
        (cbv; (try simp only [nc] at *); (try refine Chk.mk (by (try simp only [nc, allc0, allc1, allcE, allcI, Cn.p, and_true, true_and, decide_eq_true_eq, imp_self, List.length_cons, List.length_nil]); all_goals ((repeat' (first | apply And.intro | intro _)) <;> first | omega | rfl | exact Or.inl rfl | assumption | exact nb1 (by assumption) | exact nb2 (by assumption) | exact nb3 (by assumption) | exact nb4 (by assumption) | decide | decide +kernel | (simp [*]; done))) ?_))
        refine hQ _ _ _ ?_
        clear hQ
        (cbv; try simp only [nc] at *)
        cases s with
        | false =>
          refine Br.isT rfl ?_
          simp only [if_true] at hf
          (cbv; (try simp only [nc] at *); (try refine Chk.mk (by (try simp only [nc, allc0, allc1, allcE, allcI, Cn.p, and_true, true_and, decide_eq_true_eq, imp_self, List.length_cons, List.length_nil]); all_goals ((repeat' (first | apply And.intro | intro _)) <;> first | omega | rfl | exact Or.inl rfl | assumption | exact nb1 (by assumption) | exact nb2 (by assumption) | exact nb3 (by assumption) | exact nb4 (by assumption) | decide | decide +kernel | (simp [*]; done))) ?_))
          refine ⟨(i + 1, at_, _, true), ⟨by show i + 1 ≤ R1.length; omega, hnx.symm, hf, ?_⟩, by show R1.length - (i + 1) + 0 < R1.length - i + 0; omega, ?_⟩
          · simp only [if_neg (Int.lt_irrefl _)]
            omega
          · simp only [if_neg (Int.lt_irrefl _)]
            (refine To.of [] ?_; cbv; (try simp only [nc]); (repeat' (first | exact trivial | exact WkN.refl _ | exact WkB.refl _ | refine ⟨?_, ?_⟩ | refine WkB.cells ?_ | refine WkN.agg ?_ | refine WkN.tup ?_)); (all_goals (first | exact .int rfl | exact .int (by first | omega | (simp only [nc]; omega) | (simp; done)) | exact .bool rfl | exact .snoc hnt rfl rfl rfl | exact .snoc hnt rfl rfl (by simp only [encZone, encTrain, lst_nt hnt]; rfl) | exact lit_nt hnt _ _ _ _ rfl | exact take_nt hnt (by omega) | exact lstR_wk hnt | exact .tok rfl | exact .tok (by simp) | exact .lst hnt rfl | exact .gsl (by simp) | exact .empty rfl | exact .nilOwn (by decide) (by decide) rfl | exact .nilGar (by decide) (by decide) rfl | exact .gd (by first | assumption | decide | (simp [*]; done)) (.refl _) | skip)))
        | true =>
          refine Br.isF rfl ?_
          simp only [Bool.true_eq_false, if_false] at hf
          have hu : -1099511627776 ≤ (if w < o.fr then w else o.fr) ∧ (if w < o.fr then w else o.fr) ≤ 1099511627776 := by split <;> omega
          have hv : -1099511627776 ≤ (if o.to_ < w then w else o.to_) ∧ (if o.to_ < w then w else o.to_) ≤ 1099511627776 := by split <;> omega
          (cbv; try simp only [nc] at *)
          refine Chk.mk (by (try simp only [nc, allc0, allc1, allcE, allcI, Cn.p, and_true, true_and, decide_eq_true_eq, imp_self, List.length_cons, List.length_nil]); all_goals ((repeat' (first | apply And.intro | intro _)) <;> first | omega | rfl | exact Or.inl rfl | assumption | exact nb1 (by assumption) | exact nb2 (by assumption) | exact nb3 (by assumption) | exact nb4 (by assumption) | decide | decide +kernel | (simp [*]; done))) ?_
          generalize (if w < o.fr then w else o.fr) = u at *
          generalize (if o.to_ < w then w else o.to_) = v at *
          refine ⟨(i + 1, at_, ⟨u, v⟩, true), ⟨by show i + 1 ≤ R1.length; omega, hnx.symm, hf, hu, hv⟩, by show R1.length - (i + 1) + 0 < R1.length - i + 0; omega, ?_⟩
          (refine To.of [] ?_; cbv; (try simp only [nc]); (repeat' (first | exact trivial | exact WkN.refl _ | exact WkB.refl _ | refine ⟨?_, ?_⟩ | refine WkB.cells ?_ | refine WkN.agg ?_ | refine WkN.tup ?_)); (all_goals (first | exact .int rfl | exact .int (by first | omega | (simp only [nc]; omega) | (simp; done)) | exact .bool rfl | exact .snoc hnt rfl rfl rfl | exact .snoc hnt rfl rfl (by simp only [encZone, encTrain, lst_nt hnt]; rfl) | exact lit_nt hnt _ _ _ _ rfl | exact take_nt hnt (by omega) | exact lstR_wk hnt | exact .tok rfl | exact .tok (by simp) | exact .lst hnt rfl | exact .gsl (by simp) | exact .empty rfl | exact .nilOwn (by decide) (by decide) rfl | exact .nilGar (by decide) (by decide) rfl | exact .gd (by first | assumption | decide | (simp [*]; done)) (.refl _) | skip)))
  · have hie : R1.length ≤ i := by simp only [decide_eq_false_iff_not] at hb3; omega
    rw [List.take_of_length_le hie] at ha
    rw [List.drop_eq_nil_of_le hie] at hf
    have hf : (o, s) = O := hf
    have hat : at_ = F.length := by rw [ha, ← hF, List.length_map]
    clear ha
    subst hat
    subst hf
    dsimp only at hW
    (cbv; try simp only [nc] at *)
    rcases hW with ⟨rfl, rfl⟩ | ⟨rfl, rfl⟩
    · refine Chk.mk ?_ ?_
      · simp only [nc, allc0, allc1, allcE, allcI, Cn.p, and_true, true_and, decide_eq_true_eq, imp_self, List.length_cons, List.length_nil]
        intro _ h
        cases h
      refine Br.isT (by simp) ?_
      (cbv; (try simp only [nc] at *); (try refine Chk.mk (by (try simp only [nc, allc0, allc1, allcE, allcI, Cn.p, and_true, true_and, decide_eq_true_eq, imp_self, List.length_cons, List.length_nil]); all_goals ((repeat' (first | apply And.intro | intro _)) <;> first | omega | rfl | exact Or.inl rfl | assumption | exact nb1 (by assumption) | exact nb2 (by assumption) | exact nb3 (by assumption) | exact nb4 (by assumption) | decide | decide +kernel | (simp [*]; done))) ?_))
      refine call0 (c18) (by first | rfl | (simp only [zoneA, bookA, lst_nt hnt]; rfl)) fun r h₂ hp => ?_
      (try simp only [zoneA, bookA, lst_nt hnt] at hp)
      obtain ⟨rfl, rfl⟩ := hp
      (cbv; (try simp only [nc] at *); (try refine Chk.mk (by (try simp only [nc, allc0, allc1, allcE, allcI, Cn.p, and_true, true_and, decide_eq_true_eq, imp_self, List.length_cons, List.length_nil]); all_goals ((repeat' (first | apply And.intro | intro _)) <;> first | omega | rfl | exact Or.inl rfl | assumption | exact nb1 (by assumption) | exact nb2 (by assumption) | exact nb3 (by assumption) | exact nb4 (by assumption) | decide | decide +kernel | (simp [*]; done))) ?_))
      simp
    · refine Chk.mk (by (try simp only [nc, allc0, allc1, allcE, allcI, Cn.p, and_true, true_and, decide_eq_true_eq, imp_self, List.length_cons, List.length_nil]); all_goals ((repeat' (first | apply And.intro | intro _)) <;> first | omega | rfl | exact Or.inl rfl | assumption | exact nb1 (by assumption) | exact nb2 (by assumption) | exact nb3 (by assumption) | exact nb4 (by assumption) | decide | decide +kernel | (simp [*]; done))) ?_
      refine Br.isT (by simp) ?_
      (cbv; (try simp only [nc] at *); (try refine Chk.mk (by (try simp only [nc, allc0, allc1, allcE, allcI, Cn.p, and_true, true_and, decide_eq_true_eq, imp_self, List.length_cons, List.length_nil]); all_goals ((repeat' (first | apply And.intro | intro _)) <;> first | omega | rfl | exact Or.inl rfl | assumption | exact nb1 (by assumption) | exact nb2 (by assumption) | exact nb3 (by assumption) | exact nb4 (by assumption) | decide | decide +kernel | (simp [*]; done))) ?_))
      refine call0 (c18) (by first | rfl | (simp only [zoneA, bookA, lst_nt hnt]; rfl)) fun r h₂ hp => ?_
      (try simp only [zoneA, bookA, lst_nt hnt] at hp)
      obtain ⟨rfl, rfl⟩ := hp
      (cbv; (try simp only [nc] at *); (try refine Chk.mk (by (try simp only [nc, allc0, allc1, allcE, allcI, Cn.p, and_true, true_and, decide_eq_true_eq, imp_self, List.length_cons, List.length_nil]); all_goals ((repeat' (first | apply And.intro | intro _)) <;> first | omega | rfl | exact Or.inl rfl | assumption | exact nb1 (by assumption) | exact nb2 (by assumption) | exact nb3 (by assumption) | exact nb4 (by assumption) | decide | decide +kernel | (simp [*]; done))) ?_))
      simp
end Go.Proofs.Ytlcgliadpalgfaa.Vm
