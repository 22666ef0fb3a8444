/- Contracts: the rides of a leg, as the law finds them. -/
import Derived.Test.YtlcgliadpalgfaaRp
set_option linter.unusedSimpArgs false
set_option linter.unusedVariables false
namespace Go.Proofs.Ytlcgliadpalgfaa.Vm
open Go Go.Proofs Sp
set_option maxRecDepth 100000
set_option maxHeartbeats 1600000

theorem ridesL_app (b : Book) (g : Sp.Leg) (l m : List (Train × Int)) : ridesL b g (l ++ m) = ridesL b g l ++ m.filterMap (rideOf b g) := List.filterMap_append ..

theorem bif_and {a b : Bool} (h : (bif a then b else false) = true) : a = true ∧ b = true := by cases a; cases h; exact ⟨rfl, h⟩

theorem c20 (b : Book) (g : Sp.Leg) {tr days : Int} (hb : BMade tr days b) (hchk : Check b = 0) (hfit : BookFit b) : SC (fun _ => Try.prog) 20 [bookA b, legA g] [] fun v h => v = .tup [lst 3 encRide default (rides b g), .bool fun _ => true] ∧ h = [] := by
  obtain ⟨nt, hnt⟩ := nth_ex
  have hok := book_ok hchk
  have hlast := hok.last
  refine SC.less (conX false false [] Try.func20 (body := bodyOf Try.f20) rfl (by decide +kernel) ?_)
  unfold bookA legA
  simp only [lst_nt hnt]
  have hO := fun d => runsTo_len hok d
  (cbv; (try simp only [nc] at *); (try refine Chk.mk (by (try simp only [nc, allc0, allc1, allcE, allcI, Cn.p, and_true, true_and, decide_eq_true_eq, imp_self, List.length_cons, List.length_nil]); all_goals ((repeat' (first | apply And.intro | intro _)) <;> first | omega | rfl | exact Or.inl rfl | assumption | exact nb1 (by assumption) | exact nb2 (by assumption) | exact nb3 (by assumption) | exact nb4 (by assumption) | decide | decide +kernel | (simp [*]; done))) ?_))
  refine loopS false false [] [2, 3, 6, 7] [.tok 3 fun _ => 0] (fun (d : Nat) => [(6, .isl 3 (fun _ => ((ridesL b g (runsTo b d)).length : Int)) (fun e => encRide (nt Sp.Ride default (ridesL b g (runsTo b d)) (e ()))) (.own 2)), (7, .int .i64 fun _ => d)])
    (fun d => [(2, .tok 3 fun _ => ((ridesL b g (runsTo b d)).length : Int))]) (fun d => (d : Int) ≤ b.last + 1) (fun d => (b.last + 1).toNat - d + 0) 0 (by omega) ?_ ?_
  · (refine To.of [(3,false)] ?_; cbv; (try simp only [nc]); (repeat' (first | exact trivial | exact WkN.refl _ | exact WkB.refl _ | refine ⟨?_, ?_⟩ | refine WkB.cells ?_ | refine WkN.agg ?_ | refine WkN.tup ?_)); (all_goals (first | exact .int rfl | exact .int (by first | omega | (simp only [nc]; omega) | (simp; done)) | exact .bool rfl | exact .snoc hnt rfl rfl rfl | exact .snoc hnt rfl rfl (by simp only [encZone, encTrain, lst_nt hnt]; rfl) | exact lit_nt hnt _ _ _ _ rfl | exact take_nt hnt (by omega) | exact lstR_wk hnt | exact .tok rfl | exact .tok (by simp) | exact .lst hnt rfl | exact .gsl (by simp) | exact .empty rfl | exact .nilOwn (by decide) (by decide) rfl | exact .nilGar (by decide) (by decide) rfl | exact .gd (by first | assumption | decide | (simp [*]; done)) (.refl _) | skip)))
  intro d hd
  (cbv; (try simp only [nc] at *); (try refine Chk.mk (by (try simp only [nc, allc0, allc1, allcE, allcI, Cn.p, and_true, true_and, decide_eq_true_eq, imp_self, List.length_cons, List.length_nil]); all_goals ((repeat' (first | apply And.intro | intro _)) <;> first | omega | rfl | exact Or.inl rfl | assumption | exact nb1 (by assumption) | exact nb2 (by assumption) | exact nb3 (by assumption) | exact nb4 (by assumption) | decide | decide +kernel | (simp [*]; done))) ?_))
  refine ⟨fun hb1 => ?_, fun hb1 => ?_⟩
  · simp only [decide_eq_true_eq] at hb1
    obtain ⟨r1, r2, r3⟩ := run_rides hb hchk g hb1
    have k26 := c26 b g.number d hfit
    have hR := run_bd hb hchk g.number d
    have hnx : ridesL b g (runsTo b (d + 1)) = ridesL b g (runsTo b d) ++ rideC (Run b g.number d).1 g d := by rw [runsTo_succ, ridesL_app, r2]
    have hOl : (ridesL b g (runsTo b d)).length ≤ 1000 := by
      have h1 := hO d
      have h2 : (ridesL b g (runsTo b d)).length ≤ (runsTo b d).length := List.length_filterMap_le _ _
      omega
    clear r2
    generalize ridesL b g (runsTo b d) = O at *
    generalize Run b g.number d = R at *
    (cbv; (try simp only [nc] at *); (try refine Chk.mk (by (try simp only [nc, allc0, allc1, allcE, allcI, Cn.p, and_true, true_and, decide_eq_true_eq, imp_self, List.length_cons, List.length_nil]); all_goals ((repeat' (first | apply And.intro | intro _)) <;> first | omega | rfl | exact Or.inl rfl | assumption | exact nb1 (by assumption) | exact nb2 (by assumption) | exact nb3 (by assumption) | exact nb4 (by assumption) | decide | decide +kernel | (simp [*]; done))) ?_))
    refine call0 (k26) (by first | rfl | (simp only [zoneA, bookA, lst_nt hnt]; rfl)) fun r h₂ hp => ?_
    (try simp only [zoneA, bookA, lst_nt hnt] at hp)
    obtain ⟨rfl, rfl⟩ := hp
    (cbv; (try simp only [nc] at *); (try refine Chk.mk (by (try simp only [nc, allc0, allc1, allcE, allcI, Cn.p, and_true, true_and, decide_eq_true_eq, imp_self, List.length_cons, List.length_nil]); all_goals ((repeat' (first | apply And.intro | intro _)) <;> first | omega | rfl | exact Or.inl rfl | assumption | exact nb1 (by assumption) | exact nb2 (by assumption) | exact nb3 (by assumption) | exact nb4 (by assumption) | decide | decide +kernel | (simp [*]; done))) ?_))
    refine Br.isF (by rcases r1 with h | h | h <;> rw [h] <;> rfl) ?_
    have hC := R.1
    obtain ⟨C, e⟩ := R
    dsimp only at r1 r3 hR hnx
    obtain ⟨hCl, hCb⟩ := hR
    have hF := fun i (hi : i < C.length) => callAt_iff (k := 0) r3 (st := g.from_) (Nat.zero_le i) hi
    have hM := fun i (h1 : (callAt C g.from_ 0).toNat + 1 ≤ i) (hi : i < C.length) => callAt_iff r3 (st := g.to_) h1 hi
    have hFb := callAt_lt (C := C) (st := g.from_) (k := 0) (by omega)
    have hMb : 0 ≤ callAt C g.from_ 0 → callAt C g.to_ ((callAt C g.from_ 0).toNat + 1) = -1 ∨ callAt C g.from_ 0 < callAt C g.to_ ((callAt C g.from_ 0).toNat + 1) := fun h => by
      have := callAt_lt (C := C) (st := g.to_) (k := (callAt C g.from_ 0).toNat + 1) (by omega)
      omega
    have hMl : callAt C g.to_ ((callAt C g.from_ 0).toNat + 1) < C.length := by
      by_cases h : (callAt C g.from_ 0).toNat + 1 ≤ C.length
      · exact (callAt_lt (C := C) (st := g.to_) (k := (callAt C g.from_ 0).toNat + 1) h).2
      · have e : C = [] := List.eq_nil_of_length_eq_zero (by omega)
        subst e
        simp [callAt, indexFrom]
    have hr : ∀ f m : Nat, callAt C g.from_ 0 = f → callAt C g.to_ ((callAt C g.from_ 0).toNat + 1) = m → rideC C g d = [⟨d, (nt Sp.Call default C (f : Int)).depart, (nt Sp.Call default C (m : Int)).arrive⟩] := fun f m h1 h2 => by
      unfold rideC
      rw [h2, h1, if_pos ⟨by omega, by omega⟩, hnt, hnt]
    have hX0 : callAt C g.to_ ((callAt C g.from_ 0).toNat + 1) < 0 → rideC C g d = [] := fun h => by
      unfold rideC
      rw [if_neg (fun h' => by omega)]
    have hX1 : callAt C g.from_ 0 < 0 → rideC C g d = [] := fun h => by
      unfold rideC
      rw [if_neg (fun h' => by omega)]
    have hrl : (rideC C g d).length ≤ 1 := by unfold rideC; split <;> simp
    generalize rideC C g d = X at *
    generalize callAt C g.to_ ((callAt C g.from_ 0).toNat + 1) = M at *
    generalize callAt C g.from_ 0 = F at *
    (cbv; (try simp only [nc] at *); (try refine Chk.mk (by (try simp only [nc, allc0, allc1, allcE, allcI, Cn.p, and_true, true_and, decide_eq_true_eq, imp_self, List.length_cons, List.length_nil]); all_goals ((repeat' (first | apply And.intro | intro _)) <;> first | omega | rfl | exact Or.inl rfl | assumption | exact nb1 (by assumption) | exact nb2 (by assumption) | exact nb3 (by assumption) | exact nb4 (by assumption) | decide | decide +kernel | (simp [*]; done))) ?_))
    refine loopQ fun Q hQ => ?_
    refine loopS false false [] [2, 3, 6, 7, 8, 10, 11] [] (fun (⟨i, f, out⟩ : Nat × Int × List Sp.Ride) => [(6, .isl 3 (fun _ => (out.length : Int)) (fun e => encRide (nt Sp.Ride default out (e ()))) (.own 2)), (10, .int .i64 fun _ => f), (11, .int .i64 fun _ => i)])
      (fun ⟨i, f, out⟩ => [(2, .tok 3 fun _ => (out.length : Int))]) (fun ⟨i, f, out⟩ => i ≤ C.length ∧ f = (if F < i then F else -1) ∧ out = O ++ (if M < i then X else [])) (fun i => C.length - i.1 + 0) (0, -1, O) ⟨Nat.zero_le _, ?_, ?_⟩ ?_ ?_
    · split <;> omega
    · show O = O ++ (if M < ((0 : Nat) : Int) then X else [])
      split
      · rename_i h; rw [hX0 (by omega), List.append_nil]
      · rw [List.append_nil]
    · (refine To.of [] ?_; cbv; (try simp only [nc]); (repeat' (first | exact trivial | exact WkN.refl _ | exact WkB.refl _ | refine ⟨?_, ?_⟩ | refine WkB.cells ?_ | refine WkN.agg ?_ | refine WkN.tup ?_)); (all_goals (first | exact .int rfl | exact .int (by first | omega | (simp only [nc]; omega) | (simp; done)) | exact .bool rfl | exact .snoc hnt rfl rfl rfl | exact .snoc hnt rfl rfl (by simp only [encZone, encTrain, lst_nt hnt]; rfl) | exact lit_nt hnt _ _ _ _ rfl | exact take_nt hnt (by omega) | exact lstR_wk hnt | exact .tok rfl | exact .tok (by simp) | exact .lst hnt rfl | exact .gsl (by simp) | exact .empty rfl | exact .nilOwn (by decide) (by decide) rfl | exact .nilGar (by decide) (by decide) rfl | exact .gd (by first | assumption | decide | (simp [*]; done)) (.refl _) | skip)))
    rintro ⟨i, f, out⟩ ⟨hi, hf, ho⟩
    have hf : f = (if F < i then F else -1) := hf
    have ho : out = O ++ (if M < i then X else []) := ho
    have hol : out.length ≤ 1001 := by rw [ho, List.length_append]; split <;> (try simp only [List.length_nil]) <;> omega
    (cbv; (try simp only [nc] at *); (try refine Chk.mk (by (try simp only [nc, allc0, allc1, allcE, allcI, Cn.p, and_true, true_and, decide_eq_true_eq, imp_self, List.length_cons, List.length_nil]); all_goals ((repeat' (first | apply And.intro | intro _)) <;> first | omega | rfl | exact Or.inl rfl | assumption | exact nb1 (by assumption) | exact nb2 (by assumption) | exact nb3 (by assumption) | exact nb4 (by assumption) | decide | decide +kernel | (simp [*]; done))) ?_))
    refine ⟨fun hb2 => ?_, fun hb2 => ?_⟩
    · simp only [decide_eq_true_eq] at hb2
      have hF := hF i (by omega)
      have hM := fun h => hM i h (by omega)
      have e1 : C.getD i default = nt Sp.Call default C (i : Int) := by rw [hnt]; rfl
      rw [e1] at hF hM
      (cbv; (try simp only [nc] at *); (try refine Chk.mk (by (try simp only [nc, allc0, allc1, allcE, allcI, Cn.p, and_true, true_and, decide_eq_true_eq, imp_self, List.length_cons, List.length_nil]); all_goals ((repeat' (first | apply And.intro | intro _)) <;> first | omega | rfl | exact Or.inl rfl | assumption | exact nb1 (by assumption) | exact nb2 (by assumption) | exact nb3 (by assumption) | exact nb4 (by assumption) | decide | decide +kernel | (simp [*]; done))) ?_))
      have hfl : f < C.length ∧ -1 ≤ f := by rw [hf]; split <;> omega
      have hF2 : (if (nt Sp.Call default C (i : Int)).station = g.from_ then (i : Int) else f) = if F < (i + 1 : Nat) then F else -1 := by
        rw [hf]
        by_cases h : (nt Sp.Call default C (i : Int)).station = g.from_
        · have := hF.1 h
          rw [if_pos h, if_pos (by omega)]; omega
        · have : F ≠ i := fun h' => h (hF.2 h')
          rw [if_neg h]
          split <;> split <;> omega
      refine ⟨fun hb3 => ?_, fun hb3 => ?_⟩
      · have hb3' := bif_and hb3
        have hf0 : 0 ≤ f := by have := hb3'.1; simpa using this
        have hto : (nt Sp.Call default C (i : Int)).station = g.to_ := by have := hb3'.2; simpa using this
        have hFi : F < i ∧ f = F := by
          by_cases h : F < i
          · exact ⟨h, by rw [hf, if_pos h]⟩
          · rw [hf, if_neg h] at hf0; omega
        have hMi : M = i := (hM (by omega)).1 hto
        have hX := hr F.toNat i (by omega) hMi
        have ho2 : out ++ [⟨(d : Int), (nt Sp.Call default C f).depart, (nt Sp.Call default C (i : Int)).arrive⟩] = O ++ (if M < (i + 1 : Nat) then X else []) := by
          rw [ho, if_neg (by omega), if_pos (by omega), hX, List.append_nil, hFi.2]
          rw [show ((F.toNat : Nat) : Int) = F by omega]
        (cbv; (try simp only [nc] at *); (try refine Chk.mk (by (try simp only [nc, allc0, allc1, allcE, allcI, Cn.p, and_true, true_and, decide_eq_true_eq, imp_self, List.length_cons, List.length_nil]); all_goals ((repeat' (first | apply And.intro | intro _)) <;> first | omega | rfl | exact Or.inl rfl | assumption | exact nb1 (by assumption) | exact nb2 (by assumption) | exact nb3 (by assumption) | exact nb4 (by assumption) | decide | decide +kernel | (simp [*]; done))) ?_))
        refine ⟨fun hb4 => ?_, fun hb4 => ?_⟩
        · rw [if_pos (by simpa using hb4)] at hF2
          (cbv; (try simp only [nc] at *); (try refine Chk.mk (by (try simp only [nc, allc0, allc1, allcE, allcI, Cn.p, and_true, true_and, decide_eq_true_eq, imp_self, List.length_cons, List.length_nil]); all_goals ((repeat' (first | apply And.intro | intro _)) <;> first | omega | rfl | exact Or.inl rfl | assumption | exact nb1 (by assumption) | exact nb2 (by assumption) | exact nb3 (by assumption) | exact nb4 (by assumption) | decide | decide +kernel | (simp [*]; done))) ?_))
          refine ⟨(i + 1, (i : Int), out ++ [⟨(d : Int), (nt Sp.Call default C f).depart, (nt Sp.Call default C (i : Int)).arrive⟩]), ⟨by show i + 1 ≤ C.length; omega, hF2, ho2⟩, by show C.length - (i + 1) + 0 < C.length - i + 0; omega, ?_⟩
          (refine To.of [] ?_; cbv; (try simp only [nc]); (repeat' (first | exact trivial | exact WkN.refl _ | exact WkB.refl _ | refine ⟨?_, ?_⟩ | refine WkB.cells ?_ | refine WkN.agg ?_ | refine WkN.tup ?_)); (all_goals (first | exact .int rfl | exact .int (by first | omega | (simp only [nc]; omega) | (simp; done)) | exact .bool rfl | exact .snoc hnt rfl rfl rfl | exact .snoc hnt rfl rfl (by simp only [encZone, encTrain, lst_nt hnt]; rfl) | exact lit_nt hnt _ _ _ _ rfl | exact take_nt hnt (by omega) | exact lstR_wk hnt | exact .tok rfl | exact .tok (by simp) | exact .lst hnt rfl | exact .gsl (by simp) | exact .empty rfl | exact .nilOwn (by decide) (by decide) rfl | exact .nilGar (by decide) (by decide) rfl | exact .gd (by first | assumption | decide | (simp [*]; done)) (.refl _) | skip)))
        · rw [if_neg (by simpa using hb4)] at hF2
          (cbv; (try simp only [nc] at *); (try refine Chk.mk (by (try simp only [nc, allc0, allc1, allcE, allcI, Cn.p, and_true, true_and, decide_eq_true_eq, imp_self, List.length_cons, List.length_nil]); all_goals ((repeat' (first | apply And.intro | intro _)) <;> first | omega | rfl | exact Or.inl rfl | assumption | exact nb1 (by assumption) | exact nb2 (by assumption) | exact nb3 (by assumption) | exact nb4 (by assumption) | decide | decide +kernel | (simp [*]; done))) ?_))
          refine ⟨(i + 1, f, out ++ [⟨(d : Int), (nt Sp.Call default C f).depart, (nt Sp.Call default C (i : Int)).arrive⟩]), ⟨by show i + 1 ≤ C.length; omega, hF2, ho2⟩, by show C.length - (i + 1) + 0 < C.length - i + 0; omega, ?_⟩
          (refine To.of [] ?_; cbv; (try simp only [nc]); (repeat' (first | exact trivial | exact WkN.refl _ | exact WkB.refl _ | refine ⟨?_, ?_⟩ | refine WkB.cells ?_ | refine WkN.agg ?_ | refine WkN.tup ?_)); (all_goals (first | exact .int rfl | exact .int (by first | omega | (simp only [nc]; omega) | (simp; done)) | exact .bool rfl | exact .snoc hnt rfl rfl rfl | exact .snoc hnt rfl rfl (by simp only [encZone, encTrain, lst_nt hnt]; rfl) | exact lit_nt hnt _ _ _ _ rfl | exact take_nt hnt (by omega) | exact lstR_wk hnt | exact .tok rfl | exact .tok (by simp) | exact .lst hnt rfl | exact .gsl (by simp) | exact .empty rfl | exact .nilOwn (by decide) (by decide) rfl | exact .nilGar (by decide) (by decide) rfl | exact .gd (by first | assumption | decide | (simp [*]; done)) (.refl _) | skip)))
      · have ho2 : out = O ++ (if M < (i + 1 : Nat) then X else []) := by
          rw [ho]
          by_cases h : M = i
          · by_cases h0 : F < i ∧ 0 ≤ F
            · exfalso
              have h1 := (hM (by omega)).2 h
              rw [h1, hf, if_pos h0.1, decide_eq_true h0.2] at hb3
              simp at hb3
            · have hF0 : F < 0 := by
                have := hMb
                omega
              rw [hX1 hF0]
              split <;> split <;> rfl
          · congr 1
            split <;> split <;> first | rfl | omega
        (cbv; (try simp only [nc] at *); (try refine Chk.mk (by (try simp only [nc, allc0, allc1, allcE, allcI, Cn.p, and_true, true_and, decide_eq_true_eq, imp_self, List.length_cons, List.length_nil]); all_goals ((repeat' (first | apply And.intro | intro _)) <;> first | omega | rfl | exact Or.inl rfl | assumption | exact nb1 (by assumption) | exact nb2 (by assumption) | exact nb3 (by assumption) | exact nb4 (by assumption) | decide | decide +kernel | (simp [*]; done))) ?_))
        refine ⟨fun hb4 => ?_, fun hb4 => ?_⟩
        · rw [if_pos (by simpa using hb4)] at hF2
          (cbv; (try simp only [nc] at *); (try refine Chk.mk (by (try simp only [nc, allc0, allc1, allcE, allcI, Cn.p, and_true, true_and, decide_eq_true_eq, imp_self, List.length_cons, List.length_nil]); all_goals ((repeat' (first | apply And.intro | intro _)) <;> first | omega | rfl | exact Or.inl rfl | assumption | exact nb1 (by assumption) | exact nb2 (by assumption) | exact nb3 (by assumption) | exact nb4 (by assumption) | decide | decide +kernel | (simp [*]; done))) ?_))
          refine ⟨(i + 1, (i : Int), out), ⟨by show i + 1 ≤ C.length; omega, hF2, ho2⟩, by show C.length - (i + 1) + 0 < C.length - i + 0; omega, ?_⟩
          (refine To.of [] ?_; cbv; (try simp only [nc]); (repeat' (first | exact trivial | exact WkN.refl _ | exact WkB.refl _ | refine ⟨?_, ?_⟩ | refine WkB.cells ?_ | refine WkN.agg ?_ | refine WkN.tup ?_)); (all_goals (first | exact .int rfl | exact .int (by first | omega | (simp only [nc]; omega) | (simp; done)) | exact .bool rfl | exact .snoc hnt rfl rfl rfl | exact .snoc hnt rfl rfl (by simp only [encZone, encTrain, lst_nt hnt]; rfl) | exact lit_nt hnt _ _ _ _ rfl | exact take_nt hnt (by omega) | exact lstR_wk hnt | exact .tok rfl | exact .tok (by simp) | exact .lst hnt rfl | exact .gsl (by simp) | exact .empty rfl | exact .nilOwn (by decide) (by decide) rfl | exact .nilGar (by decide) (by decide) rfl | exact .gd (by first | assumption | decide | (simp [*]; done)) (.refl _) | skip)))
        · rw [if_neg (by simpa using hb4)] at hF2
          (cbv; (try simp only [nc] at *); (try refine Chk.mk (by (try simp only [nc, allc0, allc1, allcE, allcI, Cn.p, and_true, true_and, decide_eq_true_eq, imp_self, List.length_cons, List.length_nil]); all_goals ((repeat' (first | apply And.intro | intro _)) <;> first | omega | rfl | exact Or.inl rfl | assumption | exact nb1 (by assumption) | exact nb2 (by assumption) | exact nb3 (by assumption) | exact nb4 (by assumption) | decide | decide +kernel | (simp [*]; done))) ?_))
          refine ⟨(i + 1, f, out), ⟨by show i + 1 ≤ C.length; omega, hF2, ho2⟩, by show C.length - (i + 1) + 0 < C.length - i + 0; omega, ?_⟩
          (refine To.of [] ?_; cbv; (try simp only [nc]); (repeat' (first | exact trivial | exact WkN.refl _ | exact WkB.refl _ | refine ⟨?_, ?_⟩ | refine WkB.cells ?_ | refine WkN.agg ?_ | refine WkN.tup ?_)); (all_goals (first | exact .int rfl | exact .int (by first | omega | (simp only [nc]; omega) | (simp; done)) | exact .bool rfl | exact .snoc hnt rfl rfl rfl | exact .snoc hnt rfl rfl (by simp only [encZone, encTrain, lst_nt hnt]; rfl) | exact lit_nt hnt _ _ _ _ rfl | exact take_nt hnt (by omega) | exact lstR_wk hnt | exact .tok rfl | exact .tok (by simp) | exact .lst hnt rfl | exact .gsl (by simp) | exact .empty rfl | exact .nilOwn (by decide) (by decide) rfl | exact .nilGar (by decide) (by decide) rfl | exact .gd (by first | assumption | decide | (simp [*]; done)) (.refl _) | skip)))
    · (cbv; (try simp only [nc] at *); (try refine Chk.mk (by (try simp only [nc, allc0, allc1, allcE, allcI, Cn.p, and_true, true_and, decide_eq_true_eq, imp_self, List.length_cons, List.length_nil]); all_goals ((repeat' (first | apply And.intro | intro _)) <;> first | omega | rfl | exact Or.inl rfl | assumption | exact nb1 (by assumption) | exact nb2 (by assumption) | exact nb3 (by assumption) | exact nb4 (by assumption) | decide | decide +kernel | (simp [*]; done))) ?_))
      refine hQ _ _ _ ?_
      clear hQ
      have hie : i = C.length := by simp only [decide_eq_false_iff_not] at hb2; omega
      subst hie
      have ho : out = ridesL b g (runsTo b (d + 1)) := by rw [ho, hnx, if_pos (by omega)]
      subst ho
      (cbv; (try simp only [nc] at *); (try refine Chk.mk (by (try simp only [nc, allc0, allc1, allcE, allcI, Cn.p, and_true, true_and, decide_eq_true_eq, imp_self, List.length_cons, List.length_nil]); all_goals ((repeat' (first | apply And.intro | intro _)) <;> first | omega | rfl | exact Or.inl rfl | assumption | exact nb1 (by assumption) | exact nb2 (by assumption) | exact nb3 (by assumption) | exact nb4 (by assumption) | decide | decide +kernel | (simp [*]; done))) ?_))
      refine ⟨d + 1, by omega, by omega, ?_⟩
      (refine To.of [] ?_; cbv; (try simp only [nc]); (repeat' (first | exact trivial | exact WkN.refl _ | exact WkB.refl _ | refine ⟨?_, ?_⟩ | refine WkB.cells ?_ | refine WkN.agg ?_ | refine WkN.tup ?_)); (all_goals (first | exact .int rfl | exact .int (by first | omega | (simp only [nc]; omega) | (simp; done)) | exact .bool rfl | exact .snoc hnt rfl rfl rfl | exact .snoc hnt rfl rfl (by simp only [encZone, encTrain, lst_nt hnt]; rfl) | exact lit_nt hnt _ _ _ _ rfl | exact take_nt hnt (by omega) | exact lstR_wk hnt | exact .tok rfl | exact .tok (by simp) | exact .lst hnt rfl | exact .gsl (by simp) | exact .empty rfl | exact .nilOwn (by decide) (by decide) rfl | exact .nilGar (by decide) (by decide) rfl | exact .gd (by first | assumption | decide | (simp [*]; done)) (.refl _) | skip)))
  · have hde : d = (b.last + 1).toNat := by simp only [decide_eq_false_iff_not] at hb1; omega
    subst hde
    (cbv; (try simp only [nc] at *); (try refine Chk.mk (by (try simp only [nc, allc0, allc1, allcE, allcI, Cn.p, and_true, true_and, decide_eq_true_eq, imp_self, List.length_cons, List.length_nil]); all_goals ((repeat' (first | apply And.intro | intro _)) <;> first | omega | rfl | exact Or.inl rfl | assumption | exact nb1 (by assumption) | exact nb2 (by assumption) | exact nb3 (by assumption) | exact nb4 (by assumption) | decide | decide +kernel | (simp [*]; done))) ?_))
    refine ⟨_, [], ?_, rfl, rfl⟩
    unfold rides
    (refine To.of [] ?_; cbv; (try simp only [nc]); (repeat' (first | exact trivial | exact WkN.refl _ | exact WkB.refl _ | refine ⟨?_, ?_⟩ | refine WkB.cells ?_ | refine WkN.agg ?_ | refine WkN.tup ?_)); (all_goals (first | exact .int rfl | exact .int (by first | omega | (simp only [nc]; omega) | (simp; done)) | exact .bool rfl | exact .snoc hnt rfl rfl rfl | exact .snoc hnt rfl rfl (by simp only [encZone, encTrain, lst_nt hnt]; rfl) | exact lit_nt hnt _ _ _ _ rfl | exact take_nt hnt (by omega) | exact lstR_wk hnt | exact .tok rfl | exact .tok (by simp) | exact .lst hnt rfl | exact .gsl (by simp) | exact .empty rfl | exact .nilOwn (by decide) (by decide) rfl | exact .nilGar (by decide) (by decide) rfl | exact .gd (by first | assumption | decide | (simp [*]; done)) (.refl _) | skip)))
end Go.Proofs.Ytlcgliadpalgfaa.Vm
