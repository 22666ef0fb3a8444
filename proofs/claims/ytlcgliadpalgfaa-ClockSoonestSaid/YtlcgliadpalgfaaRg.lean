/- Contracts: legs made of numbers. -/
import Derived.Test.YtlcgliadpalgfaaRf
set_option linter.unusedSimpArgs false
set_option linter.unusedVariables false
namespace Go.Proofs.Ytlcgliadpalgfaa.Vm
open Go Go.Proofs Sp
set_option maxRecDepth 100000
set_option maxHeartbeats 1600000

/-- Legs that are made of numbers. -/
structure LegsMade (n : Int) (L : List Sp.Leg) : Prop where
  len : (L.length : Int) ≤ n
  ne : ∀ g ∈ L, g.from_ ≠ g.to_
  chain : ∀ i, i + 1 < L.length → (L.getD (i + 1) default).from_ = (L.getD i default).to_

theorem app_nt {nt : (α : Type) → α → List α → Int → α} (hnt : ∀ (α : Type) (d : α) (l : List α) (i : Int), nt α d l i = l.getD i.toNat d) {α : Type} {n k sz : Nat} {enc : α → List AV} {d : α} {l m : List α} {n0 n1 m' : Unit → Int} {f0 : (Unit → Int) → List AV} {tk : Tk} (h0 : n0 () = 0) (h1 : n1 () = (l.length : Int)) (hm : m' () = ((l ++ m).length : Int)) :
    WkN n k (.isl sz m' (snocF n1 (snocF n0 f0 fun e => enc (nt α d l (e ()))) fun e => enc (nt α d m (e ()))) tk) (.isl sz (fun _ => ((l ++ m).length : Int)) (fun e => enc (nt α d (l ++ m) (e ()))) .none) :=
  .none hm fun i hi => by
    show (if (i : Int) < n1 () then (if (i : Int) < n0 () then f0 (fun _ => (i : Int)) else enc (nt α d l ((i : Int) - n0 ()))) else enc (nt α d m ((i : Int) - n1 ()))) = enc (nt α d (l ++ m) (i : Int))
    simp only [hnt, List.getD_eq_getElem?_getD, Int.toNat_natCast]
    by_cases h : i < l.length
    · rw [if_pos (by omega), if_neg (by omega), h0, Int.sub_zero, Int.toNat_natCast, List.getElem?_append_left h]
    · rw [if_neg (by omega), h1, List.getElem?_append_right (by omega)]
      congr 3
      omega

theorem encTrain_nt {nt : (α : Type) → α → List α → Int → α} (hnt : ∀ (α : Type) (d : α) (l : List α) (i : Int), nt α d l i = l.getD i.toNat d) (t : Train) : encTrain t = [.int .i64 fun _ => t.number, .int .i64 fun _ => t.days, .isl 4 (fun _ => (t.stops.length : Int)) (fun e => encStop (nt Stop default t.stops (e ()))) .none] := by
  unfold encTrain
  rw [lst_nt hnt]

theorem LegsMade.snoc {n : Int} {L : List Sp.Leg} {g : Sp.Leg} (h : LegsMade n L) (hl : (L.length : Int) + 1 ≤ n) (hg : g.from_ ≠ g.to_) (hc : L = [] ∨ ∃ L' x, L = L' ++ [x] ∧ g.from_ = x.to_) : LegsMade n (L ++ [g]) := by
  refine ⟨by simp; omega, fun x hx => ?_, fun i hi => ?_⟩
  · rcases List.mem_append.1 hx with hx | hx
    · exact h.ne x hx
    · simp at hx; subst hx; exact hg
  · simp at hi
    by_cases h1 : i + 1 < L.length
    · have := h.chain i h1
      simp only [List.getD_eq_getElem?_getD] at this ⊢
      rw [List.getElem?_append_left h1, List.getElem?_append_left (by omega)]
      exact this
    · rcases hc with rfl | ⟨L', x, rfl, e⟩
      · simp at hi
      · simp at h1 hi
        have hi' : i = L'.length := by omega
        subst hi'
        simp only [List.getD_eq_getElem?_getD]
        simp [e]

theorem c16 (s most : Int) {tr days : Int} (b : Book) (hb : BMade tr days b) (htr : tr ≤ 4) (hm : 1 ≤ most ∧ most ≤ 100) : SC (fun _ => Try.prog) 16 [.ptr 0 0, bookA b, .int .i64 fun _ => most] [bagB s] fun v h => ∃ (L : List Sp.Leg) (s' : Int), LegsMade most L ∧ v = lst 3 encLeg default L ∧ h = [bagB s'] := by
  obtain ⟨nt, hnt⟩ := nth_ex
  have ho := hb.olen
  have hn := hb.nlen
  refine SC.less (conX false false [] Try.func16 (body := bodyOf Try.f16) rfl (by decide +kernel) ?_)
  unfold bookA
  simp only [lst_nt hnt]
  (cbv; (try simp only [nc] at *); (try refine Chk.mk (by (try simp only [nc, allc0, allc1, allcE, allcI, Cn.p, and_true, true_and, decide_eq_true_eq, imp_self, List.length_cons, List.length_nil]); all_goals ((repeat' (first | apply And.intro | intro _)) <;> first | omega | rfl | exact Or.inl rfl | assumption | exact nb1 (by assumption) | exact nb2 (by assumption) | exact nb3 (by assumption) | exact nb4 (by assumption) | decide | decide +kernel | (simp [*]; done))) ?_))
  refine callL [0] (c22 s 1 most (by omega) (by omega)) (by decide) (by simp) (by first | rfl | (simp only [zoneA, bookA, lst_nt hnt]; rfl)) (by first | rfl | (simp only [zoneA, bookA, lst_nt hnt]; rfl)) fun r h₂ hp => ?_
  (try simp only [zoneA, bookA, lst_nt hnt] at hp)
  obtain ⟨n0, s1, hn0, rfl, rfl⟩ := hp
  (cbv; (try simp only [nc] at *); (try refine Chk.mk (by (try simp only [nc, allc0, allc1, allcE, allcI, Cn.p, and_true, true_and, decide_eq_true_eq, imp_self, List.length_cons, List.length_nil]); all_goals ((repeat' (first | apply And.intro | intro _)) <;> first | omega | rfl | exact Or.inl rfl | assumption | exact nb1 (by assumption) | exact nb2 (by assumption) | exact nb3 (by assumption) | exact nb4 (by assumption) | decide | decide +kernel | (simp [*]; done))) ?_))
  have hA : ∀ t ∈ b.old ++ b.new, ∃ n, TMade b.zones.length 4 n t := fun t ht => by
    rcases List.mem_append.1 ht with ht | ht
    · obtain ⟨i, hi, rfl⟩ := List.mem_iff_getElem.1 ht
      exact ⟨_, hb.old.all i _ (List.getElem?_eq_getElem hi)⟩
    · obtain ⟨i, hi, rfl⟩ := List.mem_iff_getElem.1 ht
      exact ⟨_, hb.new.all i _ (List.getElem?_eq_getElem hi)⟩
  have hAl : 2 ≤ (b.old ++ b.new).length ∧ (b.old ++ b.new).length ≤ 8 := by rw [List.length_append]; omega
  refine loopS false false [] [0, 7, 8, 9, 10] [.tok 3 fun _ => 0] (fun (⟨n, a, L, s⟩ : Int × Int × List Sp.Leg × Int) => [(7, .isl 3 (fun _ => ((b.old ++ b.new).length : Int)) (fun e => encTrain (nt Train default (b.old ++ b.new) (e ()))) .none), (8, .isl 3 (fun _ => (L.length : Int)) (fun e => encLeg (nt Sp.Leg default L (e ()))) (.own 3)), (9, .int .i64 fun _ => a), (10, .int .i64 fun _ => n)])
    (fun ⟨n, a, L, s⟩ => [(0, bagB s), (3, .tok 3 fun _ => (L.length : Int))]) (fun ⟨n, a, L, s⟩ => 0 ≤ n ∧ (L.length : Int) + n ≤ most ∧ LegsMade most L ∧ ((L = [] ∧ a = -1) ∨ ∃ L' x, L = L' ++ [x] ∧ a = x.to_ ∧ 0 ≤ a)) (fun i => i.1.toNat + 0) (n0, -1, [], s1) ⟨by omega, by show (([] : List Sp.Leg).length : Int) + n0 ≤ most; simp; omega, ⟨by simp; omega, by simp, by simp⟩, .inl ⟨rfl, rfl⟩⟩ ?_ ?_
  · (refine To.of [(3,false)] ?_; cbv; (try simp only [nc]); (repeat' (first | exact trivial | exact WkN.refl _ | exact WkB.refl _ | refine ⟨?_, ?_⟩ | refine WkB.cells ?_ | refine WkN.agg ?_ | refine WkN.tup ?_)); (all_goals (first | exact .int rfl | exact .int (by first | omega | (simp only [nc]; omega) | (simp; done)) | exact .bool rfl | exact .snoc hnt rfl rfl rfl | exact .snoc hnt rfl rfl (by simp only [encZone, encTrain, lst_nt hnt]; rfl) | exact lit_nt hnt _ _ _ _ rfl | exact take_nt hnt (by omega) | exact lstR_wk hnt | exact .tok rfl | exact .tok (by simp) | exact .lst hnt rfl | exact .gsl (by simp) | exact .empty rfl | exact .nilOwn (by decide) (by decide) rfl | exact .nilGar (by decide) (by decide) rfl | exact .gd (by first | assumption | decide | (simp [*]; done)) (.refl _) | skip)))
    exact app_nt hnt rfl (by simp) (by simp)
  rintro ⟨n, a, L, s⟩ ⟨h1, h2, h3, h4⟩
  have h2 : (L.length : Int) + n ≤ most := h2
  have h1 : 0 ≤ n := h1
  generalize b.old ++ b.new = A at *
  simp only [encTrain_nt hnt]
  (cbv; (try simp only [nc] at *); (try refine Chk.mk (by (try simp only [nc, allc0, allc1, allcE, allcI, Cn.p, and_true, true_and, decide_eq_true_eq, imp_self, List.length_cons, List.length_nil]); all_goals ((repeat' (first | apply And.intro | intro _)) <;> first | omega | rfl | exact Or.inl rfl | assumption | exact nb1 (by assumption) | exact nb2 (by assumption) | exact nb3 (by assumption) | exact nb4 (by assumption) | decide | decide +kernel | (simp [*]; done))) ?_))
  refine ⟨fun hb1 => ?_, fun hb1 => ?_⟩
  · simp only [decide_eq_true_eq] at hb1
    (cbv; (try simp only [nc] at *); (try refine Chk.mk (by (try simp only [nc, allc0, allc1, allcE, allcI, Cn.p, and_true, true_and, decide_eq_true_eq, imp_self, List.length_cons, List.length_nil]); all_goals ((repeat' (first | apply And.intro | intro _)) <;> first | omega | rfl | exact Or.inl rfl | assumption | exact nb1 (by assumption) | exact nb2 (by assumption) | exact nb3 (by assumption) | exact nb4 (by assumption) | decide | decide +kernel | (simp [*]; done))) ?_))
    refine callL [0] (c17 s ((A.length : Int) - 1) (by omega)) (by decide) (by simp) (by first | rfl | (simp only [zoneA, bookA, lst_nt hnt]; rfl)) (by first | rfl | (simp only [zoneA, bookA, lst_nt hnt]; rfl)) fun r h₂ hp => ?_
    (try simp only [zoneA, bookA, lst_nt hnt] at hp)
    obtain ⟨x, s2, hx, rfl, rfl⟩ := hp
    (cbv; try simp only [nc] at *)
    obtain ⟨x, rfl⟩ : ∃ k : Nat, x = k := ⟨x.toNat, by omega⟩
    obtain ⟨num, hT⟩ := hA _ (nt_mem (d := default) hnt (l := A) (i := x) (by omega))
    have hTl := hT.len
    have hTs := hT.stop
    generalize nt Train default A (x : Int) = t at *
    refine Chk.mk (by (try simp only [nc, allc0, allc1, allcE, allcI, Cn.p, and_true, true_and, decide_eq_true_eq, imp_self, List.length_cons, List.length_nil]); all_goals ((repeat' (first | apply And.intro | intro _)) <;> first | omega | rfl | exact Or.inl rfl | assumption | exact nb1 (by assumption) | exact nb2 (by assumption) | exact nb3 (by assumption) | exact nb4 (by assumption) | decide | decide +kernel | (simp [*]; done))) ?_
    refine callL [0] (c17 s2 ((t.stops.length : Int) - 2) (by omega)) (by decide) (by simp) (by first | rfl | (simp only [zoneA, bookA, lst_nt hnt]; rfl)) (by first | rfl | (simp only [zoneA, bookA, lst_nt hnt]; rfl)) fun r h₂ hp => ?_
    (try simp only [zoneA, bookA, lst_nt hnt] at hp)
    obtain ⟨f0, s3, hf0, rfl, rfl⟩ := hp
    (cbv; (try simp only [nc] at *); (try refine Chk.mk (by (try simp only [nc, allc0, allc1, allcE, allcI, Cn.p, and_true, true_and, decide_eq_true_eq, imp_self, List.length_cons, List.length_nil]); all_goals ((repeat' (first | apply And.intro | intro _)) <;> first | omega | rfl | exact Or.inl rfl | assumption | exact nb1 (by assumption) | exact nb2 (by assumption) | exact nb3 (by assumption) | exact nb4 (by assumption) | decide | decide +kernel | (simp [*]; done))) ?_))
    refine loopQ fun Q hQ => ?_
    refine loopS false false [] [0, 7, 8, 9, 10, 11, 12, 13, 14] [] (fun (⟨k, f⟩ : Int × Int) => [(12, .int .i64 fun _ => f), (14, .int .i64 fun _ => k)]) (fun _ => []) (fun ⟨k, f⟩ => (0 ≤ k ∧ k ≤ (t.stops.length : Int) - 1) ∧ 0 ≤ f ∧ f ≤ (t.stops.length : Int) - 2) (fun i => ((t.stops.length : Int) - 1 - i.1).toNat + 0) (0, f0) ⟨⟨by omega, by omega⟩, by omega, by omega⟩ ?_ ?_
    · (refine To.of [] ?_; cbv; (try simp only [nc]); (repeat' (first | exact trivial | exact WkN.refl _ | exact WkB.refl _ | refine ⟨?_, ?_⟩ | refine WkB.cells ?_ | refine WkN.agg ?_ | refine WkN.tup ?_)); (all_goals (first | exact .int rfl | exact .int (by first | omega | (simp only [nc]; omega) | (simp; done)) | exact .bool rfl | exact .snoc hnt rfl rfl rfl | exact .snoc hnt rfl rfl (by simp only [encZone, encTrain, lst_nt hnt]; rfl) | exact lit_nt hnt _ _ _ _ rfl | exact take_nt hnt (by omega) | exact lstR_wk hnt | exact .tok rfl | exact .tok (by simp) | exact .lst hnt rfl | exact .gsl (by simp) | exact .empty rfl | exact .nilOwn (by decide) (by decide) rfl | exact .nilGar (by decide) (by decide) rfl | exact .gd (by first | assumption | decide | (simp [*]; done)) (.refl _) | skip)))
    rintro ⟨k, f⟩ ⟨hk, hf⟩
    have hk : 0 ≤ k ∧ k ≤ (t.stops.length : Int) - 1 := hk
    have hf : 0 ≤ f ∧ f ≤ (t.stops.length : Int) - 2 := hf
    (cbv; (try simp only [nc] at *); (try refine Chk.mk (by (try simp only [nc, allc0, allc1, allcE, allcI, Cn.p, and_true, true_and, decide_eq_true_eq, imp_self, List.length_cons, List.length_nil]); all_goals ((repeat' (first | apply And.intro | intro _)) <;> first | omega | rfl | exact Or.inl rfl | assumption | exact nb1 (by assumption) | exact nb2 (by assumption) | exact nb3 (by assumption) | exact nb4 (by assumption) | decide | decide +kernel | (simp [*]; done))) ?_))
    refine ⟨fun hb2 => ?_, fun hb2 => ?_⟩
    · simp only [decide_eq_true_eq] at hb2
      (cbv; (try simp only [nc] at *); (try refine Chk.mk (by (try simp only [nc, allc0, allc1, allcE, allcI, Cn.p, and_true, true_and, decide_eq_true_eq, imp_self, List.length_cons, List.length_nil]); all_goals ((repeat' (first | apply And.intro | intro _)) <;> first | omega | rfl | exact Or.inl rfl | assumption | exact nb1 (by assumption) | exact nb2 (by assumption) | exact nb3 (by assumption) | exact nb4 (by assumption) | decide | decide +kernel | (simp [*]; done))) ?_))
      refine ⟨fun hb3 => ?_, fun hb3 => ?_⟩
      · (cbv; (try simp only [nc] at *); (try refine Chk.mk (by (try simp only [nc, allc0, allc1, allcE, allcI, Cn.p, and_true, true_and, decide_eq_true_eq, imp_self, List.length_cons, List.length_nil]); all_goals ((repeat' (first | apply And.intro | intro _)) <;> first | omega | rfl | exact Or.inl rfl | assumption | exact nb1 (by assumption) | exact nb2 (by assumption) | exact nb3 (by assumption) | exact nb4 (by assumption) | decide | decide +kernel | (simp [*]; done))) ?_))
        refine ⟨(k + 1, k), ⟨⟨by show 0 ≤ k + 1; omega, by show k + 1 ≤ _; omega⟩, hk.1, by show k ≤ _; omega⟩, by show ((t.stops.length : Int) - 1 - (k + 1)).toNat + 0 < ((t.stops.length : Int) - 1 - k).toNat + 0; omega, ?_⟩
        (refine To.of [] ?_; cbv; (try simp only [nc]); (repeat' (first | exact trivial | exact WkN.refl _ | exact WkB.refl _ | refine ⟨?_, ?_⟩ | refine WkB.cells ?_ | refine WkN.agg ?_ | refine WkN.tup ?_)); (all_goals (first | exact .int rfl | exact .int (by first | omega | (simp only [nc]; omega) | (simp; done)) | exact .bool rfl | exact .snoc hnt rfl rfl rfl | exact .snoc hnt rfl rfl (by simp only [encZone, encTrain, lst_nt hnt]; rfl) | exact lit_nt hnt _ _ _ _ rfl | exact take_nt hnt (by omega) | exact lstR_wk hnt | exact .tok rfl | exact .tok (by simp) | exact .lst hnt rfl | exact .gsl (by simp) | exact .empty rfl | exact .nilOwn (by decide) (by decide) rfl | exact .nilGar (by decide) (by decide) rfl | exact .gd (by first | assumption | decide | (simp [*]; done)) (.refl _) | skip)))
      · (cbv; (try simp only [nc] at *); (try refine Chk.mk (by (try simp only [nc, allc0, allc1, allcE, allcI, Cn.p, and_true, true_and, decide_eq_true_eq, imp_self, List.length_cons, List.length_nil]); all_goals ((repeat' (first | apply And.intro | intro _)) <;> first | omega | rfl | exact Or.inl rfl | assumption | exact nb1 (by assumption) | exact nb2 (by assumption) | exact nb3 (by assumption) | exact nb4 (by assumption) | decide | decide +kernel | (simp [*]; done))) ?_))
        refine ⟨(k + 1, f), ⟨⟨by show 0 ≤ k + 1; omega, by show k + 1 ≤ _; omega⟩, hf⟩, by show ((t.stops.length : Int) - 1 - (k + 1)).toNat + 0 < ((t.stops.length : Int) - 1 - k).toNat + 0; omega, ?_⟩
        (refine To.of [] ?_; cbv; (try simp only [nc]); (repeat' (first | exact trivial | exact WkN.refl _ | exact WkB.refl _ | refine ⟨?_, ?_⟩ | refine WkB.cells ?_ | refine WkN.agg ?_ | refine WkN.tup ?_)); (all_goals (first | exact .int rfl | exact .int (by first | omega | (simp only [nc]; omega) | (simp; done)) | exact .bool rfl | exact .snoc hnt rfl rfl rfl | exact .snoc hnt rfl rfl (by simp only [encZone, encTrain, lst_nt hnt]; rfl) | exact lit_nt hnt _ _ _ _ rfl | exact take_nt hnt (by omega) | exact lstR_wk hnt | exact .tok rfl | exact .tok (by simp) | exact .lst hnt rfl | exact .gsl (by simp) | exact .empty rfl | exact .nilOwn (by decide) (by decide) rfl | exact .nilGar (by decide) (by decide) rfl | exact .gd (by first | assumption | decide | (simp [*]; done)) (.refl _) | skip)))
    · (cbv; (try simp only [nc] at *); (try refine Chk.mk (by (try simp only [nc, allc0, allc1, allcE, allcI, Cn.p, and_true, true_and, decide_eq_true_eq, imp_self, List.length_cons, List.length_nil]); all_goals ((repeat' (first | apply And.intro | intro _)) <;> first | omega | rfl | exact Or.inl rfl | assumption | exact nb1 (by assumption) | exact nb2 (by assumption) | exact nb3 (by assumption) | exact nb4 (by assumption) | decide | decide +kernel | (simp [*]; done))) ?_))
      refine hQ _ _ _ ?_
      clear hQ
      (cbv; (try simp only [nc] at *); (try refine Chk.mk (by (try simp only [nc, allc0, allc1, allcE, allcI, Cn.p, and_true, true_and, decide_eq_true_eq, imp_self, List.length_cons, List.length_nil]); all_goals ((repeat' (first | apply And.intro | intro _)) <;> first | omega | rfl | exact Or.inl rfl | assumption | exact nb1 (by assumption) | exact nb2 (by assumption) | exact nb3 (by assumption) | exact nb4 (by assumption) | decide | decide +kernel | (simp [*]; done))) ?_))
      refine callL [0] (c22 s3 (f + 1) ((t.stops.length : Int) - 1) (by omega) (by omega)) (by decide) (by simp) (by first | rfl | (simp only [zoneA, bookA, lst_nt hnt]; rfl)) (by first | rfl | (simp only [zoneA, bookA, lst_nt hnt]; rfl)) fun r h₂ hp => ?_
      (try simp only [zoneA, bookA, lst_nt hnt] at hp)
      obtain ⟨q, s4, hq, rfl, rfl⟩ := hp
      (cbv; try simp only [nc] at *)
      obtain ⟨f, rfl⟩ : ∃ k : Nat, f = k := ⟨f.toNat, by omega⟩
      obtain ⟨q, rfl⟩ : ∃ k : Nat, q = k := ⟨q.toNat, by omega⟩
      have hs1 := (hTs _ (nt_mem (d := default) hnt (l := t.stops) (i := f) (by omega))).1
      have hs2 := (hTs _ (nt_mem (d := default) hnt (l := t.stops) (i := q) (by omega))).1
      generalize nt Stop default t.stops (f : Int) = x1 at *
      generalize nt Stop default t.stops (q : Int) = x2 at *
      refine Chk.mk (by (try simp only [nc, allc0, allc1, allcE, allcI, Cn.p, and_true, true_and, decide_eq_true_eq, imp_self, List.length_cons, List.length_nil]); all_goals ((repeat' (first | apply And.intro | intro _)) <;> first | omega | rfl | exact Or.inl rfl | assumption | exact nb1 (by assumption) | exact nb2 (by assumption) | exact nb3 (by assumption) | exact nb4 (by assumption) | decide | decide +kernel | (simp [*]; done))) ?_
      refine ⟨fun hb3 => ?_, fun hb3 => ?_⟩
      · simp only [decide_eq_true_eq] at hb3
        (cbv; (try simp only [nc] at *); (try refine Chk.mk (by (try simp only [nc, allc0, allc1, allcE, allcI, Cn.p, and_true, true_and, decide_eq_true_eq, imp_self, List.length_cons, List.length_nil]); all_goals ((repeat' (first | apply And.intro | intro _)) <;> first | omega | rfl | exact Or.inl rfl | assumption | exact nb1 (by assumption) | exact nb2 (by assumption) | exact nb3 (by assumption) | exact nb4 (by assumption) | decide | decide +kernel | (simp [*]; done))) ?_))
        refine ⟨fun hb4 => ?_, fun hb4 => ?_⟩
        · have hne : a ≠ x2.station := by simpa using hb4
          (cbv; (try simp only [nc] at *); (try refine Chk.mk (by (try simp only [nc, allc0, allc1, allcE, allcI, Cn.p, and_true, true_and, decide_eq_true_eq, imp_self, List.length_cons, List.length_nil]); all_goals ((repeat' (first | apply And.intro | intro _)) <;> first | omega | rfl | exact Or.inl rfl | assumption | exact nb1 (by assumption) | exact nb2 (by assumption) | exact nb3 (by assumption) | exact nb4 (by assumption) | decide | decide +kernel | (simp [*]; done))) ?_))
          refine ⟨(n - 1, x2.station, L ++ [⟨t.number, a, x2.station⟩], s4), ⟨by show 0 ≤ n - 1; omega, by dsimp only; rw [List.length_append]; simp only [List.length_cons, List.length_nil]; omega, h3.snoc (by omega) hne ?_, .inr ⟨L, _, rfl, rfl, hs2.1⟩⟩, by show (n - 1).toNat + 0 < n.toNat + 0; omega, ?_⟩
          · rcases h4 with h4 | ⟨L', x, e1, e2, _⟩
            · exact .inl h4.1
            · exact .inr ⟨L', x, e1, e2⟩
          · (refine To.of [] ?_; cbv; (try simp only [nc]); (repeat' (first | exact trivial | exact WkN.refl _ | exact WkB.refl _ | refine ⟨?_, ?_⟩ | refine WkB.cells ?_ | refine WkN.agg ?_ | refine WkN.tup ?_)); (all_goals (first | exact .int rfl | exact .int (by first | omega | (simp only [nc]; omega) | (simp; done)) | exact .bool rfl | exact .snoc hnt rfl rfl rfl | exact .snoc hnt rfl rfl (by simp only [encZone, encTrain, lst_nt hnt]; rfl) | exact lit_nt hnt _ _ _ _ rfl | exact take_nt hnt (by omega) | exact lstR_wk hnt | exact .tok rfl | exact .tok (by simp) | exact .lst hnt rfl | exact .gsl (by simp) | exact .empty rfl | exact .nilOwn (by decide) (by decide) rfl | exact .nilGar (by decide) (by decide) rfl | exact .gd (by first | assumption | decide | (simp [*]; done)) (.refl _) | skip)))
        · (cbv; (try simp only [nc] at *); (try refine Chk.mk (by (try simp only [nc, allc0, allc1, allcE, allcI, Cn.p, and_true, true_and, decide_eq_true_eq, imp_self, List.length_cons, List.length_nil]); all_goals ((repeat' (first | apply And.intro | intro _)) <;> first | omega | rfl | exact Or.inl rfl | assumption | exact nb1 (by assumption) | exact nb2 (by assumption) | exact nb3 (by assumption) | exact nb4 (by assumption) | decide | decide +kernel | (simp [*]; done))) ?_))
          refine ⟨(n - 1, a, L, s4), ⟨by show 0 ≤ n - 1; omega, by show (L.length : Int) + (n - 1) ≤ most; omega, h3, h4⟩, by show (n - 1).toNat + 0 < n.toNat + 0; omega, ?_⟩
          (refine To.of [] ?_; cbv; (try simp only [nc]); (repeat' (first | exact trivial | exact WkN.refl _ | exact WkB.refl _ | refine ⟨?_, ?_⟩ | refine WkB.cells ?_ | refine WkN.agg ?_ | refine WkN.tup ?_)); (all_goals (first | exact .int rfl | exact .int (by first | omega | (simp only [nc]; omega) | (simp; done)) | exact .bool rfl | exact .snoc hnt rfl rfl rfl | exact .snoc hnt rfl rfl (by simp only [encZone, encTrain, lst_nt hnt]; rfl) | exact lit_nt hnt _ _ _ _ rfl | exact take_nt hnt (by omega) | exact lstR_wk hnt | exact .tok rfl | exact .tok (by simp) | exact .lst hnt rfl | exact .gsl (by simp) | exact .empty rfl | exact .nilOwn (by decide) (by decide) rfl | exact .nilGar (by decide) (by decide) rfl | exact .gd (by first | assumption | decide | (simp [*]; done)) (.refl _) | skip)))
      · simp only [decide_eq_false_iff_not] at hb3
        have hL : L = [] := by
          rcases h4 with h4 | ⟨L', x, e1, e2, h5⟩
          · exact h4.1
          · exact absurd h5 hb3
        (cbv; (try simp only [nc] at *); (try refine Chk.mk (by (try simp only [nc, allc0, allc1, allcE, allcI, Cn.p, and_true, true_and, decide_eq_true_eq, imp_self, List.length_cons, List.length_nil]); all_goals ((repeat' (first | apply And.intro | intro _)) <;> first | omega | rfl | exact Or.inl rfl | assumption | exact nb1 (by assumption) | exact nb2 (by assumption) | exact nb3 (by assumption) | exact nb4 (by assumption) | decide | decide +kernel | (simp [*]; done))) ?_))
        refine ⟨fun hb4 => ?_, fun hb4 => ?_⟩
        · have hne : x1.station ≠ x2.station := by simpa using hb4
          (cbv; (try simp only [nc] at *); (try refine Chk.mk (by (try simp only [nc, allc0, allc1, allcE, allcI, Cn.p, and_true, true_and, decide_eq_true_eq, imp_self, List.length_cons, List.length_nil]); all_goals ((repeat' (first | apply And.intro | intro _)) <;> first | omega | rfl | exact Or.inl rfl | assumption | exact nb1 (by assumption) | exact nb2 (by assumption) | exact nb3 (by assumption) | exact nb4 (by assumption) | decide | decide +kernel | (simp [*]; done))) ?_))
          refine ⟨(n - 1, x2.station, L ++ [⟨t.number, x1.station, x2.station⟩], s4), ⟨by show 0 ≤ n - 1; omega, by dsimp only; rw [List.length_append]; simp only [List.length_cons, List.length_nil]; omega, h3.snoc (by omega) hne (.inl hL), .inr ⟨L, _, rfl, rfl, hs2.1⟩⟩, by show (n - 1).toNat + 0 < n.toNat + 0; omega, ?_⟩
          (refine To.of [] ?_; cbv; (try simp only [nc]); (repeat' (first | exact trivial | exact WkN.refl _ | exact WkB.refl _ | refine ⟨?_, ?_⟩ | refine WkB.cells ?_ | refine WkN.agg ?_ | refine WkN.tup ?_)); (all_goals (first | exact .int rfl | exact .int (by first | omega | (simp only [nc]; omega) | (simp; done)) | exact .bool rfl | exact .snoc hnt rfl rfl rfl | exact .snoc hnt rfl rfl (by simp only [encZone, encTrain, lst_nt hnt]; rfl) | exact lit_nt hnt _ _ _ _ rfl | exact take_nt hnt (by omega) | exact lstR_wk hnt | exact .tok rfl | exact .tok (by simp) | exact .lst hnt rfl | exact .gsl (by simp) | exact .empty rfl | exact .nilOwn (by decide) (by decide) rfl | exact .nilGar (by decide) (by decide) rfl | exact .gd (by first | assumption | decide | (simp [*]; done)) (.refl _) | skip)))
        · (cbv; (try simp only [nc] at *); (try refine Chk.mk (by (try simp only [nc, allc0, allc1, allcE, allcI, Cn.p, and_true, true_and, decide_eq_true_eq, imp_self, List.length_cons, List.length_nil]); all_goals ((repeat' (first | apply And.intro | intro _)) <;> first | omega | rfl | exact Or.inl rfl | assumption | exact nb1 (by assumption) | exact nb2 (by assumption) | exact nb3 (by assumption) | exact nb4 (by assumption) | decide | decide +kernel | (simp [*]; done))) ?_))
          refine ⟨(n - 1, a, L, s4), ⟨by show 0 ≤ n - 1; omega, by show (L.length : Int) + (n - 1) ≤ most; omega, h3, h4⟩, by show (n - 1).toNat + 0 < n.toNat + 0; omega, ?_⟩
          (refine To.of [] ?_; cbv; (try simp only [nc]); (repeat' (first | exact trivial | exact WkN.refl _ | exact WkB.refl _ | refine ⟨?_, ?_⟩ | refine WkB.cells ?_ | refine WkN.agg ?_ | refine WkN.tup ?_)); (all_goals (first | exact .int rfl | exact .int (by first | omega | (simp only [nc]; omega) | (simp; done)) | exact .bool rfl | exact .snoc hnt rfl rfl rfl | exact .snoc hnt rfl rfl (by simp only [encZone, encTrain, lst_nt hnt]; rfl) | exact lit_nt hnt _ _ _ _ rfl | exact take_nt hnt (by omega) | exact lstR_wk hnt | exact .tok rfl | exact .tok (by simp) | exact .lst hnt rfl | exact .gsl (by simp) | exact .empty rfl | exact .nilOwn (by decide) (by decide) rfl | exact .nilGar (by decide) (by decide) rfl | exact .gd (by first | assumption | decide | (simp [*]; done)) (.refl _) | skip)))
  · simp only [decide_eq_false_iff_not] at hb1
    (cbv; (try simp only [nc] at *); (try refine Chk.mk (by (try simp only [nc, allc0, allc1, allcE, allcI, Cn.p, and_true, true_and, decide_eq_true_eq, imp_self, List.length_cons, List.length_nil]); all_goals ((repeat' (first | apply And.intro | intro _)) <;> first | omega | rfl | exact Or.inl rfl | assumption | exact nb1 (by assumption) | exact nb2 (by assumption) | exact nb3 (by assumption) | exact nb4 (by assumption) | decide | decide +kernel | (simp [*]; done))) ?_))
    refine ⟨_, [bagB s], ?_, L, s, h3, rfl, rfl⟩
    (refine To.of [] ?_; cbv; (try simp only [nc]); (repeat' (first | exact trivial | exact WkN.refl _ | exact WkB.refl _ | refine ⟨?_, ?_⟩ | refine WkB.cells ?_ | refine WkN.agg ?_ | refine WkN.tup ?_)); (all_goals (first | exact .int rfl | exact .int (by first | omega | (simp only [nc]; omega) | (simp; done)) | exact .bool rfl | exact .snoc hnt rfl rfl rfl | exact .snoc hnt rfl rfl (by simp only [encZone, encTrain, lst_nt hnt]; rfl) | exact lit_nt hnt _ _ _ _ rfl | exact take_nt hnt (by omega) | exact lstR_wk hnt | exact .tok rfl | exact .tok (by simp) | exact .lst hnt rfl | exact .gsl (by simp) | exact .empty rfl | exact .nilOwn (by decide) (by decide) rfl | exact .nilGar (by decide) (by decide) rfl | exact .gd (by first | assumption | decide | (simp [*]; done)) (.refl _) | skip)))
end Go.Proofs.Ytlcgliadpalgfaa.Vm
