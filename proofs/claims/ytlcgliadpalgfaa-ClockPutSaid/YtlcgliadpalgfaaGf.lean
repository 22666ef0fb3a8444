/- Contracts: books made of numbers. -/
import Derived.Test.YtlcgliadpalgfaaGe
set_option linter.unusedSimpArgs false
set_option linter.unusedVariables false
namespace Go.Proofs.Ytlcgliadpalgfaa.Vm
open Go Go.Proofs Sp
set_option maxRecDepth 100000
set_option maxHeartbeats 1600000

theorem lstR_wk {nt : (α : Type) → α → List α → Int → α} (hnt : ∀ (α : Type) (d : α) (l : List α) (i : Int), nt α d l i = l.getD i.toNat d) {α : Type} {n k s : Nat} {enc : α → List AV} {d : α} {l : List α} {m : Unit → Int} {tk : Tk} : WkN n k (.isl s m (lstR enc d l) tk) (.isl s m (fun e => enc (nt α d l (e ()))) .none) :=
  .none rfl fun i _ => by rw [lstR_nt hnt]

/-- Trains that are made of numbers, with numbers that descend to 1. -/
structure LMade (zones n : Int) (l : List Train) : Prop where
  all : ∀ (k : Nat) t, l[k]? = some t → TMade zones 4 (n - k) t
/-- A book that is made of numbers. -/
structure BMade (trains days : Int) (b : Book) : Prop where
  zlen : 1 ≤ b.zones.length ∧ b.zones.length ≤ 3
  zones : ∀ z ∈ b.zones, ZMade 2 z
  olen : 1 ≤ (b.old.length : Int) ∧ ((b.old.length : Int) ≤ trains ∨ b.old.length = 1)
  nlen : 1 ≤ (b.new.length : Int) ∧ ((b.new.length : Int) ≤ trains ∨ b.new.length = 1)
  old : LMade b.zones.length b.old.length b.old
  new : LMade b.zones.length b.new.length b.new
  last : 0 ≤ b.last ∧ (b.last ≤ days ∨ b.last = 0)
  night : 0 ≤ b.night ∧ b.night ≤ b.last + 1

theorem LMade.snoc {zones n : Int} {l : List Train} {t : Train} (h : LMade zones n l) (ht : TMade zones 4 (n - l.length) t) : LMade zones n (l ++ [t]) := ⟨fun k x hk => by
  rw [List.getElem?_append] at hk
  split at hk
  · exact h.all k x hk
  · rename_i hge
    have : k = l.length := by
      rcases Nat.lt_or_ge (k - l.length) 1 with h1 | h1
      · omega
      · rw [List.getElem?_eq_none (by simpa using h1)] at hk; cases hk
    subst this
    simp at hk
    subst hk
    exact ht⟩

theorem TMade.with {zones n m : Int} {t u : Train} (ht : TMade zones 4 n t) (hu : TMade zones 4 m u) : TMade zones 4 n ⟨t.number, t.days, u.stops⟩ := ⟨ht.number, ht.days, hu.len, hu.stop, hu.nodup⟩

theorem c15 (s trains days : Int) (ht : 1 ≤ trains ∧ trains ≤ 100) (hd : 0 ≤ days ∧ days ≤ 13) : SC (fun _ => Try.prog) 15 [.ptr 0 0, .int .i64 fun _ => trains, .int .i64 fun _ => days] [bagB s] fun v h => ∃ (b : Book) (s' : Int), BMade trains days b ∧ v = bookA b ∧ h = [bagB s'] := by
  obtain ⟨nt, hnt⟩ := nth_ex
  refine SC.less (con Try.func15 (body := bodyOf Try.f15) rfl (by decide +kernel) ?_)
  (cbv; (try simp only [nc] at *); (try refine Chk.mk (by (try simp only [nc, allc0, allc1, allcE, allcI, Cn.p, and_true, true_and, decide_eq_true_eq, imp_self, List.length_cons, List.length_nil]); all_goals ((repeat' (first | apply And.intro | intro _)) <;> first | omega | rfl | exact Or.inl rfl | assumption | exact nb1 (by assumption) | exact nb2 (by assumption) | exact nb3 (by assumption) | exact nb4 (by assumption) | decide | decide +kernel | (simp [*]; done))) ?_))
  refine callL [0] (c17 s days (by omega)) (by decide) (by simp) (by first | rfl | (simp only [zoneA, bookA, lst_nt hnt]; rfl)) (by first | rfl | (simp only [zoneA, bookA, lst_nt hnt]; rfl)) fun r h₂ hp => ?_
  (try simp only [zoneA, bookA, lst_nt hnt] at hp)
  obtain ⟨last, s1, hlast, rfl, rfl⟩ := hp
  (cbv; (try simp only [nc] at *); (try refine Chk.mk (by (try simp only [nc, allc0, allc1, allcE, allcI, Cn.p, and_true, true_and, decide_eq_true_eq, imp_self, List.length_cons, List.length_nil]); all_goals ((repeat' (first | apply And.intro | intro _)) <;> first | omega | rfl | exact Or.inl rfl | assumption | exact nb1 (by assumption) | exact nb2 (by assumption) | exact nb3 (by assumption) | exact nb4 (by assumption) | decide | decide +kernel | (simp [*]; done))) ?_))
  refine callL [0] (c22 s1 1 3 (by omega) (by omega)) (by decide) (by simp) (by first | rfl | (simp only [zoneA, bookA, lst_nt hnt]; rfl)) (by first | rfl | (simp only [zoneA, bookA, lst_nt hnt]; rfl)) fun r h₂ hp => ?_
  (try simp only [zoneA, bookA, lst_nt hnt] at hp)
  obtain ⟨m, s2, hm, rfl, rfl⟩ := hp
  (cbv; (try simp only [nc] at *); (try refine Chk.mk (by (try simp only [nc, allc0, allc1, allcE, allcI, Cn.p, and_true, true_and, decide_eq_true_eq, imp_self, List.length_cons, List.length_nil]); all_goals ((repeat' (first | apply And.intro | intro _)) <;> first | omega | rfl | exact Or.inl rfl | assumption | exact nb1 (by assumption) | exact nb2 (by assumption) | exact nb3 (by assumption) | exact nb4 (by assumption) | decide | decide +kernel | (simp [*]; done))) ?_))
  obtain ⟨m, rfl⟩ : ∃ k : Nat, m = k := ⟨m.toNat, by omega⟩
  refine loopQ fun Q hQ => ?_
  refine loopS false false [] [0, 1, 6, 7, 8] [.tok 2 fun _ => 0] (fun (⟨i, s, zs⟩ : Nat × Int × List Zone) => [(8, .int .i64 fun _ => i)])
    (fun ⟨i, s, zs⟩ => [(0, bagB s), (2, .cells [.isl 2 (fun _ => (zs.length : Int)) (fun e => encZone (nt Zone default zs (e ()))) (.own 3), .isl 0 (fun _ => 0) (fun _ => []) .nil, .isl 0 (fun _ => 0) (fun _ => []) .nil, .int .i64 fun _ => 0, .int .i64 fun _ => last]), (3, .tok 2 fun _ => (zs.length : Int))])
    (fun ⟨i, s, zs⟩ => zs.length + i = m ∧ ∀ z ∈ zs, ZMade 2 z) (fun i => i.1 + 0) (m, s2, []) ⟨by simp, by simp⟩ ?_ ?_
  · (refine To.of [(2,false)] ?_; cbv; (try simp only [nc]); (repeat' (first | exact trivial | exact WkN.refl _ | exact WkB.refl _ | refine ⟨?_, ?_⟩ | refine WkB.cells ?_ | refine WkN.agg ?_ | refine WkN.tup ?_)); (all_goals (first | exact .int rfl | exact .int (by first | omega | (simp only [nc]; omega) | (simp; done)) | exact .bool rfl | exact .snoc hnt rfl rfl rfl | exact .snoc hnt rfl rfl (by simp only [encZone, encTrain, lst_nt hnt]; rfl) | exact lit_nt hnt _ _ _ _ rfl | exact take_nt hnt (by omega) | exact lstR_wk hnt | exact .tok rfl | exact .tok (by simp) | exact .lst hnt rfl | exact .gsl (by simp) | exact .empty rfl | exact .nilOwn (by decide) (by decide) rfl | exact .nilGar (by decide) (by decide) rfl | exact .gd (by first | assumption | decide | (simp [*]; done)) (.refl _) | skip)))
  rintro ⟨i, s, zs⟩ ⟨hlen, hz⟩
  (cbv; (try simp only [nc] at *); (try refine Chk.mk (by (try simp only [nc, allc0, allc1, allcE, allcI, Cn.p, and_true, true_and, decide_eq_true_eq, imp_self, List.length_cons, List.length_nil]); all_goals ((repeat' (first | apply And.intro | intro _)) <;> first | omega | rfl | exact Or.inl rfl | assumption | exact nb1 (by assumption) | exact nb2 (by assumption) | exact nb3 (by assumption) | exact nb4 (by assumption) | decide | decide +kernel | (simp [*]; done))) ?_))
  refine ⟨fun hb => ?_, fun hb => ?_⟩
  · simp only [decide_eq_true_eq] at hb
    (cbv; (try simp only [nc] at *); (try refine Chk.mk (by (try simp only [nc, allc0, allc1, allcE, allcI, Cn.p, and_true, true_and, decide_eq_true_eq, imp_self, List.length_cons, List.length_nil]); all_goals ((repeat' (first | apply And.intro | intro _)) <;> first | omega | rfl | exact Or.inl rfl | assumption | exact nb1 (by assumption) | exact nb2 (by assumption) | exact nb3 (by assumption) | exact nb4 (by assumption) | decide | decide +kernel | (simp [*]; done))) ?_))
    refine callL [0] (c29 s 2 (by omega)) (by decide) (by simp) (by first | rfl | (simp only [zoneA, bookA, lst_nt hnt]; rfl)) (by first | rfl | (simp only [zoneA, bookA, lst_nt hnt]; rfl)) fun r h₂ hp => ?_
    (try simp only [zoneA, bookA, lst_nt hnt] at hp)
    obtain ⟨z, s3, hz3, rfl, rfl⟩ := hp
    (cbv; (try simp only [nc] at *); (try refine Chk.mk (by (try simp only [nc, allc0, allc1, allcE, allcI, Cn.p, and_true, true_and, decide_eq_true_eq, imp_self, List.length_cons, List.length_nil]); all_goals ((repeat' (first | apply And.intro | intro _)) <;> first | omega | rfl | exact Or.inl rfl | assumption | exact nb1 (by assumption) | exact nb2 (by assumption) | exact nb3 (by assumption) | exact nb4 (by assumption) | decide | decide +kernel | (simp [*]; done))) ?_))
    obtain ⟨j, rfl⟩ : ∃ j, i = j + 1 := ⟨i - 1, by omega⟩
    refine ⟨(j, s3, zs ++ [z]), ⟨by simp only [List.length_append, List.length_cons, List.length_nil]; omega, fun x hx => ?_⟩, by show j + 0 < j + 1 + 0; omega, ?_⟩
    · rcases List.mem_append.1 hx with hx | hx
      · exact hz x hx
      · simp only [List.mem_singleton] at hx
        subst hx
        exact hz3
    · (refine To.of [] ?_; cbv; (try simp only [nc]); (repeat' (first | exact trivial | exact WkN.refl _ | exact WkB.refl _ | refine ⟨?_, ?_⟩ | refine WkB.cells ?_ | refine WkN.agg ?_ | refine WkN.tup ?_)); (all_goals (first | exact .int rfl | exact .int (by first | omega | (simp only [nc]; omega) | (simp; done)) | exact .bool rfl | exact .snoc hnt rfl rfl rfl | exact .snoc hnt rfl rfl (by simp only [encZone, encTrain, lst_nt hnt]; rfl) | exact lit_nt hnt _ _ _ _ rfl | exact take_nt hnt (by omega) | exact lstR_wk hnt | exact .tok rfl | exact .tok (by simp) | exact .lst hnt rfl | exact .gsl (by simp) | exact .empty rfl | exact .nilOwn (by decide) (by decide) rfl | exact .nilGar (by decide) (by decide) rfl | exact .gd (by first | assumption | decide | (simp [*]; done)) (.refl _) | skip)))
  · simp only [decide_eq_false_iff_not] at hb
    (cbv; (try simp only [nc] at *); (try refine Chk.mk (by (try simp only [nc, allc0, allc1, allcE, allcI, Cn.p, and_true, true_and, decide_eq_true_eq, imp_self, List.length_cons, List.length_nil]); all_goals ((repeat' (first | apply And.intro | intro _)) <;> first | omega | rfl | exact Or.inl rfl | assumption | exact nb1 (by assumption) | exact nb2 (by assumption) | exact nb3 (by assumption) | exact nb4 (by assumption) | decide | decide +kernel | (simp [*]; done))) ?_))
    refine hQ _ _ _ ?_
    clear hQ
    have hzl : 1 ≤ zs.length ∧ zs.length ≤ 3 := by omega
    (cbv; (try simp only [nc] at *); (try refine Chk.mk (by (try simp only [nc, allc0, allc1, allcE, allcI, Cn.p, and_true, true_and, decide_eq_true_eq, imp_self, List.length_cons, List.length_nil]); all_goals ((repeat' (first | apply And.intro | intro _)) <;> first | omega | rfl | exact Or.inl rfl | assumption | exact nb1 (by assumption) | exact nb2 (by assumption) | exact nb3 (by assumption) | exact nb4 (by assumption) | decide | decide +kernel | (simp [*]; done))) ?_))
    refine callL [0] (c17 s (trains - 1) (by omega)) (by decide) (by simp) (by first | rfl | (simp only [zoneA, bookA, lst_nt hnt]; rfl)) (by first | rfl | (simp only [zoneA, bookA, lst_nt hnt]; rfl)) fun r h₂ hp => ?_
    (try simp only [zoneA, bookA, lst_nt hnt] at hp)
    obtain ⟨n, s4, hn, rfl, rfl⟩ := hp
    (cbv; (try simp only [nc] at *); (try refine Chk.mk (by (try simp only [nc, allc0, allc1, allcE, allcI, Cn.p, and_true, true_and, decide_eq_true_eq, imp_self, List.length_cons, List.length_nil]); all_goals ((repeat' (first | apply And.intro | intro _)) <;> first | omega | rfl | exact Or.inl rfl | assumption | exact nb1 (by assumption) | exact nb2 (by assumption) | exact nb3 (by assumption) | exact nb4 (by assumption) | decide | decide +kernel | (simp [*]; done))) ?_))
    obtain ⟨n, rfl⟩ : ∃ k : Nat, n = k := ⟨n.toNat, by omega⟩
    refine loopQ fun Q hQ => ?_
    refine loopS false false [] [0, 1, 6, 7, 9] [.tok 3 fun _ => 0] (fun (⟨i, s, ts⟩ : Nat × Int × List Train) => [(9, .int .i64 fun _ => i)])
      (fun ⟨i, s, ts⟩ => [(0, bagB s), (2, .cells [.isl 2 (fun _ => (zs.length : Int)) (fun e => encZone (nt Zone default zs (e ()))) (.own 3), .isl 3 (fun _ => (ts.length : Int)) (fun e => encTrain (nt Train default ts (e ()))) (.own 4), .isl 0 (fun _ => 0) (fun _ => []) .nil, .int .i64 fun _ => 0, .int .i64 fun _ => last]), (4, .tok 3 fun _ => (ts.length : Int))])
      (fun ⟨i, s, ts⟩ => ts.length + i = n + 1 ∧ LMade zs.length ((n : Int) + 1) ts) (fun i => i.1 + 0) (n + 1, s4, []) ⟨by simp, ⟨fun k t h => by simp at h⟩⟩ ?_ ?_
    · (refine To.of [(3,false)] ?_; cbv; (try simp only [nc]); (repeat' (first | exact trivial | exact WkN.refl _ | exact WkB.refl _ | refine ⟨?_, ?_⟩ | refine WkB.cells ?_ | refine WkN.agg ?_ | refine WkN.tup ?_)); (all_goals (first | exact .int rfl | exact .int (by first | omega | (simp only [nc]; omega) | (simp; done)) | exact .bool rfl | exact .snoc hnt rfl rfl rfl | exact .snoc hnt rfl rfl (by simp only [encZone, encTrain, lst_nt hnt]; rfl) | exact lit_nt hnt _ _ _ _ rfl | exact take_nt hnt (by omega) | exact lstR_wk hnt | exact .tok rfl | exact .tok (by simp) | exact .lst hnt rfl | exact .gsl (by simp) | exact .empty rfl | exact .nilOwn (by decide) (by decide) rfl | exact .nilGar (by decide) (by decide) rfl | exact .gd (by first | assumption | decide | (simp [*]; done)) (.refl _) | skip)))
    rintro ⟨i, s, ts⟩ ⟨hlen, hts⟩
    (cbv; (try simp only [nc] at *); (try refine Chk.mk (by (try simp only [nc, allc0, allc1, allcE, allcI, Cn.p, and_true, true_and, decide_eq_true_eq, imp_self, List.length_cons, List.length_nil]); all_goals ((repeat' (first | apply And.intro | intro _)) <;> first | omega | rfl | exact Or.inl rfl | assumption | exact nb1 (by assumption) | exact nb2 (by assumption) | exact nb3 (by assumption) | exact nb4 (by assumption) | decide | decide +kernel | (simp [*]; done))) ?_))
    refine ⟨fun hb => ?_, fun hb => ?_⟩
    · simp only [decide_eq_true_eq] at hb
      (cbv; (try simp only [nc] at *); (try refine Chk.mk (by (try simp only [nc, allc0, allc1, allcE, allcI, Cn.p, and_true, true_and, decide_eq_true_eq, imp_self, List.length_cons, List.length_nil]); all_goals ((repeat' (first | apply And.intro | intro _)) <;> first | omega | rfl | exact Or.inl rfl | assumption | exact nb1 (by assumption) | exact nb2 (by assumption) | exact nb3 (by assumption) | exact nb4 (by assumption) | decide | decide +kernel | (simp [*]; done))) ?_))
      refine callL [0] (c59 s (zs.length : Int) (i : Int) 4 (by omega) (by omega)) (by decide) (by simp) (by first | rfl | (simp only [zoneA, bookA, lst_nt hnt]; rfl)) (by first | rfl | (simp only [zoneA, bookA, lst_nt hnt]; rfl)) fun r h₂ hp => ?_
      (try simp only [zoneA, bookA, lst_nt hnt] at hp)
      obtain ⟨t, s5, ht5, rfl, rfl⟩ := hp
      (cbv; (try simp only [nc] at *); (try refine Chk.mk (by (try simp only [nc, allc0, allc1, allcE, allcI, Cn.p, and_true, true_and, decide_eq_true_eq, imp_self, List.length_cons, List.length_nil]); all_goals ((repeat' (first | apply And.intro | intro _)) <;> first | omega | rfl | exact Or.inl rfl | assumption | exact nb1 (by assumption) | exact nb2 (by assumption) | exact nb3 (by assumption) | exact nb4 (by assumption) | decide | decide +kernel | (simp [*]; done))) ?_))
      obtain ⟨j, rfl⟩ : ∃ j, i = j + 1 := ⟨i - 1, by omega⟩
      refine ⟨(j, s5, ts ++ [t]), ⟨by simp only [List.length_append, List.length_cons, List.length_nil]; omega, hts.snoc (by rw [show (n : Int) + 1 - (ts.length : Int) = ((j + 1 : Nat) : Int) by omega]; exact ht5)⟩, by show j + 0 < j + 1 + 0; omega, ?_⟩
      (refine To.of [] ?_; cbv; (try simp only [nc]); (repeat' (first | exact trivial | exact WkN.refl _ | exact WkB.refl _ | refine ⟨?_, ?_⟩ | refine WkB.cells ?_ | refine WkN.agg ?_ | refine WkN.tup ?_)); (all_goals (first | exact .int rfl | exact .int (by first | omega | (simp only [nc]; omega) | (simp; done)) | exact .bool rfl | exact .snoc hnt rfl rfl rfl | exact .snoc hnt rfl rfl (by simp only [encZone, encTrain, lst_nt hnt]; rfl) | exact lit_nt hnt _ _ _ _ rfl | exact take_nt hnt (by omega) | exact lstR_wk hnt | exact .tok rfl | exact .tok (by simp) | exact .lst hnt rfl | exact .gsl (by simp) | exact .empty rfl | exact .nilOwn (by decide) (by decide) rfl | exact .nilGar (by decide) (by decide) rfl | exact .gd (by first | assumption | decide | (simp [*]; done)) (.refl _) | skip)))
    · simp only [decide_eq_false_iff_not] at hb
      (cbv; (try simp only [nc] at *); (try refine Chk.mk (by (try simp only [nc, allc0, allc1, allcE, allcI, Cn.p, and_true, true_and, decide_eq_true_eq, imp_self, List.length_cons, List.length_nil]); all_goals ((repeat' (first | apply And.intro | intro _)) <;> first | omega | rfl | exact Or.inl rfl | assumption | exact nb1 (by assumption) | exact nb2 (by assumption) | exact nb3 (by assumption) | exact nb4 (by assumption) | decide | decide +kernel | (simp [*]; done))) ?_))
      refine hQ _ _ _ ?_
      clear hQ
      have htl : ts.length = n + 1 := by omega
      (cbv; (try simp only [nc] at *); (try refine Chk.mk (by (try simp only [nc, allc0, allc1, allcE, allcI, Cn.p, and_true, true_and, decide_eq_true_eq, imp_self, List.length_cons, List.length_nil]); all_goals ((repeat' (first | apply And.intro | intro _)) <;> first | omega | rfl | exact Or.inl rfl | assumption | exact nb1 (by assumption) | exact nb2 (by assumption) | exact nb3 (by assumption) | exact nb4 (by assumption) | decide | decide +kernel | (simp [*]; done))) ?_))
      refine callL [0] (c17 s (trains - 1) (by omega)) (by decide) (by simp) (by first | rfl | (simp only [zoneA, bookA, lst_nt hnt]; rfl)) (by first | rfl | (simp only [zoneA, bookA, lst_nt hnt]; rfl)) fun r h₂ hp => ?_
      (try simp only [zoneA, bookA, lst_nt hnt] at hp)
      obtain ⟨n', s6, hn', rfl, rfl⟩ := hp
      (cbv; (try simp only [nc] at *); (try refine Chk.mk (by (try simp only [nc, allc0, allc1, allcE, allcI, Cn.p, and_true, true_and, decide_eq_true_eq, imp_self, List.length_cons, List.length_nil]); all_goals ((repeat' (first | apply And.intro | intro _)) <;> first | omega | rfl | exact Or.inl rfl | assumption | exact nb1 (by assumption) | exact nb2 (by assumption) | exact nb3 (by assumption) | exact nb4 (by assumption) | decide | decide +kernel | (simp [*]; done))) ?_))
      obtain ⟨n', rfl⟩ : ∃ k : Nat, n' = k := ⟨n'.toNat, by omega⟩
      refine loopQ fun Q hQ => ?_
      refine loopS false false [16] [0, 6, 7, 10] [.tok 3 fun _ => 0] (fun (⟨i, s, us⟩ : Nat × Int × List Train) => [(10, .int .i64 fun _ => i)])
        (fun ⟨i, s, us⟩ => [(0, bagB s), (2, .cells [.isl 2 (fun _ => (zs.length : Int)) (fun e => encZone (nt Zone default zs (e ()))) (.own 3), .isl 3 (fun _ => (ts.length : Int)) (fun e => encTrain (nt Train default ts (e ()))) (.own 4), .isl 3 (fun _ => (us.length : Int)) (fun e => encTrain (nt Train default us (e ()))) (.own 5), .int .i64 fun _ => 0, .int .i64 fun _ => last]), (5, .tok 3 fun _ => (us.length : Int))])
        (fun ⟨i, s, us⟩ => us.length + i = n' + 1 ∧ LMade zs.length ((n' : Int) + 1) us) (fun i => i.1 + 0) (n' + 1, s6, []) ⟨by simp, ⟨fun k t h => by simp at h⟩⟩ ?_ ?_
      · (refine To.of [(3,false)] ?_; cbv; (try simp only [nc]); (repeat' (first | exact trivial | exact WkN.refl _ | exact WkB.refl _ | refine ⟨?_, ?_⟩ | refine WkB.cells ?_ | refine WkN.agg ?_ | refine WkN.tup ?_)); (all_goals (first | exact .int rfl | exact .int (by first | omega | (simp only [nc]; omega) | (simp; done)) | exact .bool rfl | exact .snoc hnt rfl rfl rfl | exact .snoc hnt rfl rfl (by simp only [encZone, encTrain, lst_nt hnt]; rfl) | exact lit_nt hnt _ _ _ _ rfl | exact take_nt hnt (by omega) | exact lstR_wk hnt | exact .tok rfl | exact .tok (by simp) | exact .lst hnt rfl | exact .gsl (by simp) | exact .empty rfl | exact .nilOwn (by decide) (by decide) rfl | exact .nilGar (by decide) (by decide) rfl | exact .gd (by first | assumption | decide | (simp [*]; done)) (.refl _) | skip)))
      rintro ⟨i, s, us⟩ ⟨hlen', hus⟩
      (cbv; (try simp only [nc] at *); (try refine Chk.mk (by (try simp only [nc, allc0, allc1, allcE, allcI, Cn.p, and_true, true_and, decide_eq_true_eq, imp_self, List.length_cons, List.length_nil]); all_goals ((repeat' (first | apply And.intro | intro _)) <;> first | omega | rfl | exact Or.inl rfl | assumption | exact nb1 (by assumption) | exact nb2 (by assumption) | exact nb3 (by assumption) | exact nb4 (by assumption) | decide | decide +kernel | (simp [*]; done))) ?_))
      refine ⟨fun hb => ?_, fun hb => ?_⟩
      · simp only [decide_eq_true_eq] at hb
        (cbv; (try simp only [nc] at *); (try refine Chk.mk (by (try simp only [nc, allc0, allc1, allcE, allcI, Cn.p, and_true, true_and, decide_eq_true_eq, imp_self, List.length_cons, List.length_nil]); all_goals ((repeat' (first | apply And.intro | intro _)) <;> first | omega | rfl | exact Or.inl rfl | assumption | exact nb1 (by assumption) | exact nb2 (by assumption) | exact nb3 (by assumption) | exact nb4 (by assumption) | decide | decide +kernel | (simp [*]; done))) ?_))
        refine callL [0] (c59 s (zs.length : Int) (i : Int) 4 (by omega) (by omega)) (by decide) (by simp) (by first | rfl | (simp only [zoneA, bookA, lst_nt hnt]; rfl)) (by first | rfl | (simp only [zoneA, bookA, lst_nt hnt]; rfl)) fun r h₂ hp => ?_
        (try simp only [zoneA, bookA, lst_nt hnt] at hp)
        obtain ⟨t, s5, ht5, rfl, rfl⟩ := hp
        (cbv; (try simp only [nc] at *); (try refine Chk.mk (by (try simp only [nc, allc0, allc1, allcE, allcI, Cn.p, and_true, true_and, decide_eq_true_eq, imp_self, List.length_cons, List.length_nil]); all_goals ((repeat' (first | apply And.intro | intro _)) <;> first | omega | rfl | exact Or.inl rfl | assumption | exact nb1 (by assumption) | exact nb2 (by assumption) | exact nb3 (by assumption) | exact nb4 (by assumption) | decide | decide +kernel | (simp [*]; done))) ?_))
        obtain ⟨j, rfl⟩ : ∃ j, i = j + 1 := ⟨i - 1, by omega⟩
        have hnum : (n' : Int) + 1 - (us.length : Int) = ((j + 1 : Nat) : Int) := by omega
        have hend : us.length + 1 + j = n' + 1 := by omega
        have hu : j + 1 ≤ ts.length → ∃ k : Nat, (ts.length : Int) - ((j + 1 : Nat) : Int) = k ∧ TMade zs.length 4 ((n : Int) + 1 - k) (nt Train default ts ((ts.length : Int) - ((j + 1 : Nat) : Int))) := fun h => ⟨ts.length - (j + 1), by omega, by
          rw [show (ts.length : Int) - ((j + 1 : Nat) : Int) = ((ts.length - (j + 1) : Nat) : Int) by omega]
          refine hts.all _ _ ?_
          rw [hnt, Int.toNat_natCast, List.getD_eq_getElem?_getD, List.getElem?_eq_getElem (by omega), Option.getD_some]⟩
        apply Br.join2 (P := fun (s : Int) (t : Train) => TMade zs.length 4 ((j + 1 : Nat) : Int) t)
        · intro hb2 M
          simp only [decide_eq_true_eq] at hb2
          obtain ⟨k, hk, hu⟩ := hu (by omega)
          have hul : ((nt Train default ts ((ts.length : Int) - ((j + 1 : Nat) : Int))).stops.length : Int) ≤ 4 := by have := hu.len; omega
          have hul2 : ((0 : Nat) : Int) + ((nt Train default ts ((ts.length : Int) - ((j + 1 : Nat) : Int))).stops.length : Int) ≤ 1000000 := by omega
          (cbv; (try simp only [nc] at *); (try refine Chk.mk (by (try simp only [nc, allc0, allc1, allcE, allcI, Cn.p, and_true, true_and, decide_eq_true_eq, imp_self, List.length_cons, List.length_nil]); all_goals ((repeat' (first | apply And.intro | intro _)) <;> first | omega | rfl | exact Or.inl rfl | assumption | exact nb1 (by assumption) | exact nb2 (by assumption) | exact nb3 (by assumption) | exact nb4 (by assumption) | decide | decide +kernel | (simp [*]; done))) ?_))
          refine callL [0] (c37 s5 1 2 (by omega)) (by decide) (by simp) (by first | rfl | (simp only [zoneA, bookA, lst_nt hnt]; rfl)) (by first | rfl | (simp only [zoneA, bookA, lst_nt hnt]; rfl)) fun r h₂ hp => ?_
          (try simp only [zoneA, bookA, lst_nt hnt] at hp)
          obtain ⟨bb, s8, rfl, rfl⟩ := hp
          (cbv; (try simp only [nc] at *); (try refine Chk.mk (by (try simp only [nc, allc0, allc1, allcE, allcI, Cn.p, and_true, true_and, decide_eq_true_eq, imp_self, List.length_cons, List.length_nil]); all_goals ((repeat' (first | apply And.intro | intro _)) <;> first | omega | rfl | exact Or.inl rfl | assumption | exact nb1 (by assumption) | exact nb2 (by assumption) | exact nb3 (by assumption) | exact nb4 (by assumption) | decide | decide +kernel | (simp [*]; done))) ?_))
          refine cutD false false [] 50 [0, 6, 7, 10, 11] (fun _ => []) (fun (⟨s, t⟩ : Int × Train) => [(0, bagB s), (6, .cells [.int .i64 fun _ => t.number, .int .i64 fun _ => t.days, .isl 4 (fun _ => (t.stops.length : Int)) (fun e => encStop (nt Stop default t.stops (e ()))) .none])]) (fun ⟨s, t⟩ => TMade zs.length 4 ((j + 1 : Nat) : Int) t) (fun _ _ h => h) (by decide) ?_ ?_
          · (cbv; (try simp only [nc] at *); (try refine Chk.mk (by (try simp only [nc, allc0, allc1, allcE, allcI, Cn.p, and_true, true_and, decide_eq_true_eq, imp_self, List.length_cons, List.length_nil]); all_goals ((repeat' (first | apply And.intro | intro _)) <;> first | omega | rfl | exact Or.inl rfl | assumption | exact nb1 (by assumption) | exact nb2 (by assumption) | exact nb3 (by assumption) | exact nb4 (by assumption) | decide | decide +kernel | (simp [*]; done))) ?_))
            refine ⟨fun hb3 => ?_, fun hb3 => ?_⟩
            · (cbv; (try simp only [nc] at *); (try refine Chk.mk (by (try simp only [nc, allc0, allc1, allcE, allcI, Cn.p, and_true, true_and, decide_eq_true_eq, imp_self, List.length_cons, List.length_nil]); all_goals ((repeat' (first | apply And.intro | intro _)) <;> first | omega | rfl | exact Or.inl rfl | assumption | exact nb1 (by assumption) | exact nb2 (by assumption) | exact nb3 (by assumption) | exact nb4 (by assumption) | decide | decide +kernel | (simp [*]; done))) ?_))
              refine ⟨(s8, ⟨t.number, t.days, (nt Train default ts ((ts.length : Int) - ((j + 1 : Nat) : Int))).stops⟩), ht5.with hu, ?_⟩
              (refine To.of [] ?_; cbv; (try simp only [nc]); (repeat' (first | exact trivial | exact WkN.refl _ | exact WkB.refl _ | refine ⟨?_, ?_⟩ | refine WkB.cells ?_ | refine WkN.agg ?_ | refine WkN.tup ?_)); (all_goals (first | exact .int rfl | exact .int (by first | omega | (simp only [nc]; omega) | (simp; done)) | exact .bool rfl | exact .snoc hnt rfl rfl rfl | exact .snoc hnt rfl rfl (by simp only [encZone, encTrain, lst_nt hnt]; rfl) | exact lit_nt hnt _ _ _ _ rfl | exact take_nt hnt (by omega) | exact lstR_wk hnt | exact .tok rfl | exact .tok (by simp) | exact .lst hnt rfl | exact .gsl (by simp) | exact .empty rfl | exact .nilOwn (by decide) (by decide) rfl | exact .nilGar (by decide) (by decide) rfl | exact .gd (by first | assumption | decide | (simp [*]; done)) (.refl _) | skip)))
              refine .none (by simp) fun x hx => ?_
              unfold snocF
              rw [if_neg (by show ¬ (x : Int) < ((0 : Nat) : Int); omega)]
              show encStop (List.getD _ ((x : Int) - ((0 : Nat) : Int)).toNat _) = encStop (nt Stop default _ (x : Int))
              rw [hnt Stop, show ((x : Int) - ((0 : Nat) : Int)).toNat = (x : Int).toNat by omega]
              rfl
            · (cbv; (try simp only [nc] at *); (try refine Chk.mk (by (try simp only [nc, allc0, allc1, allcE, allcI, Cn.p, and_true, true_and, decide_eq_true_eq, imp_self, List.length_cons, List.length_nil]); all_goals ((repeat' (first | apply And.intro | intro _)) <;> first | omega | rfl | exact Or.inl rfl | assumption | exact nb1 (by assumption) | exact nb2 (by assumption) | exact nb3 (by assumption) | exact nb4 (by assumption) | decide | decide +kernel | (simp [*]; done))) ?_))
              refine ⟨(s8, t), ht5, ?_⟩
              (refine To.of [] ?_; cbv; (try simp only [nc]); (repeat' (first | exact trivial | exact WkN.refl _ | exact WkB.refl _ | refine ⟨?_, ?_⟩ | refine WkB.cells ?_ | refine WkN.agg ?_ | refine WkN.tup ?_)); (all_goals (first | exact .int rfl | exact .int (by first | omega | (simp only [nc]; omega) | (simp; done)) | exact .bool rfl | exact .snoc hnt rfl rfl rfl | exact .snoc hnt rfl rfl (by simp only [encZone, encTrain, lst_nt hnt]; rfl) | exact lit_nt hnt _ _ _ _ rfl | exact take_nt hnt (by omega) | exact lstR_wk hnt | exact .tok rfl | exact .tok (by simp) | exact .lst hnt rfl | exact .gsl (by simp) | exact .empty rfl | exact .nilOwn (by decide) (by decide) rfl | exact .nilGar (by decide) (by decide) rfl | exact .gd (by first | assumption | decide | (simp [*]; done)) (.refl _) | skip)))
          · rintro ⟨s, t⟩ h
            cbv
            try simp only [nc]
            exact M s t h
        · intro hb2 M
          (cbv; (try simp only [nc] at *); (try refine Chk.mk (by (try simp only [nc, allc0, allc1, allcE, allcI, Cn.p, and_true, true_and, decide_eq_true_eq, imp_self, List.length_cons, List.length_nil]); all_goals ((repeat' (first | apply And.intro | intro _)) <;> first | omega | rfl | exact Or.inl rfl | assumption | exact nb1 (by assumption) | exact nb2 (by assumption) | exact nb3 (by assumption) | exact nb4 (by assumption) | decide | decide +kernel | (simp [*]; done))) ?_))
          refine cutD false false [] 50 [0, 6, 7, 10, 11] (fun _ => []) (fun (⟨s, t⟩ : Int × Train) => [(0, bagB s), (6, .cells [.int .i64 fun _ => t.number, .int .i64 fun _ => t.days, .isl 4 (fun _ => (t.stops.length : Int)) (fun e => encStop (nt Stop default t.stops (e ()))) .none])]) (fun ⟨s, t⟩ => TMade zs.length 4 ((j + 1 : Nat) : Int) t) (fun _ _ h => h) (by decide) ?_ ?_
          · (cbv; (try simp only [nc] at *); (try refine Chk.mk (by (try simp only [nc, allc0, allc1, allcE, allcI, Cn.p, and_true, true_and, decide_eq_true_eq, imp_self, List.length_cons, List.length_nil]); all_goals ((repeat' (first | apply And.intro | intro _)) <;> first | omega | rfl | exact Or.inl rfl | assumption | exact nb1 (by assumption) | exact nb2 (by assumption) | exact nb3 (by assumption) | exact nb4 (by assumption) | decide | decide +kernel | (simp [*]; done))) ?_))
            refine Br.isF rfl ?_
            (cbv; (try simp only [nc] at *); (try refine Chk.mk (by (try simp only [nc, allc0, allc1, allcE, allcI, Cn.p, and_true, true_and, decide_eq_true_eq, imp_self, List.length_cons, List.length_nil]); all_goals ((repeat' (first | apply And.intro | intro _)) <;> first | omega | rfl | exact Or.inl rfl | assumption | exact nb1 (by assumption) | exact nb2 (by assumption) | exact nb3 (by assumption) | exact nb4 (by assumption) | decide | decide +kernel | (simp [*]; done))) ?_))
            refine ⟨(s5, t), ht5, ?_⟩
            (refine To.of [] ?_; cbv; (try simp only [nc]); (repeat' (first | exact trivial | exact WkN.refl _ | exact WkB.refl _ | refine ⟨?_, ?_⟩ | refine WkB.cells ?_ | refine WkN.agg ?_ | refine WkN.tup ?_)); (all_goals (first | exact .int rfl | exact .int (by first | omega | (simp only [nc]; omega) | (simp; done)) | exact .bool rfl | exact .snoc hnt rfl rfl rfl | exact .snoc hnt rfl rfl (by simp only [encZone, encTrain, lst_nt hnt]; rfl) | exact lit_nt hnt _ _ _ _ rfl | exact take_nt hnt (by omega) | exact lstR_wk hnt | exact .tok rfl | exact .tok (by simp) | exact .lst hnt rfl | exact .gsl (by simp) | exact .empty rfl | exact .nilOwn (by decide) (by decide) rfl | exact .nilGar (by decide) (by decide) rfl | exact .gd (by first | assumption | decide | (simp [*]; done)) (.refl _) | skip)))
          · rintro ⟨s, t⟩ h
            cbv
            try simp only [nc]
            exact M s t h
        · intro s t ht5
          refine Chk.mk (by (try simp only [nc, allc0, allc1, allcE, allcI, Cn.p, and_true, true_and, decide_eq_true_eq, imp_self, List.length_cons, List.length_nil]); all_goals ((repeat' (first | apply And.intro | intro _)) <;> first | omega | rfl | exact Or.inl rfl | assumption | exact nb1 (by assumption) | exact nb2 (by assumption) | exact nb3 (by assumption) | exact nb4 (by assumption) | decide | decide +kernel | (simp [*]; done))) ?_
          refine ⟨(j, s, us ++ [t]), ⟨by simp only [List.length_append, List.length_cons, List.length_nil]; omega, hus.snoc (by rw [hnum]; exact ht5)⟩, by show j + 0 < j + 1 + 0; omega, ?_⟩
          (refine To.of [] ?_; cbv; (try simp only [nc]); (repeat' (first | exact trivial | exact WkN.refl _ | exact WkB.refl _ | refine ⟨?_, ?_⟩ | refine WkB.cells ?_ | refine WkN.agg ?_ | refine WkN.tup ?_)); (all_goals (first | exact .int rfl | exact .int (by first | omega | (simp only [nc]; omega) | (simp; done)) | exact .bool rfl | exact .snoc hnt rfl rfl rfl | exact .snoc hnt rfl rfl (by simp only [encZone, encTrain, lst_nt hnt]; rfl) | exact lit_nt hnt _ _ _ _ rfl | exact take_nt hnt (by omega) | exact lstR_wk hnt | exact .tok rfl | exact .tok (by simp) | exact .lst hnt rfl | exact .gsl (by simp) | exact .empty rfl | exact .nilOwn (by decide) (by decide) rfl | exact .nilGar (by decide) (by decide) rfl | exact .gd (by first | assumption | decide | (simp [*]; done)) (.refl _) | skip)))
      · simp only [decide_eq_false_iff_not] at hb
        (cbv; (try simp only [nc] at *); (try refine Chk.mk (by (try simp only [nc, allc0, allc1, allcE, allcI, Cn.p, and_true, true_and, decide_eq_true_eq, imp_self, List.length_cons, List.length_nil]); all_goals ((repeat' (first | apply And.intro | intro _)) <;> first | omega | rfl | exact Or.inl rfl | assumption | exact nb1 (by assumption) | exact nb2 (by assumption) | exact nb3 (by assumption) | exact nb4 (by assumption) | decide | decide +kernel | (simp [*]; done))) ?_))
        refine hQ _ _ _ ?_
        clear hQ
        (cbv; (try simp only [nc] at *); (try refine Chk.mk (by (try simp only [nc, allc0, allc1, allcE, allcI, Cn.p, and_true, true_and, decide_eq_true_eq, imp_self, List.length_cons, List.length_nil]); all_goals ((repeat' (first | apply And.intro | intro _)) <;> first | omega | rfl | exact Or.inl rfl | assumption | exact nb1 (by assumption) | exact nb2 (by assumption) | exact nb3 (by assumption) | exact nb4 (by assumption) | decide | decide +kernel | (simp [*]; done))) ?_))
        refine callL [0] (c17 s (last + 1) (by omega)) (by decide) (by simp) (by first | rfl | (simp only [zoneA, bookA, lst_nt hnt]; rfl)) (by first | rfl | (simp only [zoneA, bookA, lst_nt hnt]; rfl)) fun r h₂ hp => ?_
        (try simp only [zoneA, bookA, lst_nt hnt] at hp)
        obtain ⟨night, s7, hnight, rfl, rfl⟩ := hp
        (cbv; (try simp only [nc] at *); (try refine Chk.mk (by (try simp only [nc, allc0, allc1, allcE, allcI, Cn.p, and_true, true_and, decide_eq_true_eq, imp_self, List.length_cons, List.length_nil]); all_goals ((repeat' (first | apply And.intro | intro _)) <;> first | omega | rfl | exact Or.inl rfl | assumption | exact nb1 (by assumption) | exact nb2 (by assumption) | exact nb3 (by assumption) | exact nb4 (by assumption) | decide | decide +kernel | (simp [*]; done))) ?_))
        refine ⟨bookA ⟨zs, ts, us, night, last⟩, [bagB s7], ?_, ⟨zs, ts, us, night, last⟩, s7, ⟨by dsimp only; omega, hz, by dsimp only; omega, by dsimp only; omega, by dsimp only; rw [htl]; exact hts, by dsimp only; rw [show ((us.length : Int)) = (n' : Int) + 1 by omega]; exact hus, by dsimp only; omega, by dsimp only; omega⟩, rfl, rfl⟩
        unfold bookA
        simp only [lst_nt hnt]
        (refine To.of [] ?_; cbv; (try simp only [nc]); (repeat' (first | exact trivial | exact WkN.refl _ | exact WkB.refl _ | refine ⟨?_, ?_⟩ | refine WkB.cells ?_ | refine WkN.agg ?_ | refine WkN.tup ?_)); (all_goals (first | exact .int rfl | exact .int (by first | omega | (simp only [nc]; omega) | (simp; done)) | exact .bool rfl | exact .snoc hnt rfl rfl rfl | exact .snoc hnt rfl rfl (by simp only [encZone, encTrain, lst_nt hnt]; rfl) | exact lit_nt hnt _ _ _ _ rfl | exact take_nt hnt (by omega) | exact lstR_wk hnt | exact .tok rfl | exact .tok (by simp) | exact .lst hnt rfl | exact .gsl (by simp) | exact .empty rfl | exact .nilOwn (by decide) (by decide) rfl | exact .nilGar (by decide) (by decide) rfl | exact .gd (by first | assumption | decide | (simp [*]; done)) (.refl _) | skip)))
end Go.Proofs.Ytlcgliadpalgfaa.Vm
