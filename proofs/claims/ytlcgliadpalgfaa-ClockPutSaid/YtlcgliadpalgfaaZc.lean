/- Contracts: the reference's stretches. -/
import Derived.Test.YtlcgliadpalgfaaZb
set_option linter.unusedSimpArgs false
set_option linter.unusedVariables false
namespace Go.Proofs.Ytlcgliadpalgfaa.Vm
open Go Go.Proofs Sp
set_option maxRecDepth 100000
set_option maxHeartbeats 1600000

/-- A stretch, as the reference has it. -/
def cl (p : Pc) : Pc := if p.bef = openT then ⟨p.fr, -1, p.ahd⟩ else p
def strs (z : Zone) : List Pc := (pieces z).map cl
def sumBy (a : Int) (l : List Chg) : Int := l.foldl (fun a c => a + c.by_) a
theorem af_app : ∀ (l1 l2 : List Chg) (a k : Int), (∀ c ∈ l1, c.at_ ≤ k) → af a (l1 ++ l2) k = af (sumBy a l1) l2 k
  | [], _, _, _, _ => rfl
  | c :: r, l2, a, k, h => by
    have e : af a (c :: r ++ l2) k = if c.at_ ≤ k then af (a + c.by_) (r ++ l2) k else a := rfl
    rw [e, if_pos (h c (List.mem_cons_self ..)), af_app r l2 _ _ (fun x hx => h x (List.mem_cons_of_mem _ hx))]
    rfl
theorem sumBy_snoc (a : Int) (l : List Chg) (c : Chg) : sumBy a (l ++ [c]) = sumBy a l + c.by_ := by unfold sumBy; rw [List.foldl_append]; rfl

/-- Where the reference stands ahead of change i. -/
structure StrAt (z : Zone) (i : Nat) (f : Int) (out : List Pc) : Prop where
  le : i ≤ z.chs.length
  eq : strs z = out ++ (pcsGo f (sumBy z.base (z.chs.take i)) (z.chs.drop i)).map cl
  lo : ∀ c ∈ z.chs.take i, c.at_ ≤ f
  fr : 0 ≤ f ∧ f ≤ 43200
  asc : Asc (if i = 0 then f else f + 1) (z.chs.drop i)
  zero : i = 0 → f = 0
  len : out.length ≤ i

theorem str_start {z : Zone} (h : checkZone z = 0) : StrAt z 0 0 [] := by
  obtain ⟨ha, hb, hl, h1, h2⟩ := asc_of h
  exact ⟨Nat.zero_le _, rfl, by simp, by omega, by simpa using ha, fun _ => rfl, by simp⟩

/-- By how much it is ahead there, if the next change is later. -/
theorem StrAt.ahd {z : Zone} {i : Nat} {f : Int} {out : List Pc} (h : StrAt z i f out) (hn : ∀ c ∈ (z.chs.drop i).head?, f < c.at_) : af z.base z.chs f = sumBy z.base (z.chs.take i) := by
  have e : z.chs = z.chs.take i ++ z.chs.drop i := (List.take_append_drop ..).symm
  rw [e, af_app _ _ _ _ h.lo, ← e]
  cases hd : z.chs.drop i with
  | nil => rfl
  | cons c r =>
    rw [hd] at hn
    have hc := hn c rfl
    unfold af
    rw [if_neg (by omega)]

theorem StrAt.step {z : Zone} {i : Nat} {f : Int} {out : List Pc} {c : Chg} (hz : checkZone z = 0) (h : StrAt z i f out) (hi : i < z.chs.length) (hc : z.chs.drop i = c :: z.chs.drop (i + 1)) (ht : z.chs.take (i + 1) = z.chs.take i ++ [c]) :
    (c.at_ = 0 → StrAt z (i + 1) c.at_ out) ∧ (c.at_ ≠ 0 → af z.base z.chs f = sumBy z.base (z.chs.take i) ∧ StrAt z (i + 1) c.at_ (out ++ [⟨f, c.at_, sumBy z.base (z.chs.take i)⟩])) := by
  obtain ⟨ha, hb, hl, h1, h2⟩ := asc_of hz
  have hcm : c ∈ z.chs := List.mem_of_mem_drop (i := i) (by rw [hc]; exact List.mem_cons_self ..)
  have hcb := hb c hcm
  have hasc := h.asc
  rw [hc] at hasc
  obtain ⟨hlo, hrest⟩ := hasc
  have hfr := h.fr
  have hle : f ≤ c.at_ := by split at hlo <;> omega
  have hsum : sumBy z.base (z.chs.take (i + 1)) = sumBy z.base (z.chs.take i) + c.by_ := by rw [ht, sumBy_snoc]
  have hlo2 : ∀ x ∈ z.chs.take (i + 1), x.at_ ≤ c.at_ := fun x hx => by
    rw [ht] at hx
    rcases List.mem_append.1 hx with hx | hx
    · have := h.lo x hx; omega
    · simp at hx; rw [hx]; exact Int.le_refl _
  have hasc2 : Asc (if i + 1 = 0 then c.at_ else c.at_ + 1) (z.chs.drop (i + 1)) := by rw [if_neg (by omega)]; exact hrest
  have heq := h.eq
  rw [hc] at heq
  have hlen := h.len
  refine ⟨fun h0 => ?_, fun h0 => ?_⟩
  · have hf0 : f = 0 := by omega
    refine ⟨hi, ?_, hlo2, by omega, hasc2, fun h => by omega, by omega⟩
    rw [heq, hsum]
    congr 1
    have e : pcsGo f (sumBy z.base (z.chs.take i)) (c :: z.chs.drop (i + 1)) = pcsGo c.at_ (sumBy z.base (z.chs.take i) + c.by_) (z.chs.drop (i + 1)) := if_neg (by omega)
    rw [e]
  · have hlt : f < c.at_ := by
      by_cases hi0 : i = 0
      · have := h.zero hi0; omega
      · rw [if_neg hi0] at hlo; omega
    refine ⟨h.ahd (by rw [hc]; intro x hx; simp at hx; rw [← hx]; exact hlt), hi, ?_, hlo2, by omega, hasc2, fun h => by omega, by simp; omega⟩
    have e : pcsGo f (sumBy z.base (z.chs.take i)) (c :: z.chs.drop (i + 1)) = ⟨f, c.at_, sumBy z.base (z.chs.take i)⟩ :: pcsGo c.at_ (sumBy z.base (z.chs.take i) + c.by_) (z.chs.drop (i + 1)) := if_pos hlt
    have e2 : cl ⟨f, c.at_, sumBy z.base (z.chs.take i)⟩ = ⟨f, c.at_, sumBy z.base (z.chs.take i)⟩ := if_neg (by unfold openT; show ¬ c.at_ = _; omega)
    rw [heq, e, List.map_cons, e2, hsum, List.append_assoc]
    rfl

theorem StrAt.last {z : Zone} {f : Int} {out : List Pc} (h : StrAt z z.chs.length f out) : af z.base z.chs f = sumBy z.base z.chs ∧ strs z = out ++ [⟨f, -1, sumBy z.base z.chs⟩] := by
  have h1 := h.ahd (by rw [List.drop_length]; intro c hc; cases hc)
  have h2 := h.eq
  rw [List.take_length] at h1 h2
  rw [List.drop_length] at h2
  exact ⟨h1, h2⟩

theorem c101 (z : Zone) (hz : checkZone z = 0) : SC (fun _ => Try.prog) 101 [zoneA z] [] fun v h => v = lst 3 encPc default (strs z) ∧ h = [] := by
  obtain ⟨nt, hnt⟩ := nth_ex
  obtain ⟨ha, hb, hl, h1, h2⟩ := asc_of hz
  have k97 := fun t => c97 z t hz
  have hst := str_start hz
  generalize hS : strs z = S at *
  refine SC.less (con Try.func101 (body := bodyOf Try.f101) rfl (by decide +kernel) ?_)
  unfold zoneA at *
  simp only [lst_nt hnt] at *
  (cbv; (try simp only [nc] at *); (try refine Chk.mk (by (try simp only [nc, allc0, allc1, allcE, allcI, Cn.p, and_true, true_and, decide_eq_true_eq, imp_self, List.length_cons, List.length_nil]); all_goals ((repeat' (first | apply And.intro | intro _)) <;> first | omega | rfl | exact Or.inl rfl | assumption | exact nb1 (by assumption) | exact nb2 (by assumption) | exact nb3 (by assumption) | exact nb4 (by assumption) | decide | decide +kernel | (simp [*]; done))) ?_))
  refine loopS false false [] [1, 3, 4, 5] [.tok 3 fun _ => 0] (fun (⟨i, f, out⟩ : Nat × Int × List Pc) => [(3, .isl 3 (fun _ => (out.length : Int)) (fun e => encPc (nt Pc default out (e ()))) (.own 1)), (4, .int .i64 fun _ => f), (5, .int .i64 fun _ => (i : Int))])
    (fun ⟨i, f, out⟩ => [(1, .tok 3 fun _ => (out.length : Int))]) (fun ⟨i, f, out⟩ => StrAt z i f out ∨ (i = z.chs.length + 1 ∧ out = S)) (fun i => z.chs.length + 1 - i.1 + 0) (0, 0, []) (.inl hst) ?_ ?_
  · (refine To.of [(3,false)] ?_; cbv; (try simp only [nc]); (repeat' (first | exact trivial | exact WkN.refl _ | exact WkB.refl _ | refine ⟨?_, ?_⟩ | refine WkB.cells ?_ | refine WkN.agg ?_ | refine WkN.tup ?_)); (all_goals (first | exact .int rfl | exact .int (by first | omega | (simp only [nc]; omega) | (simp; done)) | exact .bool rfl | exact .snoc hnt rfl rfl rfl | exact .snoc hnt rfl rfl (by simp only [encZone, encTrain, lst_nt hnt]; rfl) | exact lit_nt hnt _ _ _ _ rfl | exact take_nt hnt (by omega) | exact lstR_wk hnt | exact .tok rfl | exact .tok (by simp) | exact .lst hnt rfl | exact .gsl (by simp) | exact .empty rfl | exact .nilOwn (by decide) (by decide) rfl | exact .nilGar (by decide) (by decide) rfl | exact .gd (by first | assumption | decide | (simp [*]; done)) (.refl _) | skip)))
  rintro ⟨i, f, out⟩ hp
  have hp : StrAt z i f out ∨ (i = z.chs.length + 1 ∧ out = S) := hp
  have hol : out.length ≤ 100 ∨ out = S := by
    rcases hp with h | ⟨_, h⟩
    · have := h.len; have := h.le; omega
    · exact .inr h
  (cbv; (try simp only [nc] at *); (try refine Chk.mk (by (try simp only [nc, allc0, allc1, allcE, allcI, Cn.p, and_true, true_and, decide_eq_true_eq, imp_self, List.length_cons, List.length_nil]); all_goals ((repeat' (first | apply And.intro | intro _)) <;> first | omega | rfl | exact Or.inl rfl | assumption | exact nb1 (by assumption) | exact nb2 (by assumption) | exact nb3 (by assumption) | exact nb4 (by assumption) | decide | decide +kernel | (simp [*]; done))) ?_))
  refine ⟨fun hb1 => ?_, fun hb1 => ?_⟩
  · simp only [decide_eq_true_eq] at hb1
    have hs : StrAt z i f out := by
      rcases hp with h | ⟨h, _⟩
      · exact h
      · omega
    have hle := hs.le
    have hlen := hs.len
    have k97 := k97 f
    (cbv; (try simp only [nc] at *); (try refine Chk.mk (by (try simp only [nc, allc0, allc1, allcE, allcI, Cn.p, and_true, true_and, decide_eq_true_eq, imp_self, List.length_cons, List.length_nil]); all_goals ((repeat' (first | apply And.intro | intro _)) <;> first | omega | rfl | exact Or.inl rfl | assumption | exact nb1 (by assumption) | exact nb2 (by assumption) | exact nb3 (by assumption) | exact nb4 (by assumption) | decide | decide +kernel | (simp [*]; done))) ?_))
    refine ⟨fun hb2 => ?_, fun hb2 => ?_⟩
    · simp only [decide_eq_true_eq] at hb2
      have hil : i < z.chs.length := by omega
      have hst2 := hs.step hz hil (nt_drop (d := default) hnt hil) (nt_take (d := default) hnt hil)
      generalize hc : nt Chg default z.chs (i : Int) = c at *
      (cbv; try simp only [nc] at *)
      simp only [hc]
      refine Chk.mk (by (try simp only [nc, allc0, allc1, allcE, allcI, Cn.p, and_true, true_and, decide_eq_true_eq, imp_self, List.length_cons, List.length_nil]); all_goals ((repeat' (first | apply And.intro | intro _)) <;> first | omega | rfl | exact Or.inl rfl | assumption | exact nb1 (by assumption) | exact nb2 (by assumption) | exact nb3 (by assumption) | exact nb4 (by assumption) | decide | decide +kernel | (simp [*]; done))) ?_
      refine ⟨fun hb3 => ?_, fun hb3 => ?_⟩
      · have h0 : c.at_ ≠ 0 := by simpa using hb3
        obtain ⟨g1, g2⟩ := hst2.2 h0
        rw [g1] at k97
        generalize sumBy z.base (z.chs.take i) = A at *
        (cbv; (try simp only [nc] at *); (try refine Chk.mk (by (try simp only [nc, allc0, allc1, allcE, allcI, Cn.p, and_true, true_and, decide_eq_true_eq, imp_self, List.length_cons, List.length_nil]); all_goals ((repeat' (first | apply And.intro | intro _)) <;> first | omega | rfl | exact Or.inl rfl | assumption | exact nb1 (by assumption) | exact nb2 (by assumption) | exact nb3 (by assumption) | exact nb4 (by assumption) | decide | decide +kernel | (simp [*]; done))) ?_))
        refine call0 (k97) (by first | rfl | (simp only [zoneA, lst_nt hnt]; rfl)) fun r h₂ hp => ?_
        (try simp only [zoneA, lst_nt hnt] at hp)
        obtain ⟨rfl, rfl⟩ := hp
        (cbv; (try simp only [nc] at *); (try refine Chk.mk (by (try simp only [nc, allc0, allc1, allcE, allcI, Cn.p, and_true, true_and, decide_eq_true_eq, imp_self, List.length_cons, List.length_nil]); all_goals ((repeat' (first | apply And.intro | intro _)) <;> first | omega | rfl | exact Or.inl rfl | assumption | exact nb1 (by assumption) | exact nb2 (by assumption) | exact nb3 (by assumption) | exact nb4 (by assumption) | decide | decide +kernel | (simp [*]; done))) ?_))
        refine ⟨(i + 1, c.at_, out ++ [⟨f, c.at_, A⟩]), .inl g2, by show z.chs.length + 1 - (i + 1) + 0 < z.chs.length + 1 - i + 0; omega, ?_⟩
        (refine To.of [] ?_; cbv; (try simp only [nc]); (repeat' (first | exact trivial | exact WkN.refl _ | exact WkB.refl _ | refine ⟨?_, ?_⟩ | refine WkB.cells ?_ | refine WkN.agg ?_ | refine WkN.tup ?_)); (all_goals (first | exact .int rfl | exact .int (by first | omega | (simp only [nc]; omega) | (simp; done)) | exact .bool rfl | exact .snoc hnt rfl rfl rfl | exact .snoc hnt rfl rfl (by simp only [encZone, encTrain, lst_nt hnt]; rfl) | exact lit_nt hnt _ _ _ _ rfl | exact take_nt hnt (by omega) | exact lstR_wk hnt | exact .tok rfl | exact .tok (by simp) | exact .lst hnt rfl | exact .gsl (by simp) | exact .empty rfl | exact .nilOwn (by decide) (by decide) rfl | exact .nilGar (by decide) (by decide) rfl | exact .gd (by first | assumption | decide | (simp [*]; done)) (.refl _) | skip)))
      · have h0 : c.at_ = 0 := by simpa using hb3
        have g2 := hst2.1 h0
        (cbv; (try simp only [nc] at *); (try refine Chk.mk (by (try simp only [nc, allc0, allc1, allcE, allcI, Cn.p, and_true, true_and, decide_eq_true_eq, imp_self, List.length_cons, List.length_nil]); all_goals ((repeat' (first | apply And.intro | intro _)) <;> first | omega | rfl | exact Or.inl rfl | assumption | exact nb1 (by assumption) | exact nb2 (by assumption) | exact nb3 (by assumption) | exact nb4 (by assumption) | decide | decide +kernel | (simp [*]; done))) ?_))
        refine ⟨(i + 1, c.at_, out), .inl g2, by show z.chs.length + 1 - (i + 1) + 0 < z.chs.length + 1 - i + 0; omega, ?_⟩
        (refine To.of [] ?_; cbv; (try simp only [nc]); (repeat' (first | exact trivial | exact WkN.refl _ | exact WkB.refl _ | refine ⟨?_, ?_⟩ | refine WkB.cells ?_ | refine WkN.agg ?_ | refine WkN.tup ?_)); (all_goals (first | exact .int rfl | exact .int (by first | omega | (simp only [nc]; omega) | (simp; done)) | exact .bool rfl | exact .snoc hnt rfl rfl rfl | exact .snoc hnt rfl rfl (by simp only [encZone, encTrain, lst_nt hnt]; rfl) | exact lit_nt hnt _ _ _ _ rfl | exact take_nt hnt (by omega) | exact lstR_wk hnt | exact .tok rfl | exact .tok (by simp) | exact .lst hnt rfl | exact .gsl (by simp) | exact .empty rfl | exact .nilOwn (by decide) (by decide) rfl | exact .nilGar (by decide) (by decide) rfl | exact .gd (by first | assumption | decide | (simp [*]; done)) (.refl _) | skip)))
    · simp only [decide_eq_false_iff_not] at hb2
      have hie : i = z.chs.length := by omega
      obtain ⟨g1, g2⟩ := (hie ▸ hs : StrAt z z.chs.length f out).last
      rw [g1] at k97
      rw [hS] at g2
      generalize sumBy z.base z.chs = A at *
      (cbv; (try simp only [nc] at *); (try refine Chk.mk (by (try simp only [nc, allc0, allc1, allcE, allcI, Cn.p, and_true, true_and, decide_eq_true_eq, imp_self, List.length_cons, List.length_nil]); all_goals ((repeat' (first | apply And.intro | intro _)) <;> first | omega | rfl | exact Or.inl rfl | assumption | exact nb1 (by assumption) | exact nb2 (by assumption) | exact nb3 (by assumption) | exact nb4 (by assumption) | decide | decide +kernel | (simp [*]; done))) ?_))
      refine Br.isT rfl ?_
      (cbv; (try simp only [nc] at *); (try refine Chk.mk (by (try simp only [nc, allc0, allc1, allcE, allcI, Cn.p, and_true, true_and, decide_eq_true_eq, imp_self, List.length_cons, List.length_nil]); all_goals ((repeat' (first | apply And.intro | intro _)) <;> first | omega | rfl | exact Or.inl rfl | assumption | exact nb1 (by assumption) | exact nb2 (by assumption) | exact nb3 (by assumption) | exact nb4 (by assumption) | decide | decide +kernel | (simp [*]; done))) ?_))
      refine call0 (k97) (by first | rfl | (simp only [zoneA, lst_nt hnt]; rfl)) fun r h₂ hp => ?_
      (try simp only [zoneA, lst_nt hnt] at hp)
      obtain ⟨rfl, rfl⟩ := hp
      (cbv; (try simp only [nc] at *); (try refine Chk.mk (by (try simp only [nc, allc0, allc1, allcE, allcI, Cn.p, and_true, true_and, decide_eq_true_eq, imp_self, List.length_cons, List.length_nil]); all_goals ((repeat' (first | apply And.intro | intro _)) <;> first | omega | rfl | exact Or.inl rfl | assumption | exact nb1 (by assumption) | exact nb2 (by assumption) | exact nb3 (by assumption) | exact nb4 (by assumption) | decide | decide +kernel | (simp [*]; done))) ?_))
      refine ⟨(i + 1, -1, out ++ [⟨f, -1, A⟩]), .inr ⟨by rw [hie], g2.symm⟩, by show z.chs.length + 1 - (i + 1) + 0 < z.chs.length + 1 - i + 0; omega, ?_⟩
      (refine To.of [] ?_; cbv; (try simp only [nc]); (repeat' (first | exact trivial | exact WkN.refl _ | exact WkB.refl _ | refine ⟨?_, ?_⟩ | refine WkB.cells ?_ | refine WkN.agg ?_ | refine WkN.tup ?_)); (all_goals (first | exact .int rfl | exact .int (by first | omega | (simp only [nc]; omega) | (simp; done)) | exact .bool rfl | exact .snoc hnt rfl rfl rfl | exact .snoc hnt rfl rfl (by simp only [encZone, encTrain, lst_nt hnt]; rfl) | exact lit_nt hnt _ _ _ _ rfl | exact take_nt hnt (by omega) | exact lstR_wk hnt | exact .tok rfl | exact .tok (by simp) | exact .lst hnt rfl | exact .gsl (by simp) | exact .empty rfl | exact .nilOwn (by decide) (by decide) rfl | exact .nilGar (by decide) (by decide) rfl | exact .gd (by first | assumption | decide | (simp [*]; done)) (.refl _) | skip)))
  · simp only [decide_eq_false_iff_not] at hb1
    have ho : out = S := by
      rcases hp with h | ⟨_, h⟩
      · have := h.le; omega
      · exact h
    rw [← ho]
    (cbv; (try simp only [nc] at *); (try refine Chk.mk (by (try simp only [nc, allc0, allc1, allcE, allcI, Cn.p, and_true, true_and, decide_eq_true_eq, imp_self, List.length_cons, List.length_nil]); all_goals ((repeat' (first | apply And.intro | intro _)) <;> first | omega | rfl | exact Or.inl rfl | assumption | exact nb1 (by assumption) | exact nb2 (by assumption) | exact nb3 (by assumption) | exact nb4 (by assumption) | decide | decide +kernel | (simp [*]; done))) ?_))
    refine ⟨_, [], ?_, rfl, rfl⟩
    (refine To.of [] ?_; cbv; (try simp only [nc]); (repeat' (first | exact trivial | exact WkN.refl _ | exact WkB.refl _ | refine ⟨?_, ?_⟩ | refine WkB.cells ?_ | refine WkN.agg ?_ | refine WkN.tup ?_)); (all_goals (first | exact .int rfl | exact .int (by first | omega | (simp only [nc]; omega) | (simp; done)) | exact .bool rfl | exact .snoc hnt rfl rfl rfl | exact .snoc hnt rfl rfl (by simp only [encZone, encTrain, lst_nt hnt]; rfl) | exact lit_nt hnt _ _ _ _ rfl | exact take_nt hnt (by omega) | exact lstR_wk hnt | exact .tok rfl | exact .tok (by simp) | exact .lst hnt rfl | exact .gsl (by simp) | exact .empty rfl | exact .nilOwn (by decide) (by decide) rfl | exact .nilGar (by decide) (by decide) rfl | exact .gd (by first | assumption | decide | (simp [*]; done)) (.refl _) | skip)))

theorem c102 (p : Pc) (r : Int) (h1 : -100000000 ≤ p.ahd ∧ p.ahd ≤ 100000000) (h2 : -100000000 ≤ r ∧ r ≤ 100000000) : SC (fun _ => Try.prog) 102 [.agg (encPc p), .int .i64 fun _ => r] [] fun v h => v = .bool (fun _ => decide (p.fr ≤ r - p.ahd) && (decide (p.bef < 0) || decide (r - p.ahd < p.bef))) ∧ h = [] := by
  refine con Try.func102 (body := bodyOf Try.f102) rfl (by decide +kernel) ?_
  (cbv; try simp only [nc] at *)
  refine Chk.mk ?_ ?_
  · simp only [nc, allc0, allc1, allcE, allcI, Cn.p, and_true, true_and, decide_eq_true_eq, imp_self, List.length_cons, List.length_nil]
    exact ⟨⟨by omega, by omega⟩, fun h1 h2 => by rw [decide_eq_true h1, h2]; rfl⟩
  refine ⟨congrArg (fun y : Bool => AV.bool fun _ => y) ?_, trivial⟩
  cases decide (p.fr ≤ r - p.ahd) <;> cases decide (p.bef < 0) <;> rfl
end Go.Proofs.Ytlcgliadpalgfaa.Vm
