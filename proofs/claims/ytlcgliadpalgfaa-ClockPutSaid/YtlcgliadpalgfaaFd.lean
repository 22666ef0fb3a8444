/- Contracts: hours that are skipped or doubled. -/
import Derived.Test.YtlcgliadpalgfaaFs
set_option linter.unusedSimpArgs false
set_option linter.unusedVariables false
namespace Go.Proofs.Ytlcgliadpalgfaa.Vm
open Go Go.Proofs Sp
set_option maxRecDepth 100000
set_option maxHeartbeats 800000

def encSpan (x : Sp.Span) : List AV := [.int .i64 fun _ => x.fr, .int .i64 fun _ => x.to_]

theorem sink_all {P : Int → Prop} (h0 : P 0) : ∀ (j : Nat) (M : List Int), (∀ x ∈ M, P x) → ∀ x ∈ sink j M, P x
  | 0, M, h => h
  | j + 1, M, h => by
    unfold sink
    have hg : ∀ k, P (M.getD k 0) := fun k => by
      rw [List.getD_eq_getElem?_getD]
      cases hk : M[k]? with
      | none => exact h0
      | some x => exact h x (List.mem_of_getElem? hk)
    split
    · refine sink_all h0 j _ fun x hx => ?_
      rcases List.mem_or_eq_of_mem_set hx with hx | rfl
      · rcases List.mem_or_eq_of_mem_set hx with hx | rfl
        · exact h x hx
        · exact hg _
      · exact hg _
    · exact h
theorem isort_all {P : Int → Prop} (h0 : P 0) (M : List Int) (h : ∀ x ∈ M, P x) : ∀ x ∈ isort M, P x := by
  have key : ∀ (k i : Nat) (M : List Int), (∀ x ∈ M, P x) → ∀ x ∈ isortGo k i M, P x := by
    intro k
    induction k with
    | zero => intro i M h; exact h
    | succ k ih => intro i M h; exact ih (i + 1) _ (sink_all h0 i M h)
  exact key _ _ M h
theorem sink_length : ∀ (j : Nat) (M : List Int), (sink j M).length = M.length
  | 0, M => rfl
  | j + 1, M => by
    unfold sink
    split
    · rw [sink_length]; simp
    · rfl
theorem isort_length (M : List Int) : (isort M).length = M.length := by
  have key : ∀ (k i : Nat) (M : List Int), (isortGo k i M).length = M.length := by
    intro k
    induction k with
    | zero => intro i M; rfl
    | succ k ih => intro i M; rw [isortGo, ih, sink_length]
  exact key _ _ M

/-- The pieces of a valid zone. -/
theorem pieces_bd {z : Zone} (h : checkZone z = 0) : (pieces z).length ≤ 4 ∧ ∀ p ∈ pieces z, 0 ≤ p.fr ∧ p.fr ≤ 43200 ∧ 0 ≤ p.bef ∧ p.bef ≤ 1099511627776 ∧ -1000000 ≤ p.ahd ∧ p.ahd ≤ 1000000 := by
  have hs := small_of h
  have hl := pcsGo_len z.chs 0 z.base
  have h3 : z.chs.length ≤ 3 := by
    unfold checkZone at h
    split at h
    · cases h
    · split at h
      · cases h
      · omega
  have hat : ∀ c ∈ z.chs, 0 ≤ c.at_ ∧ c.at_ ≤ 43200 := by
    unfold checkZone at h
    split at h
    · cases h
    · split at h
      · cases h
      · have key : ∀ (l : List Chg) (p : Option Int), chkChs p l = 0 → ∀ c ∈ l, 0 ≤ c.at_ ∧ c.at_ ≤ 43200 := by
          intro l
          induction l with
          | nil => intro p _ c hc; cases hc
          | cons a l ih =>
            intro p hp c hc
            rw [chkChs_cons] at hp
            split at hp
            · cases hp
            rename_i h3
            split at hp
            · cases hp
            split at hp
            · cases hp
            rcases List.mem_cons.1 hc with rfl | hc
            · simp [inB] at h3
              omega
            · exact ih _ hp c hc
        exact key _ _ h
  refine ⟨by unfold pieces; omega, ?_⟩
  have key : ∀ (l : List Chg) (fr a : Int), (∀ c ∈ l, 0 ≤ c.at_ ∧ c.at_ ≤ 43200) → 0 ≤ fr ∧ fr ≤ 43200 → ∀ p ∈ pcsGo fr a l, 0 ≤ p.fr ∧ p.fr ≤ 43200 ∧ 0 ≤ p.bef ∧ p.bef ≤ 1099511627776 := by
    intro l
    induction l with
    | nil => intro fr a _ hf p hp; simp [pcsGo, openT] at hp; subst hp; simp; omega
    | cons c l ih =>
      intro fr a hc hf p hp
      have h1 := hc c (List.mem_cons_self ..)
      simp only [pcsGo] at hp
      split at hp
      · rcases List.mem_cons.1 hp with rfl | hp
        · simp; omega
        · exact ih _ _ (fun x hx => hc x (List.mem_cons_of_mem _ hx)) h1 p hp
      · exact ih _ _ (fun x hx => hc x (List.mem_cons_of_mem _ hx)) h1 p hp
  intro p hp
  have h1 := key z.chs 0 z.base hat (by omega) p hp
  have h2 := (pieces_small hs).2.2 p hp
  omega

theorem snocR {nt : (α : Type) → α → List α → Int → α} (hnt : ∀ (α : Type) (d : α) (l : List α) (i : Int), nt α d l i = l.getD i.toNat d) {α : Type} {enc : α → List AV} {d : α} {E X : List α} {n0 : Unit → Int} {g : (Unit → Int) → List AV} (h0 : n0 () = (E.length : Int)) (hg : ∀ k : Nat, k < X.length → g (fun _ => (k : Int)) = enc (X.getD k d)) :
    ∀ i : Nat, (i : Int) < (E.length : Int) + (X.length : Int) → snocF n0 (fun e => enc (nt α d E (e ()))) g (fun _ => (i : Int)) = enc (nt α d (E ++ X) (i : Int)) := fun i hi => by
  rw [nt_app hnt]
  show (if (i : Int) < n0 () then enc (nt α d E (i : Int)) else g (fun _ => (i : Int) - n0 ())) = _
  by_cases h : i < E.length
  · rw [if_pos (by omega), if_pos h]
  · rw [if_neg (by omega), if_neg h]
    have e : (fun _ : Unit => ((i : Int) - n0 ())) = fun _ => ((i - E.length : Nat) : Int) := funext fun _ => by omega
    rw [e, hg _ (by omega), hnt, Int.toNat_natCast]

theorem last_of {nt : (α : Type) → α → List α → Int → α} (hnt : ∀ (α : Type) (d : α) (l : List α) (i : Int), nt α d l i = l.getD i.toNat d) {α : Type} {d : α} {l : List α} (h : 0 < l.length) : l.getLast? = some (nt α d l ((l.length : Int) - 1)) := by
  have e : ((l.length : Int) - 1).toNat = l.length - 1 := by omega
  rw [hnt, e, List.getLast?_eq_getElem?, List.getD_eq_getElem?_getD, List.getElem?_eq_getElem (by omega)]
  rfl

/-- One more element behind a slice that has been cut by one. -/
theorem snocCut {nt : (α : Type) → α → List α → Int → α} (hnt : ∀ (α : Type) (d : α) (l : List α) (i : Int), nt α d l i = l.getD i.toNat d) {α : Type} {enc : α → List AV} {d : α} {l : List α} {x : α} {n0 : Unit → Int} {g : (Unit → Int) → List AV} (h : 0 < l.length) (h0 : n0 () = (l.length : Int) - 1) (hg : g (fun _ => 0) = enc x) :
    ∀ i : Nat, (i : Int) < (l.length : Int) → snocF n0 (fun e => enc (nt α d l (e ()))) g (fun _ => (i : Int)) = enc (nt α d (l.dropLast ++ [x]) (i : Int)) := fun i hi => by
  rw [nt_app hnt, List.length_dropLast]
  show (if (i : Int) < n0 () then enc (nt α d l (i : Int)) else g (fun _ => (i : Int) - n0 ())) = _
  by_cases hlt : i < l.length - 1
  · rw [if_pos (by omega), if_pos hlt, hnt, hnt]
    congr 1
    simp only [Int.toNat_natCast, List.getD_eq_getElem?_getD]
    rw [List.getElem?_dropLast, if_pos hlt]
  · rw [if_neg (by omega), if_neg hlt]
    have e : (fun _ : Unit => ((i : Int) - n0 ())) = fun _ => 0 := funext fun _ => by omega
    rw [e, hg, hnt, show i - (l.length - 1) = 0 from by omega]
    rfl

theorem c82 (z : Zone) (hz : checkZone z = 0) (f : FuncId) (q : Int → Bool) (hq : ∀ n : Int, SC (fun _ => Try.prog) f [.int .i64 fun _ => n] [] fun v h => v = .bool (fun _ => q n) ∧ h = []) :
    SC (fun _ => Try.prog) 82 [zoneA z, .fn f [] []] [] fun v h => v = lst 2 encSpan default (spans z q) ∧ h = [] := by
  obtain ⟨nt, hnt⟩ := nth_ex
  have hR : ∀ L : List Int, lstR encI 0 L = fun e => encI (nt Int 0 L (e ())) := fun L => by funext e; show encI _ = _; rw [hnt]
  refine SC.less (conF false true Try.func82 (body := bodyOf Try.f82) rfl (by decide +kernel) ?_)
  unfold zoneA
  cbv
  refine call0 (c90 z (small_of hz)) rfl fun r h₂ hp => ?_
  obtain ⟨rfl, rfl⟩ := hp
  obtain ⟨hl1, hl3⟩ := pieces_bd hz
  have hl2 := (pieces_small (small_of hz)).2.1
  unfold spans
  rw [lst_nt hnt]
  generalize pieces z = l at *
  cbv
  refine loopQ fun Q hQ => ?_
  refine loopF false true [1, 5, 6, 20, 21, 22] (fun (⟨i, E⟩ : Nat × List Int) => mkS 133 [(1, .fn f [] []), (5, .isl 3 (fun _ => (l.length : Int)) (fun e => encPc (nt Pc default l (e ()))) .none), (6, .gsl 1 fun _ => (E.length : Int)), (20, .isl 3 (fun _ => (l.length : Int)) (fun e => encPc (nt Pc default l (e ()))) .none), (21, .int .i64 fun _ => (l.length : Int)), (22, .int .i64 fun _ => (i : Int))])
    (fun ⟨i, E⟩ => [.cells [.undef, .undef], .gar 1 (fun _ => (E.length : Int)) fun e => encI (nt Int 0 E (e ()))])
    (fun ⟨i, E⟩ => i ≤ l.length ∧ ends l = E ++ ends (l.drop i) ∧ E.length = 2 * i) (fun i => l.length - i.1 + 0) (0, []) 2 (fun _ => rfl) ⟨Nat.zero_le _, by simp, by simp⟩ (To.of [(1, true)] ?_) ?_
  · cbv
    exact ⟨⟨.refl _, .refl _, .nilGar (by decide) (by decide) rfl, .refl _, .refl _, .int rfl, trivial⟩, .cells trivial, .gar rfl (fun i hi => absurd hi (by show ¬ ((i : Int) < 0); omega)), trivial⟩
  intro x hx
  obtain ⟨i, E⟩ := x
  have hi : i ≤ l.length := hx.1
  have hp : ends l = E ++ ends (l.drop i) := hx.2.1
  have hE : E.length = 2 * i := hx.2.2
  clear hx
  (cbv; (try simp only [nc] at *); (try refine Chk.mk (by (try simp only [nc, allc0, allc1, allcE, allcI, Cn.p, and_true, true_and, decide_eq_true_eq, imp_self, List.length_cons, List.length_nil]); all_goals ((repeat' (first | apply And.intro | intro _)) <;> first | omega | rfl | exact Or.inl rfl | assumption | exact nb1 (by assumption) | exact nb2 (by assumption) | exact nb3 (by assumption) | exact nb4 (by assumption) | decide | decide +kernel | (simp [*]; done))) ?_))
  refine ⟨fun hb => ?_, fun hb => ?_⟩
  · simp only [decide_eq_true_eq] at hb
    have hil : i < l.length := by omega
    have hd := nt_drop (d := default) hnt hil
    have hm := hl3 _ (nt_mem (d := default) hnt hil)
    (cbv; try simp only [nc] at *)
    obtain ⟨p, hc⟩ : ∃ p, nt Pc default l (i : Int) = p := ⟨_, rfl⟩
    rw [hc] at hd hm
    simp only [hc]
    refine ⟨by (try simp only [nc, allc0, allc1, allcE, allcI, Cn.p, and_true, true_and, decide_eq_true_eq, imp_self, List.length_cons, List.length_nil]); all_goals ((repeat' (first | apply And.intro | intro _)) <;> first | omega | rfl | exact Or.inl rfl | assumption | exact nb1 (by assumption) | exact nb2 (by assumption) | exact nb3 (by assumption) | exact nb4 (by assumption) | decide | decide +kernel | (simp [*]; done)), ⟨(i + 1, E ++ [p.fr + p.ahd, p.bef + p.ahd]), ⟨by omega, by dsimp only; rw [hp, hd]; simp [ends], by simp; omega⟩, by show l.length - (i + 1) + 0 < l.length - i + 0; omega, To.of [] ?_⟩⟩
    cbv
    refine ⟨⟨.refl _, .refl _, .gsl (by simp), .refl _, .refl _, .int rfl, trivial⟩, .refl _, .gar (by simp) fun k hk => snocR hnt (X := [p.fr + p.ahd, p.bef + p.ahd]) rfl (fun k hk => ?_) k (by simpa using hk), trivial⟩
    match k, hk with
    | 0, _ => rfl
    | 1, _ => rfl
  · simp only [decide_eq_false_iff_not] at hb
    have hdr : l.drop i = [] := List.drop_eq_nil_of_le (by omega)
    have hp : ends l = E := by rw [hp, hdr]; exact List.append_nil _
    have hE2 : 2 ≤ E.length ∧ E.length ≤ 8 := by omega
    subst hp
    (cbv; try simp only [nc] at *)
    refine hQ _ _ _ ?_
    (cbv; try simp only [nc] at *)
    clear hQ
    have h115 := c115 (ends l) (fun _ => ((ends l).length : Int)) rfl (by omega) (by omega)
    rw [hR, hR] at h115
    refine callL [1] h115 (by decide) (by simp) rfl rfl fun r h₂ hp => ?_
    obtain ⟨rfl, rfl⟩ := hp
    have hlen : (isort (ends l)).length = (ends l).length := isort_length _
    have hbd : ∀ x ∈ isort (ends l), -2000000 ≤ x ∧ x ≤ 1100000000000 := isort_all (by omega) _ fun x hx => by
      simp only [ends, List.mem_flatMap] at hx
      obtain ⟨p, hp, hx⟩ := hx
      have := hl3 p hp
      simp at hx
      omega
    have hsp : spansGo l q [] (isort (ends l)) = spansGo l q [] ((isort (ends l)).drop 0) := rfl
    generalize isort (ends l) = S at *
    generalize (ends l).length = N at *
    subst hlen
    (cbv; (try simp only [nc] at *); (try refine Chk.mk (by (try simp only [nc, allc0, allc1, allcE, allcI, Cn.p, and_true, true_and, decide_eq_true_eq, imp_self, List.length_cons, List.length_nil]); all_goals ((repeat' (first | apply And.intro | intro _)) <;> first | omega | rfl | exact Or.inl rfl | assumption | exact nb1 (by assumption) | exact nb2 (by assumption) | exact nb3 (by assumption) | exact nb4 (by assumption) | decide | decide +kernel | (simp [*]; done))) ?_))
    refine loopQ fun Q hQ => ?_
    refine loopF false true [1, 5, 6, 9, 46, 47, 48] (fun (⟨i, out⟩ : Nat × List Sp.Span) => mkS 133 [(1, .fn f [] []), (5, .isl 3 (fun _ => (l.length : Int)) (fun e => encPc (nt Pc default l (e ()))) .none),
        (6, .isl 1 (fun _ => (S.length : Int)) (fun e => encI (nt Int 0 S (e ()))) .none), (9, .isl 2 (fun _ => (out.length : Int)) (fun e => encSpan (nt Sp.Span default out (e ()))) .none),
        (46, .isl 1 (fun _ => (S.length : Int) - 1) (fun e => encI (nt Int 0 S (e ()))) .none), (47, .int .i64 fun _ => (S.length : Int) - 1), (48, .int .i64 fun _ => (i : Int))])
      (fun _ => [.cells [.undef, .undef], .fro 1 (fun _ => (S.length : Int)) fun e => encI (nt Int 0 S (e ()))])
      (fun ⟨i, out⟩ => i + 1 ≤ S.length ∧ spansGo l q [] S = spansGo l q out (S.drop i) ∧ out.length ≤ i) (fun i => S.length - i.1 + 0) (0, []) 2 (fun _ => rfl) ⟨by omega, rfl, by simp⟩ (To.of [] ?_) ?_
    · cbv
      exact ⟨⟨.refl _, .refl _, .gd (by decide) (.refl _), .empty rfl, .refl _, .refl _, .int rfl, trivial⟩, .cells trivial, .refl _, trivial⟩
    clear h115 hp hE hdr hb hi hsp
    intro x hx
    obtain ⟨i, out⟩ := x
    have hi : i + 1 ≤ S.length := hx.1
    have hp : spansGo l q [] S = spansGo l q out (S.drop i) := hx.2.1
    have ho : out.length ≤ i := hx.2.2
    clear hx
    (cbv; (try simp only [nc] at *); (try refine Chk.mk (by (try simp only [nc, allc0, allc1, allcE, allcI, Cn.p, and_true, true_and, decide_eq_true_eq, imp_self, List.length_cons, List.length_nil]); all_goals ((repeat' (first | apply And.intro | intro _)) <;> first | omega | rfl | exact Or.inl rfl | assumption | exact nb1 (by assumption) | exact nb2 (by assumption) | exact nb3 (by assumption) | exact nb4 (by assumption) | decide | decide +kernel | (simp [*]; done))) ?_))
    refine ⟨fun hb => ?_, fun hb => ?_⟩
    · simp only [decide_eq_true_eq] at hb
      have hil : i < S.length := by omega
      have hil' : i + 1 < S.length := by omega
      have hd := nt_drop (d := (0 : Int)) hnt hil
      have hd' := nt_drop (d := (0 : Int)) hnt hil'
      have hm := hbd _ (nt_mem (d := (0 : Int)) hnt hil)
      have hm' := hbd _ (nt_mem (d := (0 : Int)) hnt hil')
      (cbv; (try simp only [nc] at *); (try refine Chk.mk (by (try simp only [nc, allc0, allc1, allcE, allcI, Cn.p, and_true, true_and, decide_eq_true_eq, imp_self, List.length_cons, List.length_nil]); all_goals ((repeat' (first | apply And.intro | intro _)) <;> first | omega | rfl | exact Or.inl rfl | assumption | exact nb1 (by assumption) | exact nb2 (by assumption) | exact nb3 (by assumption) | exact nb4 (by assumption) | decide | decide +kernel | (simp [*]; done))) ?_))
      obtain ⟨lo, hlo⟩ : ∃ p, nt Int 0 S (i : Int) = p := ⟨_, rfl⟩
      obtain ⟨hi', hhi⟩ : ∃ p, nt Int 0 S ((i : Int) + 1) = p := ⟨_, rfl⟩
      have hhi2 : nt Int 0 S ((i + 1 : Nat) : Int) = hi' := hhi
      rw [hlo] at hd hm
      rw [hhi2] at hd' hm'
      rw [hd, hd', spansGo] at hp
      simp only [hlo, hhi]
      refine loopQ fun Q₂ hQ₂ => ?_
      refine loopF false true [1, 5, 6, 9, 10, 11, 12, 13, 46, 47, 48, 58, 59, 60] (fun (⟨k, n⟩ : Nat × Int) => mkS 133 [(1, .fn f [] []), (5, .isl 3 (fun _ => (l.length : Int)) (fun e => encPc (nt Pc default l (e ()))) .none),
        (6, .isl 1 (fun _ => (S.length : Int)) (fun e => encI (nt Int 0 S (e ()))) .none), (9, .isl 2 (fun _ => (out.length : Int)) (fun e => encSpan (nt Sp.Span default out (e ()))) .none),
        (10, .int .i64 fun _ => (i : Int)), (11, .int .i64 fun _ => lo), (12, .int .i64 fun _ => hi'), (13, .int .i64 fun _ => n),
        (46, .isl 1 (fun _ => (S.length : Int) - 1) (fun e => encI (nt Int 0 S (e ()))) .none), (47, .int .i64 fun _ => (S.length : Int) - 1), (48, .int .i64 fun _ => (i : Int)),
        (58, .isl 3 (fun _ => (l.length : Int)) (fun e => encPc (nt Pc default l (e ()))) .none), (59, .int .i64 fun _ => (l.length : Int)), (60, .int .i64 fun _ => (k : Int))])
        (fun _ => [.cells [.undef, .undef], .fro 1 (fun _ => (S.length : Int)) fun e => encI (nt Int 0 S (e ()))])
        (fun ⟨k, n⟩ => k ≤ l.length ∧ times l lo = n + times (l.drop k) lo ∧ 0 ≤ n ∧ n ≤ k) (fun i => l.length - i.1 + 0) (0, 0) 2 (fun _ => rfl) ⟨Nat.zero_le _, by simp, by simp, by simp⟩ (To.of [] ?_) ?_
      · cbv
        exact ⟨⟨.refl _, .refl _, .refl _, .refl _, .refl _, .refl _, .refl _, .refl _, .refl _, .refl _, .refl _, .refl _, .refl _, .int rfl, trivial⟩, .refl _, .refl _, trivial⟩
      intro x hx
      obtain ⟨k, n⟩ := x
      have hk : k ≤ l.length := hx.1
      have ht : times l lo = n + times (l.drop k) lo := hx.2.1
      have hn : 0 ≤ n ∧ n ≤ k := hx.2.2
      clear hx
      (cbv; (try simp only [nc] at *); (try refine Chk.mk (by (try simp only [nc, allc0, allc1, allcE, allcI, Cn.p, and_true, true_and, decide_eq_true_eq, imp_self, List.length_cons, List.length_nil]); all_goals ((repeat' (first | apply And.intro | intro _)) <;> first | omega | rfl | exact Or.inl rfl | assumption | exact nb1 (by assumption) | exact nb2 (by assumption) | exact nb3 (by assumption) | exact nb4 (by assumption) | decide | decide +kernel | (simp [*]; done))) ?_))
      refine ⟨fun hb => ?_, fun hb => ?_⟩
      · simp only [decide_eq_true_eq] at hb
        have hkl : k < l.length := by omega
        have hdk := nt_drop (d := default) hnt hkl
        have hmk := hl3 _ (nt_mem (d := default) hnt hkl)
        (cbv; try simp only [nc] at *)
        obtain ⟨p, hc⟩ : ∃ p, nt Pc default l (k : Int) = p := ⟨_, rfl⟩
        rw [hc] at hdk hmk
        rw [hdk, times] at ht
        simp only [hc]
        have hite : (bif decide (p.fr + p.ahd ≤ lo) then decide (lo < p.bef + p.ahd) else false) = decide (p.fr + p.ahd ≤ lo ∧ lo < p.bef + p.ahd) := by
          rw [Bool.decide_and]; cases decide (p.fr + p.ahd ≤ lo) <;> rfl
        rw [hite]
        refine Chk.mk (by (try simp only [nc, allc0, allc1, allcE, allcI, Cn.p, and_true, true_and, decide_eq_true_eq, imp_self, List.length_cons, List.length_nil]); all_goals ((repeat' (first | apply And.intro | intro _)) <;> first | omega | rfl | exact Or.inl rfl | assumption | exact nb1 (by assumption) | exact nb2 (by assumption) | exact nb3 (by assumption) | exact nb4 (by assumption) | decide | decide +kernel | (simp [*]; done))) ⟨fun hb => ?_, fun hb => ?_⟩
        · simp only [decide_eq_true_eq] at hb
          rw [if_pos hb] at ht
          (cbv; (try simp only [nc] at *); (try refine Chk.mk (by (try simp only [nc, allc0, allc1, allcE, allcI, Cn.p, and_true, true_and, decide_eq_true_eq, imp_self, List.length_cons, List.length_nil]); all_goals ((repeat' (first | apply And.intro | intro _)) <;> first | omega | rfl | exact Or.inl rfl | assumption | exact nb1 (by assumption) | exact nb2 (by assumption) | exact nb3 (by assumption) | exact nb4 (by assumption) | decide | decide +kernel | (simp [*]; done))) ?_))
          refine ⟨(k + 1, n + 1), ⟨by dsimp only; omega, by dsimp only; omega, by dsimp only; omega, by dsimp only; omega⟩, by show l.length - (k + 1) + 0 < l.length - k + 0; omega, To.of [] ?_⟩
          cbv
          exact ⟨⟨.refl _, .refl _, .refl _, .refl _, .refl _, .refl _, .refl _, .refl _, .refl _, .refl _, .refl _, .refl _, .refl _, .int rfl, trivial⟩, .refl _, .refl _, trivial⟩
        · simp only [decide_eq_false_iff_not] at hb
          rw [if_neg hb] at ht
          (cbv; (try simp only [nc] at *); (try refine Chk.mk (by (try simp only [nc, allc0, allc1, allcE, allcI, Cn.p, and_true, true_and, decide_eq_true_eq, imp_self, List.length_cons, List.length_nil]); all_goals ((repeat' (first | apply And.intro | intro _)) <;> first | omega | rfl | exact Or.inl rfl | assumption | exact nb1 (by assumption) | exact nb2 (by assumption) | exact nb3 (by assumption) | exact nb4 (by assumption) | decide | decide +kernel | (simp [*]; done))) ?_))
          refine ⟨(k + 1, n), ⟨by dsimp only; omega, by dsimp only; omega, by dsimp only; omega, by dsimp only; omega⟩, by show l.length - (k + 1) + 0 < l.length - k + 0; omega, To.of [] ?_⟩
          cbv
          exact ⟨⟨.refl _, .refl _, .refl _, .refl _, .refl _, .refl _, .refl _, .refl _, .refl _, .refl _, .refl _, .refl _, .refl _, .int rfl, trivial⟩, .refl _, .refl _, trivial⟩
      · simp only [decide_eq_false_iff_not] at hb
        have hdk : l.drop k = [] := List.drop_eq_nil_of_le (by omega)
        rw [hdk, times, Int.add_zero] at ht
        (cbv; try simp only [nc] at *)
        refine hQ₂ _ _ _ ?_
        clear hQ₂
        subst ht
        (cbv; (try simp only [nc] at *); (try refine Chk.mk (by (try simp only [nc, allc0, allc1, allcE, allcI, Cn.p, and_true, true_and, decide_eq_true_eq, imp_self, List.length_cons, List.length_nil]); all_goals ((repeat' (first | apply And.intro | intro _)) <;> first | omega | rfl | exact Or.inl rfl | assumption | exact nb1 (by assumption) | exact nb2 (by assumption) | exact nb3 (by assumption) | exact nb4 (by assumption) | decide | decide +kernel | (simp [*]; done))) ?_))
        refine ⟨fun hb => ?_, fun hb => ?_⟩
        · -- not the same: the answer is asked for
          simp only [Bool.not_eq_true'] at hb
          have hne : ¬ hi' = lo := by simpa using hb
          (cbv; (try simp only [nc] at *); (try refine Chk.mk (by (try simp only [nc, allc0, allc1, allcE, allcI, Cn.p, and_true, true_and, decide_eq_true_eq, imp_self, List.length_cons, List.length_nil]); all_goals ((repeat' (first | apply And.intro | intro _)) <;> first | omega | rfl | exact Or.inl rfl | assumption | exact nb1 (by assumption) | exact nb2 (by assumption) | exact nb3 (by assumption) | exact nb4 (by assumption) | decide | decide +kernel | (simp [*]; done))) ?_))
          refine call0 (hq _) rfl fun r h₂ hp' => ?_
          obtain ⟨rfl, rfl⟩ := hp'
          (cbv; (try simp only [nc] at *); (try refine Chk.mk (by (try simp only [nc, allc0, allc1, allcE, allcI, Cn.p, and_true, true_and, decide_eq_true_eq, imp_self, List.length_cons, List.length_nil]); all_goals ((repeat' (first | apply And.intro | intro _)) <;> first | omega | rfl | exact Or.inl rfl | assumption | exact nb1 (by assumption) | exact nb2 (by assumption) | exact nb3 (by assumption) | exact nb4 (by assumption) | decide | decide +kernel | (simp [*]; done))) ?_))
          refine ⟨fun hb => ?_, fun hb => ?_⟩
          · have hqf : q (times l lo) = false := by simpa [hne] using hb
            (cbv; (try simp only [nc] at *); (try refine Chk.mk (by (try simp only [nc, allc0, allc1, allcE, allcI, Cn.p, and_true, true_and, decide_eq_true_eq, imp_self, List.length_cons, List.length_nil]); all_goals ((repeat' (first | apply And.intro | intro _)) <;> first | omega | rfl | exact Or.inl rfl | assumption | exact nb1 (by assumption) | exact nb2 (by assumption) | exact nb3 (by assumption) | exact nb4 (by assumption) | decide | decide +kernel | (simp [*]; done))) ?_))
            refine ⟨(i + 1, out), ⟨by dsimp only; omega, by dsimp only; rw [hp, hd', spanStep, if_pos (.inr hqf)], by dsimp only; omega⟩, by show S.length - (i + 1) + 0 < S.length - i + 0; omega, To.of [] ?_⟩
            cbv
            exact ⟨⟨.refl _, .refl _, .refl _, .refl _, .refl _, .refl _, .int rfl, trivial⟩, .refl _, .refl _, trivial⟩
          · have hqt : q (times l lo) = true := by simpa [hne] using hb
            rw [spanStep, if_neg (by simp [hne, hqt])] at hp
            (cbv; (try simp only [nc] at *); (try refine Chk.mk (by (try simp only [nc, allc0, allc1, allcE, allcI, Cn.p, and_true, true_and, decide_eq_true_eq, imp_self, List.length_cons, List.length_nil]); all_goals ((repeat' (first | apply And.intro | intro _)) <;> first | omega | rfl | exact Or.inl rfl | assumption | exact nb1 (by assumption) | exact nb2 (by assumption) | exact nb3 (by assumption) | exact nb4 (by assumption) | decide | decide +kernel | (simp [*]; done))) ?_))
            refine ⟨fun hb' => ?_, fun hb' => ?_⟩
            · have hpos : 0 < out.length := by
                rcases Nat.eq_zero_or_pos out.length with h0 | h0
                · rw [h0] at hb'; cases hb'
                · exact h0
              have hto : (nt Sp.Span default out ((out.length : Int) - 1)).to_ = lo - 1 := by
                rw [decide_eq_true (show (0 : Int) < (out.length : Int) by omega)] at hb'
                simpa using hb'
              rw [last_of (d := default) hnt hpos] at hp
              simp only [hto, if_true] at hp
              (cbv; (try simp only [nc] at *); (try refine Chk.mk (by (try simp only [nc, allc0, allc1, allcE, allcI, Cn.p, and_true, true_and, decide_eq_true_eq, imp_self, List.length_cons, List.length_nil]); all_goals ((repeat' (first | apply And.intro | intro _)) <;> first | omega | rfl | exact Or.inl rfl | assumption | exact nb1 (by assumption) | exact nb2 (by assumption) | exact nb3 (by assumption) | exact nb4 (by assumption) | decide | decide +kernel | (simp [*]; done))) ?_))
              refine ⟨(i + 1, out.dropLast ++ [⟨(nt Sp.Span default out ((out.length : Int) - 1)).fr, hi' - 1⟩]), ⟨by dsimp only; omega, by dsimp only; rw [hp, hd'], by simp; omega⟩, by show S.length - (i + 1) + 0 < S.length - i + 0; omega, To.of [] ?_⟩
              cbv
              exact ⟨⟨.refl _, .refl _, .refl _, .none (by simp only [nc, List.length_append, List.length_dropLast, List.length_cons, List.length_nil]; omega) (fun k hk => snocCut hnt hpos rfl rfl k (by simp only [nc, List.length_cons, List.length_nil] at hk; omega)), .refl _, .refl _, .int rfl, trivial⟩, .refl _, .refl _, trivial⟩
            · have hstep : (match out.getLast? with
                | some x => if x.to_ = lo - 1 then out.dropLast ++ [⟨x.fr, hi' - 1⟩] else out ++ [⟨lo, hi' - 1⟩]
                | none => out ++ [⟨lo, hi' - 1⟩]) = out ++ [(⟨lo, hi' - 1⟩ : Sp.Span)] := by
                rcases Nat.eq_zero_or_pos out.length with h0 | h0
                · rw [List.eq_nil_of_length_eq_zero h0]; rfl
                · rw [last_of (d := default) hnt h0]
                  rw [decide_eq_true (show (0 : Int) < (out.length : Int) by omega)] at hb'
                  simp only
                  rw [if_neg (by simpa using hb')]
              have hp : spansGo l q [] S = spansGo l q (out ++ [(⟨lo, hi' - 1⟩ : Sp.Span)]) (hi' :: List.drop (i + 1 + 1) S) := by rw [← hstep]; exact hp
              (cbv; (try simp only [nc] at *); (try refine Chk.mk (by (try simp only [nc, allc0, allc1, allcE, allcI, Cn.p, and_true, true_and, decide_eq_true_eq, imp_self, List.length_cons, List.length_nil]); all_goals ((repeat' (first | apply And.intro | intro _)) <;> first | omega | rfl | exact Or.inl rfl | assumption | exact nb1 (by assumption) | exact nb2 (by assumption) | exact nb3 (by assumption) | exact nb4 (by assumption) | decide | decide +kernel | (simp [*]; done))) ?_))
              refine ⟨(i + 1, out ++ [⟨lo, hi' - 1⟩]), ⟨by dsimp only; omega, by dsimp only; rw [hp, hd'], by simp; omega⟩, by show S.length - (i + 1) + 0 < S.length - i + 0; omega, To.of [] ?_⟩
              cbv
              exact ⟨⟨.refl _, .refl _, .refl _, .none (by simp) (fun k hk => snoc_eq hnt (l := out) rfl rfl rfl k (by simp only [nc, List.length_cons, List.length_nil] at hk; omega)), .refl _, .refl _, .int rfl, trivial⟩, .refl _, .refl _, trivial⟩
        · have heq : hi' = lo := by simpa using hb
          (cbv; (try simp only [nc] at *); (try refine Chk.mk (by (try simp only [nc, allc0, allc1, allcE, allcI, Cn.p, and_true, true_and, decide_eq_true_eq, imp_self, List.length_cons, List.length_nil]); all_goals ((repeat' (first | apply And.intro | intro _)) <;> first | omega | rfl | exact Or.inl rfl | assumption | exact nb1 (by assumption) | exact nb2 (by assumption) | exact nb3 (by assumption) | exact nb4 (by assumption) | decide | decide +kernel | (simp [*]; done))) ?_))
          refine Br.isT (by decide) ?_
          (cbv; (try simp only [nc] at *); (try refine Chk.mk (by (try simp only [nc, allc0, allc1, allcE, allcI, Cn.p, and_true, true_and, decide_eq_true_eq, imp_self, List.length_cons, List.length_nil]); all_goals ((repeat' (first | apply And.intro | intro _)) <;> first | omega | rfl | exact Or.inl rfl | assumption | exact nb1 (by assumption) | exact nb2 (by assumption) | exact nb3 (by assumption) | exact nb4 (by assumption) | decide | decide +kernel | (simp [*]; done))) ?_))
          refine ⟨(i + 1, out), ⟨by dsimp only; omega, by dsimp only; rw [hp, hd', spanStep, if_pos (.inl heq)], by dsimp only; omega⟩, by show S.length - (i + 1) + 0 < S.length - i + 0; omega, To.of [] ?_⟩
          cbv
          exact ⟨⟨.refl _, .refl _, .refl _, .refl _, .refl _, .refl _, .int rfl, trivial⟩, .refl _, .refl _, trivial⟩
    · simp only [decide_eq_false_iff_not] at hb
      have hlast : S.length - i = 1 := by omega
      have hdl : ∃ x, S.drop i = [x] := List.length_eq_one_iff.1 (by rw [List.length_drop]; exact hlast)
      (cbv; try simp only [nc] at *)
      obtain ⟨x, hdx⟩ := hdl
      rw [hdx, spansGo_one] at hp
      refine hQ _ _ _ ?_
      clear hQ
      (cbv; (try simp only [nc] at *); (try refine Chk.mk (by (try simp only [nc, allc0, allc1, allcE, allcI, Cn.p, and_true, true_and, decide_eq_true_eq, imp_self, List.length_cons, List.length_nil]); all_goals ((repeat' (first | apply And.intro | intro _)) <;> first | omega | rfl | exact Or.inl rfl | assumption | exact nb1 (by assumption) | exact nb2 (by assumption) | exact nb3 (by assumption) | exact nb4 (by assumption) | decide | decide +kernel | (simp [*]; done))) ?_))
      refine ⟨lst 2 encSpan default out, [], To.of [] ⟨⟨.lst hnt rfl, trivial⟩, trivial⟩, by rw [hp], rfl⟩

theorem c83 (n : Int) : SC (fun _ => Try.prog) 83 [.int .i64 fun _ => n] [] fun v h => v = .bool (fun _ => decide (n = 0)) ∧ h = [] := by
  refine con Try.func83 (body := bodyOf Try.f83) rfl (by decide +kernel) ?_
  cbv
  exact ⟨rfl, trivial⟩
theorem c85 (n : Int) : SC (fun _ => Try.prog) 85 [.int .i64 fun _ => n] [] fun v h => v = .bool (fun _ => decide (1 < n)) ∧ h = [] := by
  refine con Try.func85 (body := bodyOf Try.f85) rfl (by decide +kernel) ?_
  cbv

theorem c31 (z : Zone) (hlen : z.chs.length ≤ 1000000) : SC (fun _ => Try.prog) 31 [zoneA z] [] fun v h => v = .tup [lst 2 encSpan default (Skipped z).1, .int .i64 fun _ => (Skipped z).2] ∧ h = [] := by
  refine SC.less (con Try.func31 (body := bodyOf Try.f31) rfl (by decide +kernel) ?_)
  unfold zoneA Skipped
  cbv
  refine call0 (c79 z hlen) rfl fun r h₂ hp => ?_
  obtain ⟨rfl, rfl⟩ := hp
  have hz : checkZone z = 0 → checkZone z = 0 := id
  generalize he : checkZone z = e at *
  cbv
  refine ⟨fun hb => ?_, fun hb => ?_⟩
  · simp only [bne_iff_ne, ne_eq] at hb
    cbv
    refine ⟨.tup [lst 2 encSpan default [], .int .i64 fun _ => e], [], To.of [] ⟨⟨.tup ⟨.empty rfl, .refl _, trivial⟩, trivial⟩, trivial⟩, by simp [hb], rfl⟩
  simp only [bne_eq_false_iff_eq] at hb
  subst hb
  cbv
  refine call0 (c82 z he 83 _ c83) rfl fun r h₂ hp => ?_
  obtain ⟨rfl, rfl⟩ := hp
  generalize spans z _ = l
  cbv
  exact ⟨.tup [lst 2 encSpan default l, .int .i64 fun _ => 0], [], To.of [] ⟨⟨.tup ⟨.refl _, .refl _, trivial⟩, trivial⟩, trivial⟩, by simp, rfl⟩

theorem c33 (z : Zone) (hlen : z.chs.length ≤ 1000000) : SC (fun _ => Try.prog) 33 [zoneA z] [] fun v h => v = .tup [lst 2 encSpan default (Doubled z).1, .int .i64 fun _ => (Doubled z).2] ∧ h = [] := by
  refine SC.less (con Try.func33 (body := bodyOf Try.f33) rfl (by decide +kernel) ?_)
  unfold zoneA Doubled
  cbv
  refine call0 (c79 z hlen) rfl fun r h₂ hp => ?_
  obtain ⟨rfl, rfl⟩ := hp
  generalize he : checkZone z = e at *
  cbv
  refine ⟨fun hb => ?_, fun hb => ?_⟩
  · simp only [bne_iff_ne, ne_eq] at hb
    cbv
    refine ⟨.tup [lst 2 encSpan default [], .int .i64 fun _ => e], [], To.of [] ⟨⟨.tup ⟨.empty rfl, .refl _, trivial⟩, trivial⟩, trivial⟩, by simp [hb], rfl⟩
  simp only [bne_eq_false_iff_eq] at hb
  subst hb
  cbv
  refine call0 (c82 z he 85 _ c85) rfl fun r h₂ hp => ?_
  obtain ⟨rfl, rfl⟩ := hp
  generalize spans z _ = l
  cbv
  exact ⟨.tup [lst 2 encSpan default l, .int .i64 fun _ => 0], [], To.of [] ⟨⟨.tup ⟨.refl _, .refl _, trivial⟩, trivial⟩, trivial⟩, by simp, rfl⟩
end Go.Proofs.Ytlcgliadpalgfaa.Vm
