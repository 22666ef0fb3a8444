/- Plain: the reference's spans are the program's. -/
import Derived.Test.YtlcgliadpalgfaaPw
import Derived.Test.YtlcgliadpalgfaaZd
set_option linter.unusedSimpArgs false
set_option linter.unusedVariables false
namespace Go.Proofs.Ytlcgliadpalgfaa.Vm
open Go Go.Proofs Sp

theorem pcsGo_bef : ∀ (l : List Chg) (fr a : Int), fr < openT → (∀ c ∈ l, c.at_ ≤ 43200) → ∀ p ∈ pcsGo fr a l, p.fr < p.bef ∧ (p.bef = openT ∨ p.bef ≤ 43200)
  | [], fr, a, hf, _, p, hp => by
    have e : pcsGo fr a [] = [⟨fr, openT, a⟩] := rfl
    rw [e, List.mem_singleton] at hp
    subst hp
    exact ⟨hf, .inl rfl⟩
  | c :: r, fr, a, hf, h, p, hp => by
    have hc := h c (List.mem_cons_self ..)
    have ih := pcsGo_bef r c.at_ (a + c.by_) (by unfold openT; omega) fun x hx => h x (List.mem_cons_of_mem _ hx)
    by_cases hlt : fr < c.at_
    · have e : pcsGo fr a (c :: r) = ⟨fr, c.at_, a⟩ :: pcsGo c.at_ (a + c.by_) r := if_pos hlt
      rw [e] at hp
      rcases List.mem_cons.1 hp with rfl | hp
      · exact ⟨hlt, .inr hc⟩
      · exact ih p hp
    · have e : pcsGo fr a (c :: r) = pcsGo c.at_ (a + c.by_) r := if_neg hlt
      rw [e] at hp
      exact ih p hp

theorem spans_ref {z : Zone} (hz : checkZone z = 0) {q : Int → Bool} (hq1 : q 1 = false) {x0 : Pc} (hx0 : x0 ∈ strs z) :
    spans z q = refGo (fun n => q (cnt (strs z) n : Int)) (highF 0 (strs z) + 1 - lowF (x0.fr + x0.ahd) (strs z)).toNat (lowF (x0.fr + x0.ahd) (strs z)) [] ∧ -2000000 ≤ lowF (x0.fr + x0.ahd) (strs z) ∧ highF 0 (strs z) ≤ 2000000 := by
  obtain ⟨_, hb, _, _, _⟩ := asc_of hz
  have hat : ∀ c ∈ z.chs, c.at_ ≤ 43200 := fun c hc => (hb c hc).2.1
  obtain ⟨hpl, hpb⟩ := pieces_bd hz
  have hbef := pcsGo_bef z.chs 0 z.base (by unfold openT; omega) hat
  have hop := pcsGo_open z.chs 0 z.base hat
  have hl1 := (pcsGo_len z.chs 0 z.base).1
  change ∀ p ∈ pieces z, p.fr < p.bef ∧ (p.bef = openT ∨ p.bef ≤ 43200) at hbef
  change ∀ i, i < (pieces z).length → (((pieces z).getD i default).bef = openT ↔ i + 1 = (pieces z).length) at hop
  change 1 ≤ (pieces z).length at hl1
  have hs2 := fun n => spans_in2 (z := z) (q := q) n
  have hst : strs z = (pieces z).map cl := rfl
  generalize strs z = L at *
  generalize pieces z = P at *
  have hcl : ∀ p ∈ P, cl p ∈ L := fun p hp => by rw [hst]; exact List.mem_map_of_mem hp
  have hLb : ∀ x ∈ L, ∃ p ∈ P, x = cl p := fun x hx => by
    rw [hst] at hx
    obtain ⟨p, hp, e⟩ := List.mem_map.1 hx
    exact ⟨p, hp, e.symm⟩
  have hc1 : ∀ p : Pc, (cl p).fr = p.fr ∧ (cl p).ahd = p.ahd ∧ (p.bef = openT → (cl p).bef = -1) ∧ (p.bef ≠ openT → (cl p).bef = p.bef) := fun p => by
    unfold cl
    split <;> rename_i h <;> simp [h]
  obtain ⟨lo1, lo2, lo3⟩ := lowF_ok L (x0.fr + x0.ahd)
  obtain ⟨hi1, hi2, hi3⟩ := highF_ok L 0
  have hlow : ∃ p ∈ P, lowF (x0.fr + x0.ahd) L = p.fr + p.ahd := by
    rcases lo3 with h | ⟨x, hx, h⟩
    · obtain ⟨p, hp, e⟩ := hLb x0 hx0
      exact ⟨p, hp, by rw [h, e, (hc1 p).1, (hc1 p).2.1]⟩
    · obtain ⟨p, hp, e⟩ := hLb x hx
      exact ⟨p, hp, by rw [h, e, (hc1 p).1, (hc1 p).2.1]⟩
  have hhigh : highF 0 L ≤ 2000000 := by
    rcases hi3 with h | ⟨x, hx, h⟩
    · omega
    · obtain ⟨p, hp, e⟩ := hLb x hx
      obtain ⟨c1, c2, c3, c4⟩ := hc1 p
      obtain ⟨b1, b2⟩ := hbef p hp
      have b3 := hpb p hp
      rw [e, c1, c2] at h
      by_cases hb : p.bef = openT
      · rw [c3 hb] at h; omega
      · rw [c4 hb] at h; omega
  clear hi3 lo3
  generalize lowF (x0.fr + x0.ahd) L = low at *
  generalize highF 0 L = high at *
  have hlo : ∀ p ∈ P, low ≤ p.fr + p.ahd := fun p hp => by
    have := lo2 _ (hcl p hp)
    rw [(hc1 p).1, (hc1 p).2.1] at this
    exact this
  have hhi : ∀ p ∈ P, p.fr + p.ahd ≤ high ∧ (p.bef ≠ openT → p.bef + p.ahd ≤ high) := fun p hp => by
    obtain ⟨c1, c2, c3, c4⟩ := hc1 p
    obtain ⟨h1, h2⟩ := hi2 _ (hcl p hp)
    rw [c1, c2] at h1
    exact ⟨h1, fun hb => by rw [c4 hb, c2] at h2; exact h2⟩
  obtain ⟨p1, hp1, elow⟩ := hlow
  have hlb := hpb p1 hp1
  refine ⟨?_, by omega, hhigh⟩
  have hlh : low ≤ high := by have := (hhi p1 hp1).1; omega
  have hR := refGo_at (q := fun n => q (cnt L n : Int)) (lo := low) (high + 1 - low).toNat low [] (Int.le_refl _) (ref_start _ _)
  rw [show low + ((high + 1 - low).toNat : Int) = high + 1 by omega] at hR
  refine can_eq _ _ (hs2 0).1 hR.can fun n => ?_
  rw [hR.eq n, ← inS_iff]
  obtain ⟨_, lo, hi, hloe, hhie, hall, hin⟩ := hs2 n
  rw [hin]
  simp only [Bool.and_eq_true, decide_eq_true_eq]
  have hmem : ∀ e ∈ ends P, ∃ p ∈ P, e = p.fr + p.ahd ∨ e = p.bef + p.ahd := fun e he => by
    obtain ⟨p, hp, h⟩ := List.mem_flatMap.1 he
    simp only [List.mem_cons, List.not_mem_nil, or_false] at h
    exact ⟨p, hp, h⟩
  have hfre : ∀ p ∈ P, p.fr + p.ahd ∈ ends P := fun p hp => List.mem_flatMap.2 ⟨p, hp, by simp⟩
  have hbee : ∀ p ∈ P, p.bef + p.ahd ∈ ends P := fun p hp => List.mem_flatMap.2 ⟨p, hp, by simp⟩
  have elo : lo = low := by
    have a1 := (hall _ (hfre p1 hp1)).1
    obtain ⟨p, hp, h⟩ := hmem lo hloe
    have a2 := hlo p hp
    have a3 := (hbef p hp).1
    rcases h with h | h <;> omega
  subst elo
  have htc : n ≤ high → times P n = (cnt L n : Int) := fun hn => by
    rw [hst]
    refine times_cnt fun p hp => ⟨fun hb => ?_, fun hb => ?_⟩
    · have := hpb p hp
      unfold openT
      omega
    · have := hpb p hp
      omega
  obtain ⟨k, hk⟩ : ∃ k, k + 1 = P.length := ⟨P.length - 1, by omega⟩
  have hgd : ∀ i (h : i < P.length), P.getD i default = P[i] := fun i h => by
    rw [List.getD_eq_getElem?_getD, List.getElem?_eq_getElem h]; rfl
  have hko : P[k].bef = openT := by
    have := (hop k (by omega)).2 hk
    rwa [hgd k (by omega)] at this
  have hkm : P[k] ∈ P := List.getElem_mem _
  constructor
  · rintro ⟨⟨h1, h2⟩, h3⟩
    by_cases hn : n ≤ high
    · rw [htc hn] at h3
      exact ⟨h1, by omega, h3⟩
    · exfalso
      have hone : times P n = 1 := by
        refine times_one (k := k) (by omega) fun i hiP => ?_
        have him : P[i] ∈ P := List.getElem_mem _
        have g := hhi _ him
        refine ⟨by omega, fun hlt => ?_, fun e => ?_⟩
        · by_cases hb : P[i].bef = openT
          · have := (hop i hiP).1 (by rw [hgd i hiP]; exact hb)
            omega
          · have := g.2 hb
            omega
        · subst e
          rw [hko]
          obtain ⟨p, hp, h⟩ := hmem hi hhie
          obtain ⟨j, hj, ej⟩ := List.getElem_of_mem hp
          have g2 := hhi p hp
          by_cases hb : p.bef = openT
          · have hjk := (hop j hj).1 (by rw [hgd j hj, ej]; exact hb)
            have hjk : j = i := by omega
            subst hjk
            rw [ej]
            rw [hb] at h
            rcases h with h | h <;> omega
          · have := g2.2 hb
            rcases h with h | h <;> omega
      rw [hone, hq1] at h3
      cases h3
  · rintro ⟨h1, h2, h3⟩
    refine ⟨⟨h1, ?_⟩, by rw [htc (by omega)]; exact h3⟩
    have := (hall _ (hbee _ hkm)).2
    have b := hpb _ hkm
    rw [hko] at this
    unfold openT at this
    omega
end Go.Proofs.Ytlcgliadpalgfaa.Vm
