/- Plain: printed hours are kept. -/
import Derived.Test.YtlcgliadpalgfaaPb
set_option linter.unusedSimpArgs false
set_option linter.unusedVariables false
namespace Go.Proofs.Ytlcgliadpalgfaa.Vm
open Sp

/-- Whether an event that is due at a reading can be at an instant, if the one before was at another one. -/
structure KeptAt (z : Zone) (due before at_ : Int) : Prop where
  lo : before ≤ at_
  hi : 0 ≤ at_ ∧ at_ ≤ 24000
  r : due ≤ at_ + af z.base z.chs at_
  f : at_ = before ∨ at_ - 1 + af z.base z.chs (at_ - 1) < due

def KeptL (zs : List Zone) (day : Int) (many : Nat) : Nat → Int → List Stop → List Sp.Call → Prop
  | _, _, [], C => C = []
  | _, _, _ :: _, [] => False
  | i, now, s :: r, c :: C => c.station = s.station ∧ (i = 0 → c.arrive = c.depart) ∧ (0 < i → KeptAt (zs.getD s.zone.toNat default) (1440 * day + s.arrive) now c.arrive) ∧
      (i + 1 < many → KeptAt (zs.getD s.zone.toNat default) (1440 * day + s.depart) (if i = 0 then 0 else c.arrive) c.depart) ∧ (¬ i + 1 < many → c.depart = c.arrive) ∧ KeptL zs day many (i + 1) c.depart r C

theorem keptAt_hour {z : Zone} (hz : ZMade 2 z) {due before : Int} (hd : due ≤ 23100) (hb : 0 ≤ before ∧ before ≤ 24000) : KeptAt z due before (hour (pieces z) due before) := by
  have hv := made_valid hz (by omega)
  have haf := made_af hz (by omega)
  obtain ⟨g1, g2, g3⟩ := hour_eq hv (r := due) (after := before) (by omega) (by omega)
  have hle := hour_le hv haf (r := due) (after := before) (by omega) (by omega)
  refine ⟨g1, by omega, g2, ?_⟩
  by_cases h : hour (pieces z) due before = before
  · exact .inl h
  · exact .inr (g3 _ (by omega) (by omega))

theorem kept_calls {zs : List Zone} (hz : ∀ z ∈ zs, ZMade 2 z) {day : Int} (hd : 0 ≤ day ∧ day ≤ 13) {many : Nat} (hm : 2 ≤ many) : ∀ (S : List Stop) (i : Nat) (now : Int), (∀ s ∈ S, StopOk zs.length s) → i + S.length = many → (i = 0 → now = 0) → 0 ≤ now ∧ now ≤ 24000 → KeptL zs day many i now S (callsGo zs day many i now S)
  | [], i, now, _, _, _, _ => rfl
  | s :: r, i, now, hS, hi, h0, hn => by
    have hs := hS s (List.mem_cons_self ..)
    have hzm : ZMade 2 (zs.getD s.zone.toNat default) := hz _ (by
      have := hs.zone
      rw [List.getD_eq_getElem?_getD, List.getElem?_eq_getElem (by omega)]; exact List.getElem_mem _)
    have ha := hs.arrive
    have hdp := hs.depart
    have ih := fun now' hn' => kept_calls hz hd hm r (i + 1) now' (fun x hx => hS x (List.mem_cons_of_mem _ hx)) (by simp only [List.length_cons] at hi; omega) (fun h => by omega) hn'
    unfold callsGo
    by_cases hi0 : i = 0
    · have hnow := h0 hi0
      subst hi0 hnow
      rw [if_pos rfl]
      have hk := keptAt_hour hzm (due := 1440 * day + s.depart) (before := 0) (by omega) (by omega)
      simp only [KeptL]
      rw [if_pos (by omega)]
      exact ⟨trivial, fun _ => trivial, fun h => by omega, fun _ => by simpa using hk, fun h => by omega, ih _ hk.hi⟩
    · rw [if_neg hi0]
      have hka := keptAt_hour hzm (due := 1440 * day + s.arrive) (before := now) (by omega) hn
      simp only [KeptL]
      by_cases hl : i + 1 < many
      · rw [if_pos hl, if_neg hi0]
        have hkd := keptAt_hour hzm (due := 1440 * day + s.depart) (by omega) hka.hi
        exact ⟨trivial, fun h => absurd h hi0, fun _ => hka, fun _ => hkd, fun h => absurd hl h, ih _ hkd.hi⟩
      · rw [if_neg hl]
        exact ⟨trivial, fun h => absurd h hi0, fun _ => hka, fun h => absurd h hl, fun _ => rfl, ih _ hka.hi⟩
end Go.Proofs.Ytlcgliadpalgfaa.Vm
