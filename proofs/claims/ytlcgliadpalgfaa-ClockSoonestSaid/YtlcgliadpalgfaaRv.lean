/- Plain: the trip is the choice of what goes next. -/
import Derived.Test.YtlcgliadpalgfaaRu
import Derived.Test.YtlcgliadpalgfaaRg
set_option linter.unusedSimpArgs false
set_option linter.unusedVariables false
namespace Go.Proofs.Ytlcgliadpalgfaa.Vm
open Sp

theorem hour_ge : ∀ {l : List Pc} {r a : Int}, InT a → a ≤ hour l r a
  | [], r, a, ha => by unfold hour openT; exact ha.2
  | p :: l, r, a, ha => by
    unfold hour
    split
    · omega
    · exact hour_ge ha

/-- The calls of a run, one after the other. -/
theorem callsGo_asc {zs : List Zone} (hz : ∀ z ∈ zs, checkZone z = 0) {day : Int} {many : Nat} : ∀ (S : List Stop) (i : Nat) (now : Int), InT now → (∀ s ∈ S, 0 ≤ s.zone ∧ s.zone < zs.length) → (callsGo zs day many i now S).Pairwise (fun x y => x.depart ≤ y.arrive) ∧ (0 < i → ∀ c ∈ callsGo zs day many i now S, now ≤ c.arrive)
  | [], i, now, _, _ => by unfold callsGo; exact ⟨.nil, fun _ c hc => by cases hc⟩
  | s :: r, i, now, hn, hs => by
    have hzs := hs s (List.mem_cons_self ..)
    have hzm : zs.getD s.zone.toNat default ∈ zs := by rw [List.getD_eq_getElem?_getD, List.getElem?_eq_getElem (by omega)]; exact List.getElem_mem _
    have hp := fun p hp => ((pieces_bd (hz _ hzm)).2 p hp).2.2.2.1
    have hr := fun q hq => hs q (List.mem_cons_of_mem _ hq)
    have h0 : InT 0 := ⟨by omega, by omega⟩
    unfold callsGo
    split
    · rename_i hi
      have hd : InT (if i + 1 < many then hour (pieces (zs.getD s.zone.toNat default)) (1440 * day + s.depart) now else 0) := by
        split
        · exact hour_inT hp hn
        · exact h0
      obtain ⟨h1, h2⟩ := callsGo_asc hz r (i + 1) _ hd hr
      exact ⟨List.pairwise_cons.2 ⟨fun c hc => h2 (by omega) c hc, h1⟩, fun h => by omega⟩
    · have ha := hour_inT (r := 1440 * day + s.arrive) hp hn
      have hna : now ≤ hour (pieces (zs.getD s.zone.toNat default)) (1440 * day + s.arrive) now := hour_ge hn
      have hd : InT (if i + 1 < many then hour (pieces (zs.getD s.zone.toNat default)) (1440 * day + s.depart) (hour (pieces (zs.getD s.zone.toNat default)) (1440 * day + s.arrive) now) else hour (pieces (zs.getD s.zone.toNat default)) (1440 * day + s.arrive) now) := by
        split
        · exact hour_inT hp ha
        · exact ha
      have hnd : now ≤ (if i + 1 < many then hour (pieces (zs.getD s.zone.toNat default)) (1440 * day + s.depart) (hour (pieces (zs.getD s.zone.toNat default)) (1440 * day + s.arrive) now) else hour (pieces (zs.getD s.zone.toNat default)) (1440 * day + s.arrive) now) := by
        split
        · exact Int.le_trans hna (hour_ge ha)
        · exact hna
      obtain ⟨h1, h2⟩ := callsGo_asc hz r (i + 1) _ hd hr
      refine ⟨List.pairwise_cons.2 ⟨fun c hc => h2 (by omega) c hc, h1⟩, fun _ c hc => ?_⟩
      rcases List.mem_cons.1 hc with rfl | hc
      · exact hna
      · exact Int.le_trans hnd (h2 (by omega) c hc)

theorem rides_asc {b : Book} (hok : BookOk b) {g : Sp.Leg} {x : Sp.Ride} (hx : x ∈ rides b g) : 0 ≤ x.depart ∧ x.depart ≤ x.arrive := by
  refine ⟨(rides_bd hok hx).1.1, ?_⟩
  unfold rides ridesL at hx
  rw [List.mem_filterMap] at hx
  obtain ⟨⟨t, d⟩, hm, hr⟩ := hx
  obtain ⟨k, _, e, ht, _⟩ := runsTo_mem hm
  dsimp only at e ht
  subst e
  have hp := (callsGo_asc hok.zones (day := k) (many := t.stops.length) t.stops 0 0 ⟨by omega, by omega⟩ (fun s hs => ((tabOk hok ht).stops s hs).zone)).1
  change (calls b.zones t k).Pairwise _ at hp
  unfold rideOf at hr
  split at hr
  · cases hr
  split at hr
  · cases hr
  rename_i h1
  split at hr
  · cases hr
  rename_i h2
  simp only [Option.some.injEq] at hr
  subst hr
  dsimp only at h1 h2 ⊢
  have b0 := callAt_lt (C := calls b.zones t k) (st := g.from_) (k := 0) (by omega)
  have b1 := callAt_lt (C := calls b.zones t k) (st := g.to_) (k := (callAt (calls b.zones t k) g.from_ 0).toNat + 1) (by omega)
  generalize callAt (calls b.zones t k) g.to_ ((callAt (calls b.zones t k) g.from_ 0).toNat + 1) = M at *
  generalize callAt (calls b.zones t k) g.from_ 0 = F at *
  rw [List.pairwise_iff_getElem] at hp
  have := hp F.toNat M.toNat (by omega) (by omega) (by omega)
  rw [List.getD_eq_getElem?_getD, List.getElem?_eq_getElem (by omega), List.getD_eq_getElem?_getD, List.getElem?_eq_getElem (by omega)]
  exact this

/-- A choice of rides that can be taken one after the other. -/
def TripOk : List (List Sp.Ride) → Int → List Sp.Ride → Prop
  | [], _, t => t = []
  | R :: rest, a, t => ∃ x t', t = x :: t' ∧ x ∈ R ∧ a ≤ x.depart ∧ TripOk rest x.arrive t'
/-- When somebody comes. -/
def comes (a : Int) (t : List Sp.Ride) : Int := t.foldl (fun _ x => x.arrive) a

theorem trip_greedy (b : Book) : ∀ (L : List Sp.Leg) (a : Int) (out : List Sp.Ride),
    ((trip b L a out).2 = false ∧ greedy (L.map (rides b)) a = none) ∨ ∃ t, trip b L a out = (out ++ t, true) ∧ t.length = L.length ∧ TripOk (L.map (rides b)) a t ∧ greedy (L.map (rides b)) a = some (comes a t)
  | [], a, out => .inr ⟨[], by simp [trip], rfl, rfl, rfl⟩
  | g :: L, a, out => by
    unfold trip
    rw [List.map_cons]
    unfold greedy
    by_cases h : (since a (rides b g)).length = 0
    · rw [if_pos h, if_pos h]; exact .inl ⟨rfl, rfl⟩
    · rw [if_neg h, if_neg h]
      have hx := List.mem_filter.1 (least_mem (l := since a (rides b g)) (by omega))
      have hxa : a ≤ (least (since a (rides b g))).depart := by have := hx.2; simp at this; exact this
      generalize least (since a (rides b g)) = x at *
      rcases trip_greedy b L x.arrive (out ++ [x]) with ⟨h1, h2⟩ | ⟨t, h1, h2, h3, h4⟩
      · exact .inl ⟨h1, h2⟩
      · refine .inr ⟨x :: t, by rw [h1]; simp, by simp [h2], ⟨x, t, rfl, hx.1, hxa, h3⟩, h4⟩

theorem TripOk.drop : ∀ {all : List (List Sp.Ride)} {a : Int} {t : List Sp.Ride} (i : Nat), TripOk all a t → TripOk (all.drop i) (comes a (t.take i)) (t.drop i)
  | all, a, t, 0, h => by simpa [comes] using h
  | [], a, t, i + 1, h => by
    simp only [TripOk] at h
    subst h
    simp [TripOk]
  | R :: rest, a, t, i + 1, h => by
    obtain ⟨x, t', rfl, _, _, h4⟩ := h
    have := TripOk.drop i h4
    simpa [comes] using this
end Go.Proofs.Ytlcgliadpalgfaa.Vm
