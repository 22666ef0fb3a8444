/- Contracts: runs. -/
import Derived.Test.YtlcgliadpalgfaaGb
set_option linter.unusedSimpArgs false
set_option linter.unusedVariables false
namespace Go.Proofs.Ytlcgliadpalgfaa.Vm
open Go Go.Proofs Sp
set_option maxRecDepth 100000
set_option maxHeartbeats 1600000

def encCall (c : Sp.Call) : List AV := [.int .i64 fun _ => c.station, .int .i64 fun _ => c.arrive, .int .i64 fun _ => c.depart]
def bookC (b : Book) : List AV := [lst 2 encZone default b.zones, lst 3 encTrain default b.old, lst 3 encTrain default b.new, .int .i64 fun _ => b.night, .int .i64 fun _ => b.last]
def runV (t : Train) (day : Int) (l : List Sp.Call) : AV := .agg (encTrain t ++ [.int .i64 fun _ => day, lst 3 encCall default l])

theorem c77 (b : Book) (t : Train) (day : Int) (hb' : ∀ z ∈ b.zones, checkZone z = 0) (ht : ∀ s ∈ t.stops, (0 ≤ s.zone ∧ s.zone < b.zones.length) ∧ (0 ≤ s.arrive ∧ s.arrive ≤ 10000) ∧ 0 ≤ s.depart ∧ s.depart ≤ 10000) (hlen : 2 ≤ t.stops.length ∧ t.stops.length ≤ 1000) (hd : 0 ≤ day ∧ day ≤ 100) :
    SC (fun _ => Try.prog) 77 [bookA b, .agg (encTrain t), .int .i64 fun _ => day] [] fun v h => v = runV t day (calls b.zones t day) ∧ h = [] := by
  obtain ⟨nt, hnt⟩ := nth_ex
  refine SC.less (con Try.func77 (body := bodyOf Try.f77) rfl (by decide +kernel) ?_)
  unfold bookA
  rw [show AV.agg (encTrain t) = .agg [.int .i64 fun _ => t.number, .int .i64 fun _ => t.days, .isl 4 (fun _ => (t.stops.length : Int)) (fun e => encStop (nt Stop default t.stops (e ()))) .none] by unfold encTrain; rw [lst_nt hnt]]
  (cbv; (try simp only [nc] at *); (try refine Chk.mk (by (try simp only [nc, allc0, allc1, allcE, allcI, Cn.p, and_true, true_and, decide_eq_true_eq, imp_self, List.length_cons, List.length_nil]); all_goals ((repeat' (first | apply And.intro | intro _)) <;> first | omega | rfl | exact Or.inl rfl | assumption | exact nb1 (by assumption) | exact nb2 (by assumption) | exact nb3 (by assumption) | exact nb4 (by assumption) | decide | decide +kernel | (simp [*]; done))) ?_))
  refine loopS false false [] [4, 5, 6, 10, 11, 17, 18, 19] [.tok 3 fun _ => 0] (fun (⟨i, now, o, out⟩ : Nat × Int × Option Zone × List Sp.Call) => [(11, .isl 3 (fun _ => (out.length : Int)) (fun e => encCall (nt Sp.Call default out (e ()))) (.own 7)), (19, .int .i64 fun _ => i)])
    (fun ⟨i, now, o, out⟩ => [(4, .cells [.int .i64 fun _ => now]), (5, .cells (ownC o)), (6, .cells [knA o]), (7, .tok 3 fun _ => (out.length : Int))])
    (fun ⟨i, now, o, out⟩ => (i ≤ t.stops.length ∧ out.length = i ∧ calls b.zones t day = out ++ callsGo b.zones day t.stops.length i now (t.stops.drop i)) ∧ (∀ z, o = some z → checkZone z = 0) ∧ (i = 0 ↔ o = none)) (fun i => t.stops.length - i.1 + 0) (0, 0, none, []) ⟨⟨Nat.zero_le _, rfl, rfl⟩, (fun z h => by cases h), by simp⟩ ?_ ?_
  · (refine To.of [(3,false)] ?_; cbv; (try simp only [nc]); (repeat' (first | exact trivial | exact WkN.refl _ | exact WkB.refl _ | refine ⟨?_, ?_⟩ | refine WkB.cells ?_ | refine WkN.agg ?_ | refine WkN.tup ?_)); (all_goals (first | exact .int rfl | exact .int (by first | omega | (simp only [nc]; omega) | (simp; done)) | exact .bool rfl | exact .snoc hnt rfl rfl rfl | exact .snoc hnt rfl rfl (by simp only [encZone, encTrain, lst_nt hnt]; rfl) | exact lit_nt hnt _ _ _ _ rfl | exact take_nt hnt (by omega) | exact lstR_wk hnt | exact .tok rfl | exact .tok (by simp) | exact .lst hnt rfl | exact .gsl (by simp) | exact .empty rfl | exact .nilOwn (by decide) (by decide) rfl | exact .nilGar (by decide) (by decide) rfl | exact .gd (by first | assumption | decide | (simp [*]; done)) (.refl _) | skip)))
  rintro ⟨i, now, o, out⟩ ⟨⟨hi, ho, hp⟩, hk, hio⟩
  have hgz : ∀ k : Nat, k < t.stops.length → checkZone (b.zones.getD (nt Stop default t.stops (k : Int)).zone.toNat default) = 0 := fun k hk => hb' _ (by
    have := ht _ (nt_mem (d := default) hnt (l := t.stops) (i := k) hk)
    rw [List.getD_eq_getElem?_getD, List.getElem?_eq_getElem (by omega)]; exact List.getElem_mem _)
  cases o with
  | none =>
    have hi0 := hio.2 rfl
    subst hi0
    unfold knA ownC
    (cbv; (try simp only [nc] at *); (try refine Chk.mk (by (try simp only [nc, allc0, allc1, allcE, allcI, Cn.p, and_true, true_and, decide_eq_true_eq, imp_self, List.length_cons, List.length_nil]); all_goals ((repeat' (first | apply And.intro | intro _)) <;> first | omega | rfl | exact Or.inl rfl | assumption | exact nb1 (by assumption) | exact nb2 (by assumption) | exact nb3 (by assumption) | exact nb4 (by assumption) | decide | decide +kernel | (simp [*]; done))) ?_))
    refine Br.isT (by simp; omega) ?_
    have hdr := nt_drop (d := default) hnt (l := t.stops) (i := 0) (by omega)
    have hs := ht _ (nt_mem (d := default) hnt (l := t.stops) (i := 0) (by omega))
    have hz := hgz 0 (by omega)
    rw [hdr, callsGo, if_pos rfl, if_pos (by omega)] at hp
    have k112 := c112 b (nt Stop default t.stops ((0 : Nat) : Int)).zone (nt Stop default t.stops ((0 : Nat) : Int)).depart day now none hb' (fun z h => by cases h) hs.1 hs.2.2 hd
    simp only [knA, ownC] at k112
    (cbv; (try simp only [nc] at *); (try refine Chk.mk (by (try simp only [nc, allc0, allc1, allcE, allcI, Cn.p, and_true, true_and, decide_eq_true_eq, imp_self, List.length_cons, List.length_nil]); all_goals ((repeat' (first | apply And.intro | intro _)) <;> first | omega | rfl | exact Or.inl rfl | assumption | exact nb1 (by assumption) | exact nb2 (by assumption) | exact nb3 (by assumption) | exact nb4 (by assumption) | decide | decide +kernel | (simp [*]; done))) ?_))
    refine Br.isF rfl ?_
    (cbv; (try simp only [nc] at *); (try refine Chk.mk (by (try simp only [nc, allc0, allc1, allcE, allcI, Cn.p, and_true, true_and, decide_eq_true_eq, imp_self, List.length_cons, List.length_nil]); all_goals ((repeat' (first | apply And.intro | intro _)) <;> first | omega | rfl | exact Or.inl rfl | assumption | exact nb1 (by assumption) | exact nb2 (by assumption) | exact nb3 (by assumption) | exact nb4 (by assumption) | decide | decide +kernel | (simp [*]; done))) ?_))
    refine Br.isT (by simp; omega) ?_
    (cbv; (try simp only [nc] at *); (try refine Chk.mk (by (try simp only [nc, allc0, allc1, allcE, allcI, Cn.p, and_true, true_and, decide_eq_true_eq, imp_self, List.length_cons, List.length_nil]); all_goals ((repeat' (first | apply And.intro | intro _)) <;> first | omega | rfl | exact Or.inl rfl | assumption | exact nb1 (by assumption) | exact nb2 (by assumption) | exact nb3 (by assumption) | exact nb4 (by assumption) | decide | decide +kernel | (simp [*]; done))) ?_))
    generalize nt Stop default t.stops ((0 : Nat) : Int) = s at *
    refine callL [0, 6, 5, 2, 4] (k112) (by decide) (by simp) (by first | rfl | (simp only [zoneA, bookA, lst_nt hnt]; rfl)) (by first | rfl | (simp only [zoneA, bookA, lst_nt hnt]; rfl)) fun r h₂ hp => ?_
    (try simp only [zoneA, bookA, lst_nt hnt] at hp)
    obtain ⟨rfl, rfl⟩ := hp
    try dsimp only at hp
    generalize b.zones.getD s.zone.toNat default = z at *
    generalize hL : pieces z = L at *
    generalize hour L (1440 * day + s.depart) now = d at *
    (cbv; (try simp only [nc] at *); (try refine Chk.mk (by (try simp only [nc, allc0, allc1, allcE, allcI, Cn.p, and_true, true_and, decide_eq_true_eq, imp_self, List.length_cons, List.length_nil]); all_goals ((repeat' (first | apply And.intro | intro _)) <;> first | omega | rfl | exact Or.inl rfl | assumption | exact nb1 (by assumption) | exact nb2 (by assumption) | exact nb3 (by assumption) | exact nb4 (by assumption) | decide | decide +kernel | (simp [*]; done))) ?_))
    refine Br.isT rfl ?_
    (cbv; (try simp only [nc] at *); (try refine Chk.mk (by (try simp only [nc, allc0, allc1, allcE, allcI, Cn.p, and_true, true_and, decide_eq_true_eq, imp_self, List.length_cons, List.length_nil]); all_goals ((repeat' (first | apply And.intro | intro _)) <;> first | omega | rfl | exact Or.inl rfl | assumption | exact nb1 (by assumption) | exact nb2 (by assumption) | exact nb3 (by assumption) | exact nb4 (by assumption) | decide | decide +kernel | (simp [*]; done))) ?_))
    refine ⟨(1, d, some z, out ++ [⟨s.station, d, d⟩]), ⟨⟨by omega, by simp only [List.length_append, List.length_cons, List.length_nil]; omega, by rw [hp]; simp⟩, fun z' h => by cases h; exact hz, by simp⟩, by show t.stops.length - 1 + 0 < t.stops.length - 0 + 0; omega, ?_⟩
    simp only [knA, ownC, hL]
    (refine To.of [] ?_; cbv; (try simp only [nc]); (repeat' (first | exact trivial | exact WkN.refl _ | exact WkB.refl _ | refine ⟨?_, ?_⟩ | refine WkB.cells ?_ | refine WkN.agg ?_ | refine WkN.tup ?_)); (all_goals (first | exact .int rfl | exact .int (by first | omega | (simp only [nc]; omega) | (simp; done)) | exact .bool rfl | exact .snoc hnt rfl rfl rfl | exact .snoc hnt rfl rfl (by simp only [encZone, encTrain, lst_nt hnt]; rfl) | exact lit_nt hnt _ _ _ _ rfl | exact take_nt hnt (by omega) | exact lstR_wk hnt | exact .tok rfl | exact .tok (by simp) | exact .lst hnt rfl | exact .gsl (by simp) | exact .empty rfl | exact .nilOwn (by decide) (by decide) rfl | exact .nilGar (by decide) (by decide) rfl | exact .gd (by first | assumption | decide | (simp [*]; done)) (.refl _) | skip)))
  | some z' =>
    have hi0 : 0 < i := Nat.pos_of_ne_zero fun h => by have := hio.1 h; cases this
    unfold knA ownC
    simp only
    generalize hL' : pieces z' = L' at *
    (cbv; (try simp only [nc] at *); (try refine Chk.mk (by (try simp only [nc, allc0, allc1, allcE, allcI, Cn.p, and_true, true_and, decide_eq_true_eq, imp_self, List.length_cons, List.length_nil]); all_goals ((repeat' (first | apply And.intro | intro _)) <;> first | omega | rfl | exact Or.inl rfl | assumption | exact nb1 (by assumption) | exact nb2 (by assumption) | exact nb3 (by assumption) | exact nb4 (by assumption) | decide | decide +kernel | (simp [*]; done))) ?_))
    refine ⟨fun hb => ?_, fun hb => ?_⟩
    · simp only [decide_eq_true_eq] at hb
      have hdr := nt_drop (d := default) hnt (l := t.stops) (i := i) (by omega)
      have hs := ht _ (nt_mem (d := default) hnt (l := t.stops) (i := i) (by omega))
      have hz := hgz i (by omega)
      rw [hdr, callsGo, if_neg (by omega)] at hp
      have k112 := c112 b (nt Stop default t.stops (i : Int)).zone (nt Stop default t.stops (i : Int)).arrive day now (some z') hb' hk hs.1 hs.2.1 hd
      simp only [knA, ownC, hL'] at k112
      (cbv; (try simp only [nc] at *); (try refine Chk.mk (by (try simp only [nc, allc0, allc1, allcE, allcI, Cn.p, and_true, true_and, decide_eq_true_eq, imp_self, List.length_cons, List.length_nil]); all_goals ((repeat' (first | apply And.intro | intro _)) <;> first | omega | rfl | exact Or.inl rfl | assumption | exact nb1 (by assumption) | exact nb2 (by assumption) | exact nb3 (by assumption) | exact nb4 (by assumption) | decide | decide +kernel | (simp [*]; done))) ?_))
      refine Br.isT (by simp; omega) ?_
      (cbv; (try simp only [nc] at *); (try refine Chk.mk (by (try simp only [nc, allc0, allc1, allcE, allcI, Cn.p, and_true, true_and, decide_eq_true_eq, imp_self, List.length_cons, List.length_nil]); all_goals ((repeat' (first | apply And.intro | intro _)) <;> first | omega | rfl | exact Or.inl rfl | assumption | exact nb1 (by assumption) | exact nb2 (by assumption) | exact nb3 (by assumption) | exact nb4 (by assumption) | decide | decide +kernel | (simp [*]; done))) ?_))
      generalize nt Stop default t.stops (i : Int) = s at *
      refine callL [0, 6, 5, 2, 4] (k112) (by decide) (by simp) (by first | rfl | (simp only [zoneA, bookA, lst_nt hnt]; rfl)) (by first | rfl | (simp only [zoneA, bookA, lst_nt hnt]; rfl)) fun r h₂ hp => ?_
      (try simp only [zoneA, bookA, lst_nt hnt] at hp)
      obtain ⟨rfl, rfl⟩ := hp
      have k112' := fun now => c112 b s.zone s.depart day now (some (b.zones.getD s.zone.toNat default)) hb' (fun z h => by cases h; exact hz) hs.1 hs.2.2 hd
      try dsimp only at hp
      simp only [knA, ownC] at k112'
      generalize b.zones.getD s.zone.toNat default = z at *
      generalize hL : pieces z = L at *
      generalize hour L (1440 * day + s.arrive) now = a at *
      (cbv; (try simp only [nc] at *); (try refine Chk.mk (by (try simp only [nc, allc0, allc1, allcE, allcI, Cn.p, and_true, true_and, decide_eq_true_eq, imp_self, List.length_cons, List.length_nil]); all_goals ((repeat' (first | apply And.intro | intro _)) <;> first | omega | rfl | exact Or.inl rfl | assumption | exact nb1 (by assumption) | exact nb2 (by assumption) | exact nb3 (by assumption) | exact nb4 (by assumption) | decide | decide +kernel | (simp [*]; done))) ?_))
      refine ⟨fun hb2 => ?_, fun hb2 => ?_⟩
      · simp only [decide_eq_true_eq] at hb2
        rw [if_pos (by omega)] at hp
        (cbv; (try simp only [nc] at *); (try refine Chk.mk (by (try simp only [nc, allc0, allc1, allcE, allcI, Cn.p, and_true, true_and, decide_eq_true_eq, imp_self, List.length_cons, List.length_nil]); all_goals ((repeat' (first | apply And.intro | intro _)) <;> first | omega | rfl | exact Or.inl rfl | assumption | exact nb1 (by assumption) | exact nb2 (by assumption) | exact nb3 (by assumption) | exact nb4 (by assumption) | decide | decide +kernel | (simp [*]; done))) ?_))
        refine callL [0, 6, 5, 2, 4] (k112' a) (by decide) (by simp) (by first | rfl | (simp only [zoneA, bookA, lst_nt hnt]; rfl)) (by first | rfl | (simp only [zoneA, bookA, lst_nt hnt]; rfl)) fun r h₂ hp => ?_
        (try simp only [zoneA, bookA, lst_nt hnt] at hp)
        obtain ⟨rfl, rfl⟩ := hp
        generalize hour L (1440 * day + s.depart) a = d at *
        (cbv; (try simp only [nc] at *); (try refine Chk.mk (by (try simp only [nc, allc0, allc1, allcE, allcI, Cn.p, and_true, true_and, decide_eq_true_eq, imp_self, List.length_cons, List.length_nil]); all_goals ((repeat' (first | apply And.intro | intro _)) <;> first | omega | rfl | exact Or.inl rfl | assumption | exact nb1 (by assumption) | exact nb2 (by assumption) | exact nb3 (by assumption) | exact nb4 (by assumption) | decide | decide +kernel | (simp [*]; done))) ?_))
        refine Br.isF (by simp; omega) ?_
        (cbv; (try simp only [nc] at *); (try refine Chk.mk (by (try simp only [nc, allc0, allc1, allcE, allcI, Cn.p, and_true, true_and, decide_eq_true_eq, imp_self, List.length_cons, List.length_nil]); all_goals ((repeat' (first | apply And.intro | intro _)) <;> first | omega | rfl | exact Or.inl rfl | assumption | exact nb1 (by assumption) | exact nb2 (by assumption) | exact nb3 (by assumption) | exact nb4 (by assumption) | decide | decide +kernel | (simp [*]; done))) ?_))
        refine ⟨(i + 1, d, some z, out ++ [⟨s.station, a, d⟩]), ⟨⟨by omega, by simp only [List.length_append, List.length_cons, List.length_nil]; omega, by rw [hp]; simp⟩, fun z' h => by cases h; exact hz, by simp⟩, by show t.stops.length - (i + 1) + 0 < t.stops.length - i + 0; omega, ?_⟩
        simp only [knA, ownC, hL]
        (refine To.of [] ?_; cbv; (try simp only [nc]); (repeat' (first | exact trivial | exact WkN.refl _ | exact WkB.refl _ | refine ⟨?_, ?_⟩ | refine WkB.cells ?_ | refine WkN.agg ?_ | refine WkN.tup ?_)); (all_goals (first | exact .int rfl | exact .int (by first | omega | (simp only [nc]; omega) | (simp; done)) | exact .bool rfl | exact .snoc hnt rfl rfl rfl | exact .snoc hnt rfl rfl (by simp only [encZone, encTrain, lst_nt hnt]; rfl) | exact lit_nt hnt _ _ _ _ rfl | exact take_nt hnt (by omega) | exact lstR_wk hnt | exact .tok rfl | exact .tok (by simp) | exact .lst hnt rfl | exact .gsl (by simp) | exact .empty rfl | exact .nilOwn (by decide) (by decide) rfl | exact .nilGar (by decide) (by decide) rfl | exact .gd (by first | assumption | decide | (simp [*]; done)) (.refl _) | skip)))
      · simp only [decide_eq_false_iff_not] at hb2
        rw [if_neg (by omega)] at hp
        (cbv; (try simp only [nc] at *); (try refine Chk.mk (by (try simp only [nc, allc0, allc1, allcE, allcI, Cn.p, and_true, true_and, decide_eq_true_eq, imp_self, List.length_cons, List.length_nil]); all_goals ((repeat' (first | apply And.intro | intro _)) <;> first | omega | rfl | exact Or.inl rfl | assumption | exact nb1 (by assumption) | exact nb2 (by assumption) | exact nb3 (by assumption) | exact nb4 (by assumption) | decide | decide +kernel | (simp [*]; done))) ?_))
        refine Br.isF (by simp; omega) ?_
        (cbv; (try simp only [nc] at *); (try refine Chk.mk (by (try simp only [nc, allc0, allc1, allcE, allcI, Cn.p, and_true, true_and, decide_eq_true_eq, imp_self, List.length_cons, List.length_nil]); all_goals ((repeat' (first | apply And.intro | intro _)) <;> first | omega | rfl | exact Or.inl rfl | assumption | exact nb1 (by assumption) | exact nb2 (by assumption) | exact nb3 (by assumption) | exact nb4 (by assumption) | decide | decide +kernel | (simp [*]; done))) ?_))
        refine ⟨(i + 1, a, some z, out ++ [⟨s.station, a, a⟩]), ⟨⟨by omega, by simp only [List.length_append, List.length_cons, List.length_nil]; omega, by rw [hp]; simp⟩, fun z' h => by cases h; exact hz, by simp⟩, by show t.stops.length - (i + 1) + 0 < t.stops.length - i + 0; omega, ?_⟩
        simp only [knA, ownC, hL]
        (refine To.of [] ?_; cbv; (try simp only [nc]); (repeat' (first | exact trivial | exact WkN.refl _ | exact WkB.refl _ | refine ⟨?_, ?_⟩ | refine WkB.cells ?_ | refine WkN.agg ?_ | refine WkN.tup ?_)); (all_goals (first | exact .int rfl | exact .int (by first | omega | (simp only [nc]; omega) | (simp; done)) | exact .bool rfl | exact .snoc hnt rfl rfl rfl | exact .snoc hnt rfl rfl (by simp only [encZone, encTrain, lst_nt hnt]; rfl) | exact lit_nt hnt _ _ _ _ rfl | exact take_nt hnt (by omega) | exact lstR_wk hnt | exact .tok rfl | exact .tok (by simp) | exact .lst hnt rfl | exact .gsl (by simp) | exact .empty rfl | exact .nilOwn (by decide) (by decide) rfl | exact .nilGar (by decide) (by decide) rfl | exact .gd (by first | assumption | decide | (simp [*]; done)) (.refl _) | skip)))
    · simp only [decide_eq_false_iff_not] at hb
      rw [List.drop_eq_nil_of_le (by omega), callsGo, List.append_nil] at hp
      rw [hp]
      (cbv; (try simp only [nc] at *); (try refine Chk.mk (by (try simp only [nc, allc0, allc1, allcE, allcI, Cn.p, and_true, true_and, decide_eq_true_eq, imp_self, List.length_cons, List.length_nil]); all_goals ((repeat' (first | apply And.intro | intro _)) <;> first | omega | rfl | exact Or.inl rfl | assumption | exact nb1 (by assumption) | exact nb2 (by assumption) | exact nb3 (by assumption) | exact nb4 (by assumption) | decide | decide +kernel | (simp [*]; done))) ?_))
      refine ⟨runV t day out, [], ?_, rfl, rfl⟩
      unfold runV encTrain
      simp only [lst_nt hnt]
      (refine To.of [] ?_; cbv; (try simp only [nc]); (repeat' (first | exact trivial | exact WkN.refl _ | exact WkB.refl _ | refine ⟨?_, ?_⟩ | refine WkB.cells ?_ | refine WkN.agg ?_ | refine WkN.tup ?_)); (all_goals (first | exact .int rfl | exact .int (by first | omega | (simp only [nc]; omega) | (simp; done)) | exact .bool rfl | exact .snoc hnt rfl rfl rfl | exact .snoc hnt rfl rfl (by simp only [encZone, encTrain, lst_nt hnt]; rfl) | exact lit_nt hnt _ _ _ _ rfl | exact take_nt hnt (by omega) | exact lstR_wk hnt | exact .tok rfl | exact .tok (by simp) | exact .lst hnt rfl | exact .gsl (by simp) | exact .empty rfl | exact .nilOwn (by decide) (by decide) rfl | exact .nilGar (by decide) (by decide) rfl | exact .gd (by first | assumption | decide | (simp [*]; done)) (.refl _) | skip)))
end Go.Proofs.Ytlcgliadpalgfaa.Vm
