/- Contracts: waits between two trains. -/
import Derived.Test.YtlcgliadpalgfaaRd
set_option linter.unusedSimpArgs false
set_option linter.unusedVariables false
namespace Go.Proofs.Ytlcgliadpalgfaa.Vm
open Go Go.Proofs Sp
set_option maxRecDepth 100000
set_option maxHeartbeats 1600000

def InT (t : Int) : Prop := 0 ≤ t ∧ t ≤ 1099511627776
theorem hour_inT : ∀ {l : List Pc} {r a : Int}, (∀ p ∈ l, p.bef ≤ 1099511627776) → InT a → InT (hour l r a)
  | [], r, a, _, _ => by unfold hour openT; exact ⟨by omega, by omega⟩
  | p :: l, r, a, hl, ha => by
    unfold hour
    have hp := hl p (List.mem_cons_self ..)
    split
    · rename_i h
      refine ⟨?_, by omega⟩
      have := ha.1
      omega
    · exact hour_inT (fun q hq => hl q (List.mem_cons_of_mem _ hq)) ha

def CallB (c : Sp.Call) : Prop := InT c.arrive ∧ InT c.depart
theorem callsGo_inT {zs : List Zone} (hz : ∀ z ∈ zs, checkZone z = 0) {day : Int} {many : Nat} : ∀ (S : List Stop) (i : Nat) (now : Int), InT now → (∀ s ∈ S, 0 ≤ s.zone ∧ s.zone < zs.length) → ∀ c ∈ callsGo zs day many i now S, CallB c
  | [], _, _, _, _, c, hc => by unfold callsGo at hc; cases hc
  | s :: r, i, now, hn, hs, c, hc => by
    have hzs := hs s (List.mem_cons_self ..)
    have hzm : zs.getD s.zone.toNat default ∈ zs := by rw [List.getD_eq_getElem?_getD, List.getElem?_eq_getElem (by omega)]; exact List.getElem_mem _
    have hp := fun p hp => ((pieces_bd (hz _ hzm)).2 p hp).2.2.2.1
    have hr := fun q hq => hs q (List.mem_cons_of_mem _ hq)
    have h0 : InT 0 := ⟨by omega, by omega⟩
    unfold callsGo at hc
    split at hc
    · have hd : InT (if i + 1 < many then hour (pieces (zs.getD s.zone.toNat default)) (1440 * day + s.depart) now else 0) := by
        split
        · exact hour_inT hp hn
        · exact h0
      rcases List.mem_cons.1 hc with rfl | hc
      · exact ⟨hd, hd⟩
      · exact callsGo_inT hz r _ _ hd hr c hc
    · have ha := hour_inT (r := 1440 * day + s.arrive) hp hn
      have hd : InT (if i + 1 < many then hour (pieces (zs.getD s.zone.toNat default)) (1440 * day + s.depart) (hour (pieces (zs.getD s.zone.toNat default)) (1440 * day + s.arrive) now) else hour (pieces (zs.getD s.zone.toNat default)) (1440 * day + s.arrive) now) := by
        split
        · exact hour_inT hp ha
        · exact ha
      rcases List.mem_cons.1 hc with rfl | hc
      · exact ⟨ha, hd⟩
      · exact callsGo_inT hz r _ _ hd hr c hc

def RideB (x : Sp.Ride) : Prop := InT x.depart ∧ InT x.arrive
theorem runsTo_mem {b : Book} {d : Nat} {x : Train × Int} (h : x ∈ runsTo b d) : ∃ k : Nat, k < d ∧ x.2 = k ∧ x.1 ∈ table b k ∧ starts x.1 k = true := by
  unfold runsTo at h
  rw [List.mem_flatMap] at h
  obtain ⟨k, hk, h⟩ := h
  rw [List.mem_map] at h
  obtain ⟨t, ht, rfl⟩ := h
  rw [List.mem_filter] at ht
  exact ⟨k, List.mem_range.1 hk, rfl, ht.1, ht.2⟩
theorem getD_all {α : Type} {P : α → Prop} {l : List α} {i : Nat} {d : α} (hl : ∀ x ∈ l, P x) (hd : P d) : P (l.getD i d) := by
  rw [List.getD_eq_getElem?_getD]
  by_cases h : i < l.length
  · rw [List.getElem?_eq_getElem h]; exact hl _ (List.getElem_mem _)
  · rw [List.getElem?_eq_none (by omega)]; exact hd
theorem rides_bd {b : Book} (hok : BookOk b) {g : Sp.Leg} {x : Sp.Ride} (hx : x ∈ rides b g) : RideB x := by
  unfold rides ridesL at hx
  rw [List.mem_filterMap] at hx
  obtain ⟨⟨t, d⟩, hm, hr⟩ := hx
  obtain ⟨k, _, e, ht, _⟩ := runsTo_mem hm
  dsimp only at e ht
  subst e
  have hc : ∀ c ∈ calls b.zones t k, CallB c := callsGo_inT hok.zones _ _ _ ⟨by omega, by omega⟩ (fun s hs => ((tabOk hok ht).stops s hs).zone)
  have h0 : CallB default := ⟨⟨by show (0 : Int) ≤ 0; omega, by show (0 : Int) ≤ 1099511627776; omega⟩, by show (0 : Int) ≤ 0; omega, by show (0 : Int) ≤ 1099511627776; omega⟩
  unfold rideOf at hr
  split at hr
  · cases hr
  split at hr
  · cases hr
  split at hr
  · cases hr
  simp only [Option.some.injEq] at hr
  subst hr
  exact ⟨(getD_all hc h0).2, (getD_all hc h0).1⟩

theorem leastGo_mem : ∀ (l : List Sp.Ride) (i : Nat) (best : Sp.Ride), leastGo i best l = best ∧ (0 < i ∨ l = []) ∨ leastGo i best l ∈ l
  | [], i, best => .inl ⟨rfl, .inr rfl⟩
  | x :: r, i, best => by
    unfold leastGo
    rcases leastGo_mem r (i + 1) (if i = 0 ∨ x.depart < best.depart then x else best) with ⟨h, _⟩ | h
    · rw [h]
      by_cases hc : i = 0 ∨ x.depart < best.depart
      · rw [if_pos hc]; exact .inr (List.mem_cons_self ..)
      · rw [if_neg hc]; exact .inl ⟨rfl, .inl (by omega)⟩
    · exact .inr (List.mem_cons_of_mem _ h)
theorem least_mem {l : List Sp.Ride} (h : 0 < l.length) : least l ∈ l := by
  rcases leastGo_mem l 0 ⟨0, 0, 0⟩ with ⟨_, h1 | h1⟩ | h1
  · omega
  · subst h1; simp at h
  · exact h1

theorem trip_bd {b : Book} (hok : BookOk b) : ∀ (l : List Sp.Leg) (a : Int) (out : List Sp.Ride), (∀ x ∈ out, RideB x) → (∀ x ∈ (trip b l a out).1, RideB x) ∧ ((trip b l a out).2 = true → (trip b l a out).1.length = out.length + l.length) ∧ (trip b l a out).1.length ≤ out.length + l.length
  | [], a, out, h => ⟨h, fun _ => rfl, Nat.le_refl _⟩
  | g :: r, a, out, h => by
    unfold trip
    split
    · exact ⟨h, (fun h => by cases h), by simp⟩
    · rename_i hne
      have hx : RideB (least (since a (rides b g))) := rides_bd hok (g := g) (List.mem_filter.1 (least_mem (l := since a (rides b g)) (Nat.pos_of_ne_zero hne))).1
      obtain ⟨h1, h2, h3⟩ := trip_bd hok r (least (since a (rides b g))).arrive (out ++ [least (since a (rides b g))]) (fun x hm => by
        rcases List.mem_append.1 hm with hm | hm
        · exact h x hm
        · simp at hm; rw [hm]; exact hx)
      refine ⟨h1, fun h => ?_, ?_⟩
      · rw [h2 h]; simp; omega
      · simp at h3 ⊢; omega

/-- One more ride of the first leg. -/
def waitStep (b : Book) (l : List Sp.Leg) (o : Sp.Span × Bool) (x : Sp.Ride) : Sp.Span × Bool :=
  if (trip b (l.drop 1) x.arrive []).2 = false then o
  else
    let n := ((trip b (l.drop 1) x.arrive []).1.getD 0 default).depart - x.arrive
    let p := if o.2 = false then ⟨n, n⟩ else o.1
    (⟨if n < p.fr then n else p.fr, if p.to_ < n then n else p.to_⟩, true)
def waitAll (b : Book) (l : List Sp.Leg) : Sp.Span × Bool := (rides b (l.getD 0 default)).foldl (waitStep b l) (⟨0, 0⟩, false)
def Waits (b : Book) (l : List Sp.Leg) : Sp.Span × Int := if checkLegs b l ≠ 0 then (⟨0, 0⟩, checkLegs b l) else if counted l.length 2 2 ≠ 0 then (⟨0, 0⟩, counted l.length 2 2) else if (waitAll b l).2 = false then (⟨0, 0⟩, 11) else ((waitAll b l).1, 0)

theorem c50 (b : Book) (hb : BookFit b) (l : List Sp.Leg) (hl : l.length ≤ 1000) : SC (fun _ => Try.prog) 50 [bookA b, lst 3 encLeg default l] [] fun v h => v = .tup [.agg (encSpan (Waits b l).1), .int .i64 fun _ => (Waits b l).2] ∧ h = [] := by
  obtain ⟨nt, hnt⟩ := nth_ex
  refine SC.less (conX false true [] Try.func50 (body := bodyOf Try.f50) rfl (by decide +kernel) ?_)
  have k66 := c66 b hb l hl
  have k78 := c78 (l.length : Int) 2 2
  have hok := checkLegs_ok (b := b) (l := l)
  have hco := counted_ok (n := l.length) (a := 2) (b := 2)
  have k68 := fun h a => c68 b hb h (l.drop 1) a (by rw [List.length_drop]; omega)
  have k68b := fun h a => trip_bd (b := b) h (l.drop 1) a [] (fun x hx => by cases hx)
  have k93 := fun h => c93f b (l.getD 0 default) hb h
  have k93l := fun h => rides_len (b := b) h (l.getD 0 default)
  have k93b := fun h x (hx : x ∈ rides b (l.getD 0 default)) => rides_bd h hx
  unfold Waits waitAll
  have e0 : l.getD 0 default = nt Sp.Leg default l 0 := by rw [hnt]; rfl
  simp only [e0] at k93 k93l k93b ⊢
  generalize checkLegs b l = C at *
  generalize counted l.length 2 2 = D at *
  generalize rides b (nt Sp.Leg default l 0) = R at *
  generalize hF : R.foldl (waitStep b l) (⟨0, 0⟩, false) = F at *
  unfold bookA legA at *
  simp only [lst_nt hnt, lstR_nt hnt] at *
  (cbv; (try simp only [nc] at *); (try refine Chk.mk (by (try simp only [nc, allc0, allc1, allcE, allcI, Cn.p, and_true, true_and, decide_eq_true_eq, imp_self, List.length_cons, List.length_nil]); all_goals ((repeat' (first | apply And.intro | intro _)) <;> first | omega | rfl | exact Or.inl rfl | assumption | exact nb1 (by assumption) | exact nb2 (by assumption) | exact nb3 (by assumption) | exact nb4 (by assumption) | decide | decide +kernel | (simp [*]; done))) ?_))
  refine call0 (k66) (by first | rfl | (simp only [zoneA, bookA, lst_nt hnt]; rfl)) fun r h₂ hp => ?_
  (try simp only [zoneA, bookA, lst_nt hnt] at hp)
  obtain ⟨rfl, rfl⟩ := hp
  (cbv; (try simp only [nc] at *); (try refine Chk.mk (by (try simp only [nc, allc0, allc1, allcE, allcI, Cn.p, and_true, true_and, decide_eq_true_eq, imp_self, List.length_cons, List.length_nil]); all_goals ((repeat' (first | apply And.intro | intro _)) <;> first | omega | rfl | exact Or.inl rfl | assumption | exact nb1 (by assumption) | exact nb2 (by assumption) | exact nb3 (by assumption) | exact nb4 (by assumption) | decide | decide +kernel | (simp [*]; done))) ?_))
  refine ⟨fun h1 => ?_, fun h1 => ?_⟩
  · have h1' : C ≠ 0 := by simpa using h1
    rw [if_pos h1']
    (cbv; (try simp only [nc] at *); (try refine Chk.mk (by (try simp only [nc, allc0, allc1, allcE, allcI, Cn.p, and_true, true_and, decide_eq_true_eq, imp_self, List.length_cons, List.length_nil]); all_goals ((repeat' (first | apply And.intro | intro _)) <;> first | omega | rfl | exact Or.inl rfl | assumption | exact nb1 (by assumption) | exact nb2 (by assumption) | exact nb3 (by assumption) | exact nb4 (by assumption) | decide | decide +kernel | (simp [*]; done))) ?_))
    refine ⟨_, [], ?_, rfl, rfl⟩
    (refine To.of [] ?_; cbv; (try simp only [nc]); (repeat' (first | exact trivial | exact WkN.refl _ | exact WkB.refl _ | refine ⟨?_, ?_⟩ | refine WkB.cells ?_ | refine WkN.agg ?_ | refine WkN.tup ?_)); (all_goals (first | exact .int rfl | exact .int (by first | omega | (simp only [nc]; omega) | (simp; done)) | exact .bool rfl | exact .snoc hnt rfl rfl rfl | exact .snoc hnt rfl rfl (by simp only [encZone, encTrain, lst_nt hnt]; rfl) | exact lit_nt hnt _ _ _ _ rfl | exact take_nt hnt (by omega) | exact lstR_wk hnt | exact .tok rfl | exact .tok (by simp) | exact .lst hnt rfl | exact .gsl (by simp) | exact .empty rfl | exact .nilOwn (by decide) (by decide) rfl | exact .nilGar (by decide) (by decide) rfl | exact .gd (by first | assumption | decide | (simp [*]; done)) (.refl _) | skip)))
  have h1' : ¬ C ≠ 0 := by simpa using h1
  have hok := hok (Decidable.of_not_not h1')
  have k93 := k93 hok.1
  have k93l := k93l hok.1
  have k93b := k93b hok.1
  have k68 := k68 hok.1
  have k68b := k68b hok.1
  rw [if_neg h1']
  (cbv; (try simp only [nc] at *); (try refine Chk.mk (by (try simp only [nc, allc0, allc1, allcE, allcI, Cn.p, and_true, true_and, decide_eq_true_eq, imp_self, List.length_cons, List.length_nil]); all_goals ((repeat' (first | apply And.intro | intro _)) <;> first | omega | rfl | exact Or.inl rfl | assumption | exact nb1 (by assumption) | exact nb2 (by assumption) | exact nb3 (by assumption) | exact nb4 (by assumption) | decide | decide +kernel | (simp [*]; done))) ?_))
  refine call0 (k78) (by first | rfl | (simp only [zoneA, bookA, lst_nt hnt]; rfl)) fun r h₂ hp => ?_
  (try simp only [zoneA, bookA, lst_nt hnt] at hp)
  obtain ⟨rfl, rfl⟩ := hp
  (cbv; (try simp only [nc] at *); (try refine Chk.mk (by (try simp only [nc, allc0, allc1, allcE, allcI, Cn.p, and_true, true_and, decide_eq_true_eq, imp_self, List.length_cons, List.length_nil]); all_goals ((repeat' (first | apply And.intro | intro _)) <;> first | omega | rfl | exact Or.inl rfl | assumption | exact nb1 (by assumption) | exact nb2 (by assumption) | exact nb3 (by assumption) | exact nb4 (by assumption) | decide | decide +kernel | (simp [*]; done))) ?_))
  refine ⟨fun h2 => ?_, fun h2 => ?_⟩
  · have h2' : D ≠ 0 := by simpa using h2
    rw [if_pos h2']
    (cbv; (try simp only [nc] at *); (try refine Chk.mk (by (try simp only [nc, allc0, allc1, allcE, allcI, Cn.p, and_true, true_and, decide_eq_true_eq, imp_self, List.length_cons, List.length_nil]); all_goals ((repeat' (first | apply And.intro | intro _)) <;> first | omega | rfl | exact Or.inl rfl | assumption | exact nb1 (by assumption) | exact nb2 (by assumption) | exact nb3 (by assumption) | exact nb4 (by assumption) | decide | decide +kernel | (simp [*]; done))) ?_))
    refine ⟨_, [], ?_, rfl, rfl⟩
    (refine To.of [] ?_; cbv; (try simp only [nc]); (repeat' (first | exact trivial | exact WkN.refl _ | exact WkB.refl _ | refine ⟨?_, ?_⟩ | refine WkB.cells ?_ | refine WkN.agg ?_ | refine WkN.tup ?_)); (all_goals (first | exact .int rfl | exact .int (by first | omega | (simp only [nc]; omega) | (simp; done)) | exact .bool rfl | exact .snoc hnt rfl rfl rfl | exact .snoc hnt rfl rfl (by simp only [encZone, encTrain, lst_nt hnt]; rfl) | exact lit_nt hnt _ _ _ _ rfl | exact take_nt hnt (by omega) | exact lstR_wk hnt | exact .tok rfl | exact .tok (by simp) | exact .lst hnt rfl | exact .gsl (by simp) | exact .empty rfl | exact .nilOwn (by decide) (by decide) rfl | exact .nilGar (by decide) (by decide) rfl | exact .gd (by first | assumption | decide | (simp [*]; done)) (.refl _) | skip)))
  have h2' : ¬ D ≠ 0 := by simpa using h2
  have hco := hco (Decidable.of_not_not h2')
  rw [if_neg h2']
  (cbv; (try simp only [nc] at *); (try refine Chk.mk (by (try simp only [nc, allc0, allc1, allcE, allcI, Cn.p, and_true, true_and, decide_eq_true_eq, imp_self, List.length_cons, List.length_nil]); all_goals ((repeat' (first | apply And.intro | intro _)) <;> first | omega | rfl | exact Or.inl rfl | assumption | exact nb1 (by assumption) | exact nb2 (by assumption) | exact nb3 (by assumption) | exact nb4 (by assumption) | decide | decide +kernel | (simp [*]; done))) ?_))
  refine call0 (k93) (by first | rfl | (simp only [zoneA, bookA, lst_nt hnt]; rfl)) fun r h₂ hp => ?_
  (try simp only [zoneA, bookA, lst_nt hnt] at hp)
  obtain ⟨rfl, rfl⟩ := hp
  (cbv; (try simp only [nc] at *); (try refine Chk.mk (by (try simp only [nc, allc0, allc1, allcE, allcI, Cn.p, and_true, true_and, decide_eq_true_eq, imp_self, List.length_cons, List.length_nil]); all_goals ((repeat' (first | apply And.intro | intro _)) <;> first | omega | rfl | exact Or.inl rfl | assumption | exact nb1 (by assumption) | exact nb2 (by assumption) | exact nb3 (by assumption) | exact nb4 (by assumption) | decide | decide +kernel | (simp [*]; done))) ?_))
  refine loopS false true [] [1, 2, 4, 8, 9, 33, 34, 35] [] (fun (⟨i, o, s⟩ : Nat × Sp.Span × Bool) => [(9, .bool fun _ => s), (35, .int .i64 fun _ => i)])
    (fun ⟨i, o, s⟩ => [(2, .cells (encSpan o))]) (fun ⟨i, o, s⟩ => i ≤ R.length ∧ ((-1099511627776 ≤ o.fr ∧ o.fr ≤ 1099511627776) ∧ -1099511627776 ≤ o.to_ ∧ o.to_ ≤ 1099511627776) ∧ (R.drop i).foldl (waitStep b l) (o, s) = F) (fun i => R.length - i.1 + 0) (0, ⟨0, 0⟩, false) ⟨Nat.zero_le _, by simp, by simpa using hF⟩ ?_ ?_
  · (refine To.of [] ?_; cbv; (try simp only [nc]); (repeat' (first | exact trivial | exact WkN.refl _ | exact WkB.refl _ | refine ⟨?_, ?_⟩ | refine WkB.cells ?_ | refine WkN.agg ?_ | refine WkN.tup ?_)); (all_goals (first | exact .int rfl | exact .int (by first | omega | (simp only [nc]; omega) | (simp; done)) | exact .bool rfl | exact .snoc hnt rfl rfl rfl | exact .snoc hnt rfl rfl (by simp only [encZone, encTrain, lst_nt hnt]; rfl) | exact lit_nt hnt _ _ _ _ rfl | exact take_nt hnt (by omega) | exact lstR_wk hnt | exact .tok rfl | exact .tok (by simp) | exact .lst hnt rfl | exact .gsl (by simp) | exact .empty rfl | exact .nilOwn (by decide) (by decide) rfl | exact .nilGar (by decide) (by decide) rfl | exact .gd (by first | assumption | decide | (simp [*]; done)) (.refl _) | skip)))
  rintro ⟨i, o, s⟩ ⟨hi, ho, hp⟩
  (cbv; (try simp only [nc] at *); (try refine Chk.mk (by (try simp only [nc, allc0, allc1, allcE, allcI, Cn.p, and_true, true_and, decide_eq_true_eq, imp_self, List.length_cons, List.length_nil]); all_goals ((repeat' (first | apply And.intro | intro _)) <;> first | omega | rfl | exact Or.inl rfl | assumption | exact nb1 (by assumption) | exact nb2 (by assumption) | exact nb3 (by assumption) | exact nb4 (by assumption) | decide | decide +kernel | (simp [*]; done))) ?_))
  refine ⟨fun hb => ?_, fun hb => ?_⟩
  · simp only [decide_eq_true_eq] at hb
    rw [nt_drop (d := default) hnt (l := R) (i := i) (by omega), List.foldl_cons] at hp
    have hxb := k93b _ (nt_mem (d := default) hnt (l := R) (i := i) (by omega))
    generalize hx : nt Sp.Ride default R (i : Int) = x at *
    have k68 := k68 x.arrive
    have k68b := k68b x.arrive
    unfold waitStep at hp
    generalize trip b (l.drop 1) x.arrive [] = T at k68 k68b hp
    (cbv; (try simp only [nc] at *); (try refine Chk.mk (by (try simp only [nc, allc0, allc1, allcE, allcI, Cn.p, and_true, true_and, decide_eq_true_eq, imp_self, List.length_cons, List.length_nil]); all_goals ((repeat' (first | apply And.intro | intro _)) <;> first | omega | rfl | exact Or.inl rfl | assumption | exact nb1 (by assumption) | exact nb2 (by assumption) | exact nb3 (by assumption) | exact nb4 (by assumption) | decide | decide +kernel | (simp [*]; done))) ?_))
    simp only [hx]
    refine call0T k68 (by (refine To.of [] ?_; cbv; (try simp only [nc]); (repeat' (first | exact trivial | exact WkN.refl _ | exact WkB.refl _ | refine ⟨?_, ?_⟩ | refine WkB.cells ?_ | refine WkN.agg ?_ | refine WkN.tup ?_)); (all_goals (first | exact .int rfl | exact .int (by first | omega | (simp only [nc]; omega) | (simp; done)) | exact .bool rfl | exact .snoc hnt rfl rfl rfl | exact .snoc hnt rfl rfl (by simp only [encZone, encTrain, lst_nt hnt]; rfl) | exact lit_nt hnt _ _ _ _ rfl | exact take_nt hnt (by omega) | exact lstR_wk hnt | exact .tok rfl | exact .tok (by simp) | exact .lst hnt rfl | exact .gsl (by simp) | exact .empty rfl | exact .nilOwn (by decide) (by decide) rfl | exact .nilGar (by decide) (by decide) rfl | exact .gd (by first | assumption | decide | (simp [*]; done)) (.refl _) | skip))); exact drop_nt hnt (by show (l.length : Int) - 1 = ((l.drop 1).length : Int); rw [List.length_drop]; omega) (fun j hj => rfl)) (by first | rfl | (simp only [bookA, lst_nt hnt]; rfl)) fun r h₂ hq => ?_
    obtain ⟨rfl, rfl⟩ := hq
    (cbv; (try simp only [nc] at *); (try refine Chk.mk (by (try simp only [nc, allc0, allc1, allcE, allcI, Cn.p, and_true, true_and, decide_eq_true_eq, imp_self, List.length_cons, List.length_nil]); all_goals ((repeat' (first | apply And.intro | intro _)) <;> first | omega | rfl | exact Or.inl rfl | assumption | exact nb1 (by assumption) | exact nb2 (by assumption) | exact nb3 (by assumption) | exact nb4 (by assumption) | decide | decide +kernel | (simp [*]; done))) ?_))
    refine ⟨fun h3 => ?_, fun h3 => ?_⟩
    · have h3' : T.2 = false := by simpa using h3
      simp only [h3', if_true] at hp
      (cbv; (try simp only [nc] at *); (try refine Chk.mk (by (try simp only [nc, allc0, allc1, allcE, allcI, Cn.p, and_true, true_and, decide_eq_true_eq, imp_self, List.length_cons, List.length_nil]); all_goals ((repeat' (first | apply And.intro | intro _)) <;> first | omega | rfl | exact Or.inl rfl | assumption | exact nb1 (by assumption) | exact nb2 (by assumption) | exact nb3 (by assumption) | exact nb4 (by assumption) | decide | decide +kernel | (simp [*]; done))) ?_))
      refine ⟨(i + 1, o, s), ⟨by show i + 1 ≤ R.length; omega, ho, hp⟩, by show R.length - (i + 1) + 0 < R.length - i + 0; omega, ?_⟩
      (refine To.of [] ?_; cbv; (try simp only [nc]); (repeat' (first | exact trivial | exact WkN.refl _ | exact WkB.refl _ | refine ⟨?_, ?_⟩ | refine WkB.cells ?_ | refine WkN.agg ?_ | refine WkN.tup ?_)); (all_goals (first | exact .int rfl | exact .int (by first | omega | (simp only [nc]; omega) | (simp; done)) | exact .bool rfl | exact .snoc hnt rfl rfl rfl | exact .snoc hnt rfl rfl (by simp only [encZone, encTrain, lst_nt hnt]; rfl) | exact lit_nt hnt _ _ _ _ rfl | exact take_nt hnt (by omega) | exact lstR_wk hnt | exact .tok rfl | exact .tok (by simp) | exact .lst hnt rfl | exact .gsl (by simp) | exact .empty rfl | exact .nilOwn (by decide) (by decide) rfl | exact .nilGar (by decide) (by decide) rfl | exact .gd (by first | assumption | decide | (simp [*]; done)) (.refl _) | skip)))
    · have h3' : T.2 = true := by simpa using h3
      have hTl := k68b.2.1 h3'
      have hTl : 0 < T.1.length := by rw [hTl, List.length_drop]; simp; omega
      have hTb := k68b.1 _ (nt_mem (d := default) hnt (l := T.1) (i := 0) hTl)
      have e2 : T.1.getD 0 default = nt Sp.Ride default T.1 0 := by rw [hnt]; rfl
      simp only [h3', Bool.true_eq_false, if_false, e2] at hp
      change RideB (nt Sp.Ride default T.1 0) at hTb
      (cbv; try simp only [nc] at *)
      obtain ⟨y, hy⟩ : ∃ y, nt Sp.Ride default T.1 0 = y := ⟨_, rfl⟩
      simp only [hy] at hp hTb ⊢
      unfold RideB InT at hTb hxb
      refine Chk.mk (by (try simp only [nc, allc0, allc1, allcE, allcI, Cn.p, and_true, true_and, decide_eq_true_eq, imp_self, List.length_cons, List.length_nil]); all_goals ((repeat' (first | apply And.intro | intro _)) <;> first | omega | rfl | exact Or.inl rfl | assumption | exact nb1 (by assumption) | exact nb2 (by assumption) | exact nb3 (by assumption) | exact nb4 (by assumption) | decide | decide +kernel | (simp [*]; done))) ?_
      cases s with
      | false =>
        refine Br.isT rfl ?_
        simp only [if_true] at hp
        (cbv; (try simp only [nc] at *); (try refine Chk.mk (by (try simp only [nc, allc0, allc1, allcE, allcI, Cn.p, and_true, true_and, decide_eq_true_eq, imp_self, List.length_cons, List.length_nil]); all_goals ((repeat' (first | apply And.intro | intro _)) <;> first | omega | rfl | exact Or.inl rfl | assumption | exact nb1 (by assumption) | exact nb2 (by assumption) | exact nb3 (by assumption) | exact nb4 (by assumption) | decide | decide +kernel | (simp [*]; done))) ?_))
        refine ⟨(i + 1, _, true), ⟨by show i + 1 ≤ R.length; omega, ?_, hp⟩, by show R.length - (i + 1) + 0 < R.length - i + 0; omega, ?_⟩
        · simp only [if_neg (Int.lt_irrefl _)]
          omega
        · simp only [if_neg (Int.lt_irrefl _)]
          (refine To.of [] ?_; cbv; (try simp only [nc]); (repeat' (first | exact trivial | exact WkN.refl _ | exact WkB.refl _ | refine ⟨?_, ?_⟩ | refine WkB.cells ?_ | refine WkN.agg ?_ | refine WkN.tup ?_)); (all_goals (first | exact .int rfl | exact .int (by first | omega | (simp only [nc]; omega) | (simp; done)) | exact .bool rfl | exact .snoc hnt rfl rfl rfl | exact .snoc hnt rfl rfl (by simp only [encZone, encTrain, lst_nt hnt]; rfl) | exact lit_nt hnt _ _ _ _ rfl | exact take_nt hnt (by omega) | exact lstR_wk hnt | exact .tok rfl | exact .tok (by simp) | exact .lst hnt rfl | exact .gsl (by simp) | exact .empty rfl | exact .nilOwn (by decide) (by decide) rfl | exact .nilGar (by decide) (by decide) rfl | exact .gd (by first | assumption | decide | (simp [*]; done)) (.refl _) | skip)))
      | true =>
        refine Br.isF rfl ?_
        simp only [Bool.true_eq_false, if_false] at hp
        have hu : -1099511627776 ≤ (if y.depart - x.arrive < o.fr then y.depart - x.arrive else o.fr) ∧ (if y.depart - x.arrive < o.fr then y.depart - x.arrive else o.fr) ≤ 1099511627776 := by split <;> omega
        have hv : -1099511627776 ≤ (if o.to_ < y.depart - x.arrive then y.depart - x.arrive else o.to_) ∧ (if o.to_ < y.depart - x.arrive then y.depart - x.arrive else o.to_) ≤ 1099511627776 := by split <;> omega
        (cbv; try simp only [nc] at *)
        refine Chk.mk (by (try simp only [nc, allc0, allc1, allcE, allcI, Cn.p, and_true, true_and, decide_eq_true_eq, imp_self, List.length_cons, List.length_nil]); all_goals ((repeat' (first | apply And.intro | intro _)) <;> first | omega | rfl | exact Or.inl rfl | assumption | exact nb1 (by assumption) | exact nb2 (by assumption) | exact nb3 (by assumption) | exact nb4 (by assumption) | decide | decide +kernel | (simp [*]; done))) ?_
        generalize (if y.depart - x.arrive < o.fr then y.depart - x.arrive else o.fr) = u at *
        generalize (if o.to_ < y.depart - x.arrive then y.depart - x.arrive else o.to_) = v at *
        refine ⟨(i + 1, ⟨u, v⟩, true), ⟨by show i + 1 ≤ R.length; omega, ⟨hu, hv⟩, hp⟩, by show R.length - (i + 1) + 0 < R.length - i + 0; omega, ?_⟩
        (refine To.of [] ?_; cbv; (try simp only [nc]); (repeat' (first | exact trivial | exact WkN.refl _ | exact WkB.refl _ | refine ⟨?_, ?_⟩ | refine WkB.cells ?_ | refine WkN.agg ?_ | refine WkN.tup ?_)); (all_goals (first | exact .int rfl | exact .int (by first | omega | (simp only [nc]; omega) | (simp; done)) | exact .bool rfl | exact .snoc hnt rfl rfl rfl | exact .snoc hnt rfl rfl (by simp only [encZone, encTrain, lst_nt hnt]; rfl) | exact lit_nt hnt _ _ _ _ rfl | exact take_nt hnt (by omega) | exact lstR_wk hnt | exact .tok rfl | exact .tok (by simp) | exact .lst hnt rfl | exact .gsl (by simp) | exact .empty rfl | exact .nilOwn (by decide) (by decide) rfl | exact .nilGar (by decide) (by decide) rfl | exact .gd (by first | assumption | decide | (simp [*]; done)) (.refl _) | skip)))
  · simp only [decide_eq_false_iff_not] at hb
    have hir : R.length ≤ i := by omega
    have hp : (R.drop i).foldl (waitStep b l) (o, s) = F := hp
    rw [List.drop_eq_nil_of_le hir, List.foldl_nil] at hp
    rw [← hp]
    (cbv; (try simp only [nc] at *); (try refine Chk.mk (by (try simp only [nc, allc0, allc1, allcE, allcI, Cn.p, and_true, true_and, decide_eq_true_eq, imp_self, List.length_cons, List.length_nil]); all_goals ((repeat' (first | apply And.intro | intro _)) <;> first | omega | rfl | exact Or.inl rfl | assumption | exact nb1 (by assumption) | exact nb2 (by assumption) | exact nb3 (by assumption) | exact nb4 (by assumption) | decide | decide +kernel | (simp [*]; done))) ?_))
    refine ⟨fun h3 => ?_, fun h3 => ?_⟩
    · have h3' : s = false := by simpa using h3
      rw [if_pos h3']
      (cbv; (try simp only [nc] at *); (try refine Chk.mk (by (try simp only [nc, allc0, allc1, allcE, allcI, Cn.p, and_true, true_and, decide_eq_true_eq, imp_self, List.length_cons, List.length_nil]); all_goals ((repeat' (first | apply And.intro | intro _)) <;> first | omega | rfl | exact Or.inl rfl | assumption | exact nb1 (by assumption) | exact nb2 (by assumption) | exact nb3 (by assumption) | exact nb4 (by assumption) | decide | decide +kernel | (simp [*]; done))) ?_))
      refine ⟨_, [], ?_, rfl, rfl⟩
      (refine To.of [] ?_; cbv; (try simp only [nc]); (repeat' (first | exact trivial | exact WkN.refl _ | exact WkB.refl _ | refine ⟨?_, ?_⟩ | refine WkB.cells ?_ | refine WkN.agg ?_ | refine WkN.tup ?_)); (all_goals (first | exact .int rfl | exact .int (by first | omega | (simp only [nc]; omega) | (simp; done)) | exact .bool rfl | exact .snoc hnt rfl rfl rfl | exact .snoc hnt rfl rfl (by simp only [encZone, encTrain, lst_nt hnt]; rfl) | exact lit_nt hnt _ _ _ _ rfl | exact take_nt hnt (by omega) | exact lstR_wk hnt | exact .tok rfl | exact .tok (by simp) | exact .lst hnt rfl | exact .gsl (by simp) | exact .empty rfl | exact .nilOwn (by decide) (by decide) rfl | exact .nilGar (by decide) (by decide) rfl | exact .gd (by first | assumption | decide | (simp [*]; done)) (.refl _) | skip)))
    · have h3' : ¬ s = false := by simpa using h3
      rw [if_neg h3']
      (cbv; (try simp only [nc] at *); (try refine Chk.mk (by (try simp only [nc, allc0, allc1, allcE, allcI, Cn.p, and_true, true_and, decide_eq_true_eq, imp_self, List.length_cons, List.length_nil]); all_goals ((repeat' (first | apply And.intro | intro _)) <;> first | omega | rfl | exact Or.inl rfl | assumption | exact nb1 (by assumption) | exact nb2 (by assumption) | exact nb3 (by assumption) | exact nb4 (by assumption) | decide | decide +kernel | (simp [*]; done))) ?_))
      refine ⟨_, [], ?_, rfl, rfl⟩
      (refine To.of [] ?_; cbv; (try simp only [nc]); (repeat' (first | exact trivial | exact WkN.refl _ | exact WkB.refl _ | refine ⟨?_, ?_⟩ | refine WkB.cells ?_ | refine WkN.agg ?_ | refine WkN.tup ?_)); (all_goals (first | exact .int rfl | exact .int (by first | omega | (simp only [nc]; omega) | (simp; done)) | exact .bool rfl | exact .snoc hnt rfl rfl rfl | exact .snoc hnt rfl rfl (by simp only [encZone, encTrain, lst_nt hnt]; rfl) | exact lit_nt hnt _ _ _ _ rfl | exact take_nt hnt (by omega) | exact lstR_wk hnt | exact .tok rfl | exact .tok (by simp) | exact .lst hnt rfl | exact .gsl (by simp) | exact .empty rfl | exact .nilOwn (by decide) (by decide) rfl | exact .nilGar (by decide) (by decide) rfl | exact .gd (by first | assumption | decide | (simp [*]; done)) (.refl _) | skip)))
end Go.Proofs.Ytlcgliadpalgfaa.Vm
