/- The abstract machine: an array that may grow is frozen. -/
import Derived.Test.YtlcgliadpalgfaaCon
set_option linter.unusedSimpArgs false
set_option linter.unusedVariables false
namespace Go.Proofs.Ytlcgliadpalgfaa.Vm
set_option linter.unusedVariables false
open Go Go.Proofs

theorem To.freeze {s : List AV} {h : List Blk} {id sz : Nat} {n : Unit → Int} {f : (Unit → Int) → List AV} (hid : h[id]? = some (.gar sz n f)) : To s h s (h.set id (.fro sz n f)) := fun G R t H hs => by
  have hlt := (List.getElem?_eq_some_iff.1 hid).1
  let R' : RC := { R with ok := fun b o k => b < R.w.heap.size ∧ G b o k ∧ Avoid R (h.set id (.fro sz n f)) b o k }
  have hget : ∀ {j x}, (h.set id (.fro sz n f))[j]? = some x → (j = id ∧ x = .fro sz n f) ∨ (j ≠ id ∧ h[j]? = some x) := fun {j x} hx => by
    rw [List.getElem?_set] at hx
    split at hx
    · rename_i e
      simp only [Option.some.injEq] at hx
      exact .inl ⟨e.symm, hx.symm⟩
    · rename_i e
      exact .inr ⟨fun e' => e e'.symm, hx⟩
  have hok : ∀ b o k, R.ok b o k → R'.ok b o k := fun b o k hk => by
    obtain ⟨h1, h2, h3⟩ := (H.okd _ _ _).1 hk
    refine ⟨h1, h2, fun j x hx => ?_⟩
    rcases hget hx with ⟨rfl, rfl⟩ | ⟨hne, hx⟩
    · exact fun h => h
    · exact h3 j x hx
  have hle : R.le R' := ⟨Nat.le_refl _, fun _ _ => rfl, fun _ _ => ⟨Int.le_refl _, fun _ => rfl⟩, hok, fun _ _ _ _ _ _ => rfl⟩
  have hph : ∀ {j x b}, (h.set id (.fro sz n f))[j]? = some x → Phys R' j x b → j ≠ id ∧ h[j]? = some x ∧ Phys R j x b := fun {j x b} hx hp => by
    rcases hget hx with ⟨rfl, rfl⟩ | ⟨hne, hx⟩
    · exact hp.elim
    · exact ⟨hne, hx, (Phys.congr (R := R) rfl rfl).1 hp⟩
  refine ⟨R', rfl, ⟨?_, fun _ _ _ => Iff.rfl, fun j x hx => ?_, fun i j bi bj b hij hi hj hp hp' => ?_, H.cl, H.fresh, fun j x b hx hk hp o k => ?_⟩, ⟨rfl, rfl, rfl, Nat.le_refl _, Nat.le_refl _, fun _ _ => rfl, hok, fun _ _ _ _ _ _ => rfl, fun _ _ _ => rfl, fun j x b hx hp => ?_⟩, hle, hs.mono hle⟩
  · rw [List.length_set]; exact H.len
  · rcases hget hx with ⟨rfl, rfl⟩ | ⟨hne, hx⟩
    · obtain ⟨e1, e2⟩ := H.blk _ _ hid
      refine ⟨e1, ?_⟩
      rcases e2 with ⟨h0, h1⟩ | ⟨b, o, len, cap, arr, ty, a1, a2, a3, a4, a5, a6⟩
      · show PR R'.w R'.ok _ (R.hv _)
        rw [h1]
        exact .isl0 _ _ _ _ h0 (fun _ h => by cases h)
      · show PR R'.w R'.ok _ (R.hv _)
        rw [a3]
        have hmul : len * sz ≤ cap * sz := Nat.mul_le_mul_right _ a2
        have hb : Phys R j (.gar sz n f) b := ⟨_, _, _, a3, rfl⟩
        refine .isl _ _ _ _ b o len cap (fun i j => arr.getD (o + i * sz + j) undef) a1 a2 (.inl rfl) (fun h => by cases h) (fun i hi => (a6 i hi).1) (fun i j c hi hj => ?_) (fun i j c hi hj => ?_) ?_
        · have hjs : j < sz := by rw [← (a6 i hi).1]; exact (List.getElem?_eq_some_iff.1 hj).1
          have : (i + 1) * sz ≤ len * sz := Nat.mul_le_mul_right _ hi
          rw [Nat.succ_mul] at this
          exact cell_of_heap (w := R.w) a4 (by omega)
        · exact ((a6 i hi).2 j c hj).mono hok (fun _ _ _ _ _ _ => rfl)
        · refine ⟨H.phys_lt hid hb, H.tokG _ _ _ hid rfl hb _ _, fun i x hx => ?_⟩
          rcases hget hx with ⟨rfl, rfl⟩ | ⟨hne, hx⟩
          · exact fun h => h
          · exact avoid_of_not fun hp => H.dis _ _ _ _ b (fun e => hne e.symm) hid hx hb hp
    · exact (H.blk j x hx).mono hle rfl rfl rfl (fun _ _ => rfl)
  · obtain ⟨_, hx, hp⟩ := hph hi hp
    obtain ⟨_, hx', hp'⟩ := hph hj hp'
    exact H.dis i j bi bj b hij hx hx' hp hp'
  · obtain ⟨_, hx, hp⟩ := hph hx hp
    exact H.tokG j x b hx hk hp o k
  · obtain ⟨_, hx, hp⟩ := hph hx hp
    exact .inr ⟨x, hx, hp⟩

/-- The same, and slices of it are immutable ones. -/
theorem To.froze {s : List AV} {h : List Blk} {id sz : Nat} {n : Unit → Int} {f : (Unit → Int) → List AV} (hid : h[id]? = some (.gar sz n f)) : To s h (s.map (rsv (h.set id (.fro sz n f)))) (h.set id (.fro sz n f)) := fun G R t H hs => by
  obtain ⟨R', a1, a2, a3, a4, a5⟩ := To.freeze (s := s) hid G R t H hs
  have := SL.rsv a2 a5 { tb with rs := true }
  exact ⟨R', a1, a2, a3, a4, this⟩
end Go.Proofs.Ytlcgliadpalgfaa.Vm
