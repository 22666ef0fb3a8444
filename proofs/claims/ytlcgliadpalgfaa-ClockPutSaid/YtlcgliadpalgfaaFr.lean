/- From a contract of the abstract machine to a law's statement. -/
import Derived.Test.YtlcgliadpalgfaaFb
import Derived.Test.YtlcgliadpalgfaaRows
import Derived.WalkKit
import Derived.ProofKit
import Derived.OpenShut
import Derived.ShutString
import Derived.ChangeOld
import Derived.Below
set_option linter.unusedSimpArgs false
set_option linter.unusedVariables false
namespace Go.Proofs.Ytlcgliadpalgfaa.Vm
open Go Go.Proofs
open Go.ChangeShapes Go.WideShapes Go.ChangeAt Go.RowKit

/-- The start: all memory may be read, none of it is written. -/
def R0 (w : World) : RC := ⟨w, 0, fun _ => ⟨0, 0⟩, fun _ => 0, fun _ => undef, fun b _ _ => b < w.heap.size⟩
theorem R0_hr (w : World) : HR (fun _ _ _ => True) (R0 w) [] :=
  ⟨rfl, fun b o n => ⟨fun h => ⟨h, trivial, fun id blk hi => by simp at hi⟩, fun h => h.1⟩, fun id blk hi => by simp at hi, fun i j bi bj b _ hi => by simp at hi, fun _ _ _ _ _ _ _ _ => trivial, fun _ _ _ _ => trivial, fun id blk b hi => by simp at hi⟩

/-- A slice's place. -/
theorem slice_place {P : Program} {W : World} {r : Reach} {base : Nat} {t e : TypeId} {a : Addr} {len cap : Nat} (ht : P.underlying t = some (.slice e)) (h : Cell.okWide P W r base t (.slice (some a) len cap)) : ∃ b o, a = ⟨b, o, none⟩ ∧ b < W.heap.size := by
  simp only [Cell.okWide, ht, Cell.ok] at h
  obtain ⟨_, _, _, hs, row, cells, hsh, _⟩ := h
  obtain ⟨b, o, spot⟩ := a
  simp only at hs hsh
  subst hs
  refine ⟨b, o, rfl, ?_⟩
  by_cases hb : b < W.heap.size
  · exact hb
  · exfalso
    rw [World.shape?, Array.getElem?_eq_none (by omega)] at hsh
    cases hsh

/-- Numbers that came in. -/
theorem ints_rel {w : World} {a : Option Addr} {len cap : Nat} {l : List Int} (h : (a = none ∧ len = 0 ∧ cap = 0 ∧ l = []) ∨ ∃ b o, a = some ⟨b, o, none⟩ ∧ b < w.heap.size ∧ len ≤ cap ∧ l.length = len ∧ ∀ i, i < len → w.cell? ⟨b, o + i, none⟩ = some (.int .i64 (l.getD i 0))) :
    VR (R0 w) (lst 1 encI 0 l) (.slice a len cap) := by
  rcases h with ⟨rfl, rfl, rfl, rfl⟩ | ⟨b, o, rfl, hb, hle, hlen, hc⟩
  · exact .pure _ _ (.isl0 _ _ _ _ rfl (fun id e => by cases e))
  · refine .pure _ _ (.isl _ _ _ _ b o len cap (fun i _ => .int .i64 (l.getD i 0)) (by show (l.length : Int) = len; omega) hle (.inl rfl) (fun e => by cases e) (fun i hi => rfl) (fun i j c hi hj => ?_) (fun i j c hi hj => ?_) hb)
    · have hj0 : j = 0 := by
        have := (List.getElem?_eq_some_iff.1 hj).1
        simp [lstR, encI] at this
        omega
      subst hj0
      show w.cell? ⟨b, o + i * 1 + 0, none⟩ = _
      rw [Nat.mul_one, Nat.add_zero]
      exact hc i hi
    · cases j with
      | zero =>
        simp only [lstR, encI, List.getElem?_cons_zero, Option.some.injEq] at hj
        subst hj
        exact .int .i64 _
      | succ j => simp [lstR, encI] at hj

theorem below_of {W : World} {R' : RC} {h' : List Blk} (hx : Ext (R0 W) [] R' h') : Below W.heap.size W R'.w :=
  ⟨hx.os, hx.tape, hx.output, hx.size, fun k hk => hx.frame k hk (fun id blk hi => by simp at hi)⟩

/-- A contract that returns true, as a walk. -/
theorem walk_of {f : FuncId} {xs : List AV} {vs : Array Value} {W : World} (hx : RowA (R0 W) xs vs) (H : SC (fun _ => Try.prog) f xs [] fun r _ => r = .bool fun _ => true) :
    Calls Try.prog f vs W fun e w' => e = .returned (.bool true) ∧ Below W.heap.size W w' := by
  refine (H.run (fun _ _ _ => True) (R0 W) vs (R0_hr W) hx).mono fun e w' ⟨v, R', r, h', he, hw, _, hext, _, hv, hp⟩ => ?_
  subst hp he hw
  exact ⟨by rw [hv.bool_inv], below_of hext⟩

theorem own : ownKnob Try.prog.godebug = none := by kernel_rfl
theorem laidOut : laidOutB Try.prog = true := by kernel_rfl
end Go.Proofs.Ytlcgliadpalgfaa.Vm
