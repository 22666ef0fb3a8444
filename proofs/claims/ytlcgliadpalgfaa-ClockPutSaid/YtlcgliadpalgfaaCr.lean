/- The abstract machine at this program, run at given values. -/
import Derived.Test.YtlcgliadpalgfaaFd
import Derived.Test.YtlcgliadpalgfaaM5
set_option linter.unusedSimpArgs false
set_option linter.unusedVariables false
namespace Go.Proofs.Ytlcgliadpalgfaa.Vm
open Go Go.Proofs Sp
set_option maxRecDepth 100000

theorem names_ok : Try.prog.funcs.toList.all (fun fn => !(fn.name == "runtime.NumGoroutine")) = true := by decide +kernel

/-- The numbers of rows of one number. -/
def decI (F : (Unit → Int) → List AV) : Nat → Nat → Option (List Int)
  | _, 0 => some []
  | i, k + 1 => (match F (fun _ => (i : Int)) with
    | [.int .i64 g] => (match decI F (i + 1) k with
      | some l => some (g () :: l)
      | none => none)
    | _ => none)

theorem decI_ok {F : (Unit → Int) → List AV} : ∀ {k i : Nat} {l : List Int}, decI F i k = some l → l.length = k ∧ ∀ j, j < k → F (fun _ => ((i + j : Nat) : Int)) = encI (l.getD j 0)
  | 0, i, l, h => by
    simp only [decI, Option.some.injEq] at h
    subst h
    exact ⟨rfl, fun j hj => by omega⟩
  | k + 1, i, l, h => by
    unfold decI at h
    split at h
    case h_2 => cases h
    rename_i g hg
    split at h
    case h_2 => cases h
    rename_i l' hl'
    simp only [Option.some.injEq] at h
    subst h
    obtain ⟨h1, h2⟩ := decI_ok hl'
    refine ⟨by simp [h1], fun j hj => ?_⟩
    cases j with
    | zero =>
      rw [Nat.add_zero, hg]
      show [AV.int .i64 g] = [AV.int .i64 fun _ => g ()]
      rfl
    | succ j =>
      have := h2 j (by omega)
      rw [show i + (j + 1) = i + 1 + j from by omega, this]
      rfl

/-- slices.Sort of an array that has grown. -/
def sortO (f : FuncId) (xs : List AV) (h : List Blk) : Option (AV × List Blk) := if eqN f 115 then (match xs with
    | [.gsl id n'] => (match h[id]? with
      | some (.gar 1 n F) => if n' () = n () ∧ 1 ≤ n () ∧ n () ≤ 12 then (match decI F 0 (n ()).toNat with
        | some l => some (.tup [], h.set id (.fro 1 (fun _ => (l.length : Int)) (lstR encI 0 (isort l))))
        | none => none) else none
      | _ => none)
    | _ => none) else none

theorem sortO_ok {f : FuncId} {xs : List AV} {h : List Blk} {r : AV} {h' : List Blk} (hO : sortO f xs h = some (r, h')) : SC (fun _ => Try.prog) f xs h fun r₂ h₂ => r₂ = r ∧ h₂ = h' := by
  unfold sortO at hO
  split at hO
  case isFalse => cases hO
  rename_i hf
  have hf := eqN_ok hf
  subst hf
  split at hO
  case h_2 => cases hO
  rename_i id n'
  split at hO
  case h_2 => cases hO
  rename_i n F hi
  split at hO
  case isFalse => cases hO
  rename_i hn
  obtain ⟨hn1, hn2, hn3⟩ := hn
  split at hO
  case h_2 => cases hO
  rename_i l hl
  simp only [Option.some.injEq, Prod.mk.injEq] at hO
  obtain ⟨rfl, rfl⟩ := hO
  obtain ⟨hl1, hl2⟩ := decI_ok hl
  have hlen : (l.length : Int) = n () := by omega
  have hlt : id < h.length := (List.getElem?_eq_some_iff.1 hi).1
  have H := c115 l n' (by omega) (by omega) (by omega)
  have hsel : sel false [id] h = [.gar 1 n F] := by simp [sel, selGo, hi, subB]
  refine SC.frame [id] (by simp) (by simpa using hlt) (Q := fun r h₂ => r = .tup [] ∧ h₂ = [.fro 1 (fun _ => (l.length : Int)) (lstR encI 0 (isort l))]) ?_ fun r h₂ hp => ?_
  · rw [hsel]
    have hx : [AV.gsl id n'].map (tell false [id] h 5) = [.gsl 0 n'] := by simp [tell, posGo, eqN]
    rw [hx]
    refine SC.to (xs₂ := [.gsl 0 n']) (h₂ := [.gar 1 (fun _ => (l.length : Int)) (lstR encI 0 l)]) (To.of [] ⟨⟨.refl _, trivial⟩, .gar hlen.symm (fun i hi' => ?_), trivial⟩) H
    have := hl2 i (by omega)
    rw [Nat.zero_add] at this
    rw [this]
    simp [lstR]
  · obtain ⟨rfl, rfl⟩ := hp
    exact ⟨rfl, by simp [back, backGo, phi, renB]⟩

theorem runs {O : FuncId → List AV → List Blk → Option (AV × List Blk)} (cfg : FuncId → Bool × Bool) (hO : ∀ f xs h r h', O f xs h = some (r, h') → SC (fun _ => Try.prog) f xs h fun r₂ h₂ => r₂ = r ∧ h₂ = h') (n : Nat) {f : FuncId} {xs : List AV} {h : List Blk} {q : AV → List Blk → Bool} {Post : AV → List Blk → Prop}
    (hr : callB ⟨fun f => Try.prog.funcs[f]?, fun f => tbF (cfg f).1 (cfg f).2, O⟩ n f xs h q = true) (hq : ∀ r h, q r h = true → Post r h) : SC (fun _ => Try.prog) f xs h Post :=
  SC.ofRun (V := ⟨fun f => Try.prog.funcs[f]?, fun f => tbF (cfg f).1 (cfg f).2, O⟩) ⟨fun f fn h => ⟨h, by
    have := List.all_eq_true.1 names_ok fn (Array.mem_toList_iff.2 (Array.mem_of_getElem? h))
    simpa using this⟩, fun f => hTF _ _, hO⟩ hm hr hq
end Go.Proofs.Ytlcgliadpalgfaa.Vm
