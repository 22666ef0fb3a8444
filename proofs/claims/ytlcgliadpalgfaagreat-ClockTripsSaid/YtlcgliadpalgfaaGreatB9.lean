/- Contracts: slices.Sort of few ints. -/
import Derived.Calls
import Derived.Laws.Entries
import Derived.Laws.Cells
import Derived.Laws.BitsLemmas
import Derived.Laws.Slices
import Derived.Laws.StructEq
import Derived.ChangeKeysEq
import Derived.Laws.CopyRow
import Derived.Laws.AppendOwn
import Derived.Orders
import Derived.Test.YtlcgliadpalgfaaGreatRows
import Derived.RangeFuncIn
import Derived.RangeFuncRecord
import Derived.WalkKit
import Derived.ProofKit
import Derived.OpenShut
import Derived.ShutString
import Derived.ChangeOld
import Derived.Below
import Derived.Deep.Slices
import Derived.KernelRfl
import Derived.Test.YtlcgliadpalgfaaGreatB0
import Derived.Test.YtlcgliadpalgfaaGreatB1
import Derived.Test.YtlcgliadpalgfaaGreatB2
import Derived.Test.YtlcgliadpalgfaaGreatB3
import Derived.Test.YtlcgliadpalgfaaGreatB4
import Derived.Test.YtlcgliadpalgfaaGreatB5
import Derived.Test.YtlcgliadpalgfaaGreatB6
import Derived.Test.YtlcgliadpalgfaaGreatB7
import Derived.Test.YtlcgliadpalgfaaGreatB8
set_option linter.unusedSimpArgs false
set_option linter.unusedVariables false
namespace Go.Proofs.YtlcgliadpalgfaaGreat.Vm
open Go Go.Proofs Sp
set_option maxRecDepth 100000
set_option maxHeartbeats 800000

theorem c142 (n : Int) : SC (fun _ => Tryz.prog) 127 [.int .i64 fun _ => n] [] fun v h => v = .bool (fun _ => false) ∧ h = [] := by
  refine con Tryz.func127 (body := bodyOf Tryz.f127) rfl (by decide +kernel) ?_
  cbv
  exact ⟨by simp, trivial⟩

theorem c132 (a b : Int) : SC (fun _ => Tryz.prog) 117 [.int .i64 fun _ => a, .int .i64 fun _ => b] [] fun v h => v = .bool (fun _ => decide (a < b)) ∧ h = [] := by
  refine con Tryz.func117 (body := bodyOf Tryz.f117) rfl (by decide +kernel) ?_
  cbv
  refine call0 (c142 a) rfl fun r h₂ hp => ?_
  obtain ⟨rfl, rfl⟩ := hp
  cbv
  refine Br.isF rfl ?_
  cbv
  refine ⟨by simp [allc0, allc1, allcE, allcI, Cn.p], by simp, trivial⟩

theorem u8_bd (s : ByteArray) (n : Nat) : ((s[n]?).map UInt8.toNat).getD 0 ≤ 255 := by
  cases s[n]? with
  | none => simp
  | some b => have := b.toNat_lt; simp; omega

theorem u8_i (s : ByteArray) (n : Nat) : -9223372036854775808 ≤ ((((s[n]?).map UInt8.toNat).getD 0 : Nat) : Int) ∧ ((((s[n]?).map UInt8.toNat).getD 0 : Nat) : Int) ≤ 9223372036854775807 := by have := u8_bd s n; omega
theorem u8_j (s : ByteArray) (n : Nat) : -9223372036854775808 ≤ 0 + ((((s[n]?).map UInt8.toNat).getD 0 : Nat) : Int) ∧ 0 + ((((s[n]?).map UInt8.toNat).getD 0 : Nat) : Int) ≤ 9223372036854775807 := by have := u8_bd s n; omega
theorem u8_k (s : ByteArray) (n : Nat) : 0 ≤ 0 + ((((s[n]?).map UInt8.toNat).getD 0 : Nat) : Int) := by omega
theorem u8_l (s : ByteArray) (n : Nat) : 0 + ((((s[n]?).map UInt8.toNat).getD 0 : Nat) : Int) ≤ 255 := by have := u8_bd s n; omega

theorem c136 (n : Int) (h0 : 0 ≤ n) (h1 : n ≤ 255) : SC (fun _ => Tryz.prog) 121 [.int .u64 fun _ => n] [] fun v h => (∃ x : Int, 0 ≤ x ∧ x ≤ 255 ∧ v = .int .i64 fun _ => x) ∧ h = [] := by
  refine con Tryz.func121 (body := bodyOf Tryz.f121) rfl (by decide +kernel) ?_
  cbv
  refine Br.isF (by rw [decide_eq_false_iff_not]; omega) ?_
  cbv
  refine Br.isF (by rw [decide_eq_false_iff_not]; omega) ?_
  cbv
  refine Br.isF (by rw [decide_eq_false_iff_not]; omega) ?_
  cbv
  have hw : IntKind.u8.wrap n = n := by
    simp only [IntKind.wrap, IntKind.signed, IntKind.bits]
    simp
    omega
  refine ⟨?_, ⟨_, ?_, ?_, rfl⟩, trivial⟩
  · simp only [allc0, allc1, allcE, allcI, Cn.p, and_true]
    refine ⟨⟨by rw [hw]; exact h0, by rw [hw]; show n < ((256 : Nat) : Int); omega⟩, ?_, ?_⟩
    · exact u8_i _ _
    · exact u8_j _ _
  · exact u8_k _ _
  · exact u8_l _ _

theorem c124 (n : Int) (h0 : 0 ≤ n) (h1 : n ≤ 255) : SC (fun _ => Tryz.prog) 108 [.int .u64 fun _ => n] [] fun v h => (∃ x : Int, 0 ≤ x ∧ x ≤ 255 ∧ v = .int .i64 fun _ => x) ∧ h = [] := by
  refine con Tryz.func108 (body := bodyOf Tryz.f108) rfl (by decide +kernel) ?_
  cbv
  refine Br.isF rfl ?_
  cbv
  refine call0 (c136 n h0 h1) rfl fun r h₂ hp => ?_
  obtain ⟨⟨x, hx1, hx2, rfl⟩, rfl⟩ := hp
  cbv
  exact ⟨⟨x, hx1, hx2, rfl⟩, trivial⟩

theorem c126 (l : List Int) (c : Int) (h1 : 1 ≤ l.length) (h2 : l.length ≤ 12) : SC (fun _ => Tryz.prog) 111 [.msl 0 1 (fun _ => 0) (fun _ => (l.length : Int)) (fun _ => c), .int .i64 fun _ => 0, .int .i64 fun _ => (l.length : Int)] [.arr 1 (fun _ => (l.length : Int)) (lstR encI 0 l)]
    fun v h => v = .undef ∧ h = [.arr 1 (fun _ => (l.length : Int)) (lstR encI 0 (isort l))] := by
  obtain ⟨nt, hnt⟩ := nth_ex
  have hR : ∀ L : List Int, lstR encI 0 L = fun e => encI (nt Int 0 L (e ())) := fun L => by funext e; show encI _ = _; rw [hnt]
  rw [hR]
  refine SC.less (con Tryz.func111 (body := bodyOf Tryz.f111) rfl (by decide +kernel) ?_)
  cbv
  refine ⟨okc, ?_⟩
  refine loopA [0, 1, 2, 6] (fun (⟨i, L⟩ : Nat × List Int) => mkS 49 [(0, .msl 0 1 (fun _ => 0) (fun _ => (l.length : Int)) (fun _ => c)), (1, .int .i64 fun _ => 0), (2, .int .i64 fun _ => (l.length : Int)), (6, .int .i64 fun _ => (i : Int))])
    (fun ⟨i, L⟩ => [.arr 1 (fun _ => (l.length : Int)) fun e => encI (nt Int 0 L (e ()))])
    (fun ⟨i, L⟩ => 1 ≤ i ∧ i ≤ l.length ∧ L.length = l.length ∧ isort l = isortGo (l.length - i) i L) (fun i => l.length - i.1 + 0) (1, l) 1 (fun _ => rfl) ⟨by simp, h1, rfl, rfl⟩ (To.of [] ?_) ?_
  · cbv
    exact ⟨⟨.refl _, .refl _, .refl _, .int rfl, trivial⟩, .refl _, trivial⟩
  rintro ⟨i, L⟩ ⟨hi1, hi2, hL, hp⟩
  (cbv; try simp only [nc] at *)
  refine ⟨fun hb => ?_, fun hb => ?_⟩
  · simp only [decide_eq_true_eq] at hb
    obtain ⟨q, hq⟩ : ∃ q, l.length - i = q + 1 := ⟨l.length - i - 1, by omega⟩
    rw [hq, isortGo] at hp
    (cbv; try simp only [nc] at *)
    refine loopQ fun Q hQ => ?_
    refine loopA [0, 1, 2, 6, 7] (fun (⟨j, M⟩ : Nat × List Int) => mkS 49 [(0, .msl 0 1 (fun _ => 0) (fun _ => (l.length : Int)) (fun _ => c)), (1, .int .i64 fun _ => 0), (2, .int .i64 fun _ => (l.length : Int)), (6, .int .i64 fun _ => (i : Int)), (7, .int .i64 fun _ => (j : Int))])
      (fun ⟨j, M⟩ => [.arr 1 (fun _ => (l.length : Int)) fun e => encI (nt Int 0 M (e ()))])
      (fun ⟨j, M⟩ => j ≤ i ∧ M.length = l.length ∧ sink i L = sink j M) (fun j => j.1 + 0) (i, L) 1 (fun _ => rfl) ⟨Nat.le_refl _, hL, rfl⟩ (To.of [] ?_) ?_
    · cbv
      exact ⟨⟨.refl _, .refl _, .refl _, .refl _, .refl _, trivial⟩, .refl _, trivial⟩
    intro x hx
    obtain ⟨j, M⟩ := x
    have hj : j ≤ i := hx.1
    have hM : M.length = l.length := hx.2.1
    have hs : sink i L = sink j M := hx.2.2
    clear hx
    cases j with
    | zero =>
      (cbv; (try simp only [nc] at *); (try refine Chk.mk (okc) ?_))
      refine Br.isF (by decide) ?_
      (cbv; (try simp only [nc] at *); (try refine Chk.mk (okc) ?_))
      refine Br.isF (by decide) ?_
      (cbv; (try simp only [nc] at *); (try refine Chk.mk (okc) ?_))
      refine hQ _ _ _ ?_
      (cbv; (try simp only [nc] at *); (try refine Chk.mk (okc) ?_))
      refine ⟨(i + 1, M), ⟨by dsimp only; omega, by dsimp only; omega, hM, by dsimp only; rw [hp, hs, show l.length - (i + 1) = q by omega]; rfl⟩, by show l.length - (i + 1) + 0 < l.length - i + 0; omega, To.of [] ?_⟩
      cbv
      exact ⟨⟨.refl _, .refl _, .refl _, .int rfl, trivial⟩, .refl _, trivial⟩
    | succ j =>
      (cbv; (try simp only [nc] at *); (try refine Chk.mk (okc) ?_))
      refine Br.isT (by rw [decide_eq_true_eq]; omega) ?_
      (cbv; (try simp only [nc] at *); (try refine Chk.mk (okc) ?_))
      refine call0 (c132 _ _) rfl fun r h₂ hp' => ?_
      obtain ⟨rfl, rfl⟩ := hp'
      have e1 : nt Int 0 M (0 + ((j + 1 : Nat) : Int)) = M.getD (j + 1) 0 := by rw [hnt]; congr 1; omega
      have e2 : nt Int 0 M (0 + (((j + 1 : Nat) : Int) - 1)) = M.getD j 0 := by rw [hnt]; congr 1; omega
      (cbv; (try simp only [nc] at *); (try refine Chk.mk (okc) ?_))
      refine ⟨fun hb' => ?_, fun hb' => ?_⟩
      · have hlt : M.getD (j + 1) 0 < M.getD j 0 := by
          rw [← e1, ← e2]
          simpa using hb'
        rw [sink, if_pos hlt] at hs
        (cbv; (try simp only [nc] at *); (try refine Chk.mk (okc) ?_))
        refine ⟨(j, (M.set (j + 1) (M.getD j 0)).set j (M.getD (j + 1) 0)), ⟨by dsimp only; omega, by simpa using hM, hs⟩, by show j + 0 < j + 1 + 0; omega, To.of [] ?_⟩
        cbv
        refine ⟨⟨.refl _, .refl _, .refl _, .refl _, .int (by simp only [nc]; omega), trivial⟩, .arr rfl fun k hk => ?_, trivial⟩
        have key : (bif decide ((k : Int) = 0 + (((j + 1 : Nat) : Int) - 1)) then nt Int 0 M (0 + ((j + 1 : Nat) : Int)) else (bif decide ((k : Int) = 0 + ((j + 1 : Nat) : Int)) then nt Int 0 M (0 + (((j + 1 : Nat) : Int) - 1)) else nt Int 0 M (k : Int))) = nt Int 0 ((M.set (j + 1) (M.getD j 0)).set j (M.getD (j + 1) 0)) (k : Int) := by
          rw [e1, e2, hnt, hnt]
          simp only [Int.toNat_natCast, List.getD_eq_getElem?_getD, List.getElem?_set, List.length_set]
          by_cases h1 : k = j
          · subst h1
            rw [decide_eq_true (by omega)]
            simp
            rw [if_pos (by omega)]
            rfl
          · rw [decide_eq_false (by omega), if_neg (by omega)]
            by_cases h2 : k = j + 1
            · subst h2
              rw [decide_eq_true (by omega)]
              simp
              rw [if_pos (by omega)]
              rfl
            · rw [decide_eq_false (by omega), if_neg (by omega)]
              rfl
        show [AV.int .i64 fun _ => _] = [AV.int .i64 fun _ => _]
        exact congrArg (fun x : Int => [AV.int .i64 fun _ => x]) key
      · have hlt : ¬ M.getD (j + 1) 0 < M.getD j 0 := by
          rw [← e1, ← e2]
          simpa using hb'
        rw [sink, if_neg hlt] at hs
        (cbv; (try simp only [nc] at *); (try refine Chk.mk (okc) ?_))
        refine hQ _ _ _ ?_
        (cbv; (try simp only [nc] at *); (try refine Chk.mk (okc) ?_))
        refine ⟨(i + 1, M), ⟨by dsimp only; omega, by dsimp only; omega, hM, by dsimp only; rw [hp, hs, show l.length - (i + 1) = q by omega]⟩, by show l.length - (i + 1) + 0 < l.length - i + 0; omega, To.of [] ?_⟩
        cbv
        exact ⟨⟨.refl _, .refl _, .refl _, .int rfl, trivial⟩, .refl _, trivial⟩
  · simp only [decide_eq_false_iff_not] at hb
    have hz : l.length - i = 0 := by omega
    rw [hz, isortGo] at hp
    (cbv; try simp only [nc] at *)
    refine ⟨.undef, [.arr 1 (fun _ => (l.length : Int)) (lstR encI 0 (isort l))], To.of [] ⟨trivial, ?_, trivial⟩, rfl, rfl⟩
    rw [hR, hp]
    exact .refl _

theorem c123 (l : List Int) (c lim : Int) (h1 : 1 ≤ l.length) (h2 : l.length ≤ 12) : SC (fun _ => Tryz.prog) 107 [.msl 0 1 (fun _ => 0) (fun _ => (l.length : Int)) (fun _ => c), .int .i64 fun _ => 0, .int .i64 fun _ => (l.length : Int), .int .i64 fun _ => lim] [.arr 1 (fun _ => (l.length : Int)) (lstR encI 0 l)]
    fun v h => v = .tup [] ∧ h = [.arr 1 (fun _ => (l.length : Int)) (lstR encI 0 (isort l))] := by
  refine con Tryz.func107 (body := bodyOf Tryz.f107) rfl (by decide +kernel) ?_
  cbv
  refine loopQ fun Q hQ => ?_
  refine loopA [0, 1, 2, 3] (fun _ : Unit => mkS 134 [(0, .msl 0 1 (fun _ => 0) (fun _ => (l.length : Int)) (fun _ => c)), (1, .int .i64 fun _ => 0), (2, .int .i64 fun _ => (l.length : Int)), (3, .int .i64 fun _ => lim)])
    (fun _ => [.arr 1 (fun _ => (l.length : Int)) (lstR encI 0 l)]) (fun _ => True) (fun _ => 0) () 1 (fun _ => rfl) trivial (To.of [] ?_) ?_
  · cbv
    exact ⟨⟨.refl _, .refl _, .refl _, .refl _, trivial⟩, .refl _, trivial⟩
  intro _ _
  (cbv; (try simp only [nc] at *); (try refine Chk.mk (okc) ?_))
  refine Br.isT (by rw [decide_eq_true_eq]; omega) ?_
  (cbv; (try simp only [nc] at *); (try refine Chk.mk (okc) ?_))
  refine callL [0] (c126 l c h1 h2) (by decide) (by simp) rfl rfl fun r h₂ hp => ?_
  obtain ⟨rfl, rfl⟩ := hp
  cbv
  refine hQ _ _ _ ?_
  cbv

theorem c115m (l : List Int) (c : Int) (h1 : 1 ≤ l.length) (h2 : l.length ≤ 12) : SC (fun _ => Tryz.prog) 102 [.msl 0 1 (fun _ => 0) (fun _ => (l.length : Int)) (fun _ => c)] [.arr 1 (fun _ => (l.length : Int)) (lstR encI 0 l)]
    fun v h => v = .tup [] ∧ h = [.arr 1 (fun _ => (l.length : Int)) (lstR encI 0 (isort l))] := by
  refine con Tryz.func102 (body := bodyOf Tryz.f102) rfl (by decide +kernel) ?_
  (cbv; (try simp only [nc] at *); (try refine Chk.mk (okc) ?_))
  have hw : IntKind.u64.wrap (l.length : Int) = l.length := by
    simp only [IntKind.wrap, IntKind.signed, IntKind.bits]
    simp
    omega
  refine call0 (c124 (IntKind.u64.wrap (l.length : Int)) (by omega) (by omega)) rfl fun r h₂ hp => ?_
  obtain ⟨⟨x, _, _, rfl⟩, rfl⟩ := hp
  cbv
  refine callL [0] (c123 l c x h1 h2) (by decide) (by simp) rfl rfl fun r h₂ hp => ?_
  obtain ⟨rfl, rfl⟩ := hp
  cbv

/-- slices.Sort of an array that has grown. -/
theorem c115 (l : List Int) (n : Unit → Int) (hn : n () = (l.length : Int)) (h1 : 1 ≤ l.length) (h2 : l.length ≤ 12) : SC (fun _ => Tryz.prog) 102 [.gsl 0 n] [.gar 1 (fun _ => (l.length : Int)) (lstR encI 0 l)]
    fun v h => v = .tup [] ∧ h = [.fro 1 (fun _ => (l.length : Int)) (lstR encI 0 (isort l))] :=
  SC.inPlace hn (by show (0 : Int) < (l.length : Int); omega) rfl rfl fun c _ => (c115m l c h1 h2).mono fun r h hp => by
    obtain ⟨rfl, rfl⟩ := hp
    exact ⟨_, [], rfl, rfl, rfl, rfl⟩
end Go.Proofs.YtlcgliadpalgfaaGreat.Vm

/- Contracts: hours that are skipped or doubled. -/
namespace Go.Proofs.YtlcgliadpalgfaaGreat.Vm
open Go Go.Proofs Sp
set_option maxRecDepth 100000
set_option maxHeartbeats 800000

def encSpan (x : Sp.Span) : List AV := [.int .i64 fun _ => x.fr, .int .i64 fun _ => x.to_]

theorem sink_all {P : Int → Prop} (h0 : P 0) : ∀ (j : Nat) (M : List Int), (∀ x ∈ M, P x) → ∀ x ∈ sink j M, P x
  | 0, M, h => h
  | j + 1, M, h => by
    unfold sink
    have hg : ∀ k, P (M.getD k 0) := fun k => by
      rw [List.getD_eq_getElem?_getD]
      cases hk : M[k]? with
      | none => exact h0
      | some x => exact h x (List.mem_of_getElem? hk)
    split
    · refine sink_all h0 j _ fun x hx => ?_
      rcases List.mem_or_eq_of_mem_set hx with hx | rfl
      · rcases List.mem_or_eq_of_mem_set hx with hx | rfl
        · exact h x hx
        · exact hg _
      · exact hg _
    · exact h
theorem isort_all {P : Int → Prop} (h0 : P 0) (M : List Int) (h : ∀ x ∈ M, P x) : ∀ x ∈ isort M, P x := by
  have key : ∀ (k i : Nat) (M : List Int), (∀ x ∈ M, P x) → ∀ x ∈ isortGo k i M, P x := by
    intro k
    induction k with
    | zero => intro i M h; exact h
    | succ k ih => intro i M h; exact ih (i + 1) _ (sink_all h0 i M h)
  exact key _ _ M h
theorem sink_length : ∀ (j : Nat) (M : List Int), (sink j M).length = M.length
  | 0, M => rfl
  | j + 1, M => by
    unfold sink
    split
    · rw [sink_length]; simp
    · rfl
theorem isort_length (M : List Int) : (isort M).length = M.length := by
  have key : ∀ (k i : Nat) (M : List Int), (isortGo k i M).length = M.length := by
    intro k
    induction k with
    | zero => intro i M; rfl
    | succ k ih => intro i M; rw [isortGo, ih, sink_length]
  exact key _ _ M

/-- The pieces of a valid zone. -/
theorem pieces_bd {z : Zone} (h : checkZone z = 0) : (pieces z).length ≤ 4 ∧ ∀ p ∈ pieces z, 0 ≤ p.fr ∧ p.fr ≤ 43200 ∧ 0 ≤ p.bef ∧ p.bef ≤ 1099511627776 ∧ -1000000 ≤ p.ahd ∧ p.ahd ≤ 1000000 := by
  have hs := small_of h
  have hl := pcsGo_len z.chs 0 z.base
  have h3 : z.chs.length ≤ 3 := by
    unfold checkZone at h
    split at h
    · cases h
    · split at h
      · cases h
      · omega
  have hat : ∀ c ∈ z.chs, 0 ≤ c.at_ ∧ c.at_ ≤ 43200 := by
    unfold checkZone at h
    split at h
    · cases h
    · split at h
      · cases h
      · have key : ∀ (l : List Chg) (p : Option Int), chkChs p l = 0 → ∀ c ∈ l, 0 ≤ c.at_ ∧ c.at_ ≤ 43200 := by
          intro l
          induction l with
          | nil => intro p _ c hc; cases hc
          | cons a l ih =>
            intro p hp c hc
            rw [chkChs_cons] at hp
            split at hp
            · cases hp
            rename_i h3
            split at hp
            · cases hp
            split at hp
            · cases hp
            rcases List.mem_cons.1 hc with rfl | hc
            · simp [inB] at h3
              omega
            · exact ih _ hp c hc
        exact key _ _ h
  refine ⟨by unfold pieces; omega, ?_⟩
  have key : ∀ (l : List Chg) (fr a : Int), (∀ c ∈ l, 0 ≤ c.at_ ∧ c.at_ ≤ 43200) → 0 ≤ fr ∧ fr ≤ 43200 → ∀ p ∈ pcsGo fr a l, 0 ≤ p.fr ∧ p.fr ≤ 43200 ∧ 0 ≤ p.bef ∧ p.bef ≤ 1099511627776 := by
    intro l
    induction l with
    | nil => intro fr a _ hf p hp; simp [pcsGo, openT] at hp; subst hp; simp; omega
    | cons c l ih =>
      intro fr a hc hf p hp
      have h1 := hc c (List.mem_cons_self ..)
      simp only [pcsGo] at hp
      split at hp
      · rcases List.mem_cons.1 hp with rfl | hp
        · simp; omega
        · exact ih _ _ (fun x hx => hc x (List.mem_cons_of_mem _ hx)) h1 p hp
      · exact ih _ _ (fun x hx => hc x (List.mem_cons_of_mem _ hx)) h1 p hp
  intro p hp
  have h1 := key z.chs 0 z.base hat (by omega) p hp
  have h2 := (pieces_small hs).2.2 p hp
  omega

theorem snocR {nt : (α : Type) → α → List α → Int → α} (hnt : ∀ (α : Type) (d : α) (l : List α) (i : Int), nt α d l i = l.getD i.toNat d) {α : Type} {enc : α → List AV} {d : α} {E X : List α} {n0 : Unit → Int} {g : (Unit → Int) → List AV} (h0 : n0 () = (E.length : Int)) (hg : ∀ k : Nat, k < X.length → g (fun _ => (k : Int)) = enc (X.getD k d)) :
    ∀ i : Nat, (i : Int) < (E.length : Int) + (X.length : Int) → snocF n0 (fun e => enc (nt α d E (e ()))) g (fun _ => (i : Int)) = enc (nt α d (E ++ X) (i : Int)) := fun i hi => by
  rw [nt_app hnt]
  show (if (i : Int) < n0 () then enc (nt α d E (i : Int)) else g (fun _ => (i : Int) - n0 ())) = _
  by_cases h : i < E.length
  · rw [if_pos (by omega), if_pos h]
  · rw [if_neg (by omega), if_neg h]
    have e : (fun _ : Unit => ((i : Int) - n0 ())) = fun _ => ((i - E.length : Nat) : Int) := funext fun _ => by omega
    rw [e, hg _ (by omega), hnt, Int.toNat_natCast]

theorem last_of {nt : (α : Type) → α → List α → Int → α} (hnt : ∀ (α : Type) (d : α) (l : List α) (i : Int), nt α d l i = l.getD i.toNat d) {α : Type} {d : α} {l : List α} (h : 0 < l.length) : l.getLast? = some (nt α d l ((l.length : Int) - 1)) := by
  have e : ((l.length : Int) - 1).toNat = l.length - 1 := by omega
  rw [hnt, e, List.getLast?_eq_getElem?, List.getD_eq_getElem?_getD, List.getElem?_eq_getElem (by omega)]
  rfl

/-- One more element behind a slice that has been cut by one. -/
theorem snocCut {nt : (α : Type) → α → List α → Int → α} (hnt : ∀ (α : Type) (d : α) (l : List α) (i : Int), nt α d l i = l.getD i.toNat d) {α : Type} {enc : α → List AV} {d : α} {l : List α} {x : α} {n0 : Unit → Int} {g : (Unit → Int) → List AV} (h : 0 < l.length) (h0 : n0 () = (l.length : Int) - 1) (hg : g (fun _ => 0) = enc x) :
    ∀ i : Nat, (i : Int) < (l.length : Int) → snocF n0 (fun e => enc (nt α d l (e ()))) g (fun _ => (i : Int)) = enc (nt α d (l.dropLast ++ [x]) (i : Int)) := fun i hi => by
  rw [nt_app hnt, List.length_dropLast]
  show (if (i : Int) < n0 () then enc (nt α d l (i : Int)) else g (fun _ => (i : Int) - n0 ())) = _
  by_cases hlt : i < l.length - 1
  · rw [if_pos (by omega), if_pos hlt, hnt, hnt]
    congr 1
    simp only [Int.toNat_natCast, List.getD_eq_getElem?_getD]
    rw [List.getElem?_dropLast, if_pos hlt]
  · rw [if_neg (by omega), if_neg hlt]
    have e : (fun _ : Unit => ((i : Int) - n0 ())) = fun _ => 0 := funext fun _ => by omega
    rw [e, hg, hnt, show i - (l.length - 1) = 0 from by omega]
    rfl

theorem c82 (z : Zone) (hz : checkZone z = 0) (f : FuncId) (q : Int → Bool) (hq : ∀ n : Int, SC (fun _ => Tryz.prog) f [.int .i64 fun _ => n] [] fun v h => v = .bool (fun _ => q n) ∧ h = []) :
    SC (fun _ => Tryz.prog) 86 [zoneA z, .fn f [] []] [] fun v h => v = lst 2 encSpan default (spans z q) ∧ h = [] := by
  obtain ⟨nt, hnt⟩ := nth_ex
  have hR : ∀ L : List Int, lstR encI 0 L = fun e => encI (nt Int 0 L (e ())) := fun L => by funext e; show encI _ = _; rw [hnt]
  refine SC.less (conF false true Tryz.func86 (body := bodyOf Tryz.f86) rfl (by decide +kernel) ?_)
  unfold zoneA
  cbv
  refine call0 (c90 z (small_of hz)) rfl fun r h₂ hp => ?_
  obtain ⟨rfl, rfl⟩ := hp
  obtain ⟨hl1, hl3⟩ := pieces_bd hz
  have hl2 := (pieces_small (small_of hz)).2.1
  unfold spans
  rw [lst_nt hnt]
  generalize pieces z = l at *
  cbv
  refine loopQ fun Q hQ => ?_
  refine loopF false true [1, 5, 6, 20, 21, 22] (fun (⟨i, E⟩ : Nat × List Int) => mkS 133 [(1, .fn f [] []), (5, .isl 3 (fun _ => (l.length : Int)) (fun e => encPc (nt Pc default l (e ()))) .none), (6, .gsl 1 fun _ => (E.length : Int)), (20, .isl 3 (fun _ => (l.length : Int)) (fun e => encPc (nt Pc default l (e ()))) .none), (21, .int .i64 fun _ => (l.length : Int)), (22, .int .i64 fun _ => (i : Int))])
    (fun ⟨i, E⟩ => [.cells [.undef, .undef], .gar 1 (fun _ => (E.length : Int)) fun e => encI (nt Int 0 E (e ()))])
    (fun ⟨i, E⟩ => i ≤ l.length ∧ ends l = E ++ ends (l.drop i) ∧ E.length = 2 * i) (fun i => l.length - i.1 + 0) (0, []) 2 (fun _ => rfl) ⟨Nat.zero_le _, by simp, by simp⟩ (To.of [(1, true)] ?_) ?_
  · cbv
    exact ⟨⟨.refl _, .refl _, .nilGar (by decide) (by decide) rfl, .refl _, .refl _, .int rfl, trivial⟩, .cells trivial, .gar rfl (fun i hi => absurd hi (by show ¬ ((i : Int) < 0); omega)), trivial⟩
  intro x hx
  obtain ⟨i, E⟩ := x
  have hi : i ≤ l.length := hx.1
  have hp : ends l = E ++ ends (l.drop i) := hx.2.1
  have hE : E.length = 2 * i := hx.2.2
  clear hx
  (cbv; (try simp only [nc] at *); (try refine Chk.mk (okc) ?_))
  refine ⟨fun hb => ?_, fun hb => ?_⟩
  · simp only [decide_eq_true_eq] at hb
    have hil : i < l.length := by omega
    have hd := nt_drop (d := default) hnt hil
    have hm := hl3 _ (nt_mem (d := default) hnt hil)
    (cbv; try simp only [nc] at *)
    obtain ⟨p, hc⟩ : ∃ p, nt Pc default l (i : Int) = p := ⟨_, rfl⟩
    rw [hc] at hd hm
    simp only [hc]
    refine ⟨okc, ⟨(i + 1, E ++ [p.fr + p.ahd, p.bef + p.ahd]), ⟨by omega, by dsimp only; rw [hp, hd]; simp [ends], by simp; omega⟩, by show l.length - (i + 1) + 0 < l.length - i + 0; omega, To.of [] ?_⟩⟩
    cbv
    refine ⟨⟨.refl _, .refl _, .gsl (by simp), .refl _, .refl _, .int rfl, trivial⟩, .refl _, .gar (by simp) fun k hk => snocR hnt (X := [p.fr + p.ahd, p.bef + p.ahd]) rfl (fun k hk => ?_) k (by simpa using hk), trivial⟩
    match k, hk with
    | 0, _ => rfl
    | 1, _ => rfl
  · simp only [decide_eq_false_iff_not] at hb
    have hdr : l.drop i = [] := List.drop_eq_nil_of_le (by omega)
    have hp : ends l = E := by rw [hp, hdr]; exact List.append_nil _
    have hE2 : 2 ≤ E.length ∧ E.length ≤ 8 := by omega
    subst hp
    (cbv; try simp only [nc] at *)
    refine hQ _ _ _ ?_
    (cbv; try simp only [nc] at *)
    clear hQ
    have h115 := c115 (ends l) (fun _ => ((ends l).length : Int)) rfl (by omega) (by omega)
    rw [hR, hR] at h115
    refine callL [1] h115 (by decide) (by simp) rfl rfl fun r h₂ hp => ?_
    obtain ⟨rfl, rfl⟩ := hp
    have hlen : (isort (ends l)).length = (ends l).length := isort_length _
    have hbd : ∀ x ∈ isort (ends l), -2000000 ≤ x ∧ x ≤ 1100000000000 := isort_all (by omega) _ fun x hx => by
      simp only [ends, List.mem_flatMap] at hx
      obtain ⟨p, hp, hx⟩ := hx
      have := hl3 p hp
      simp at hx
      omega
    have hsp : spansGo l q [] (isort (ends l)) = spansGo l q [] ((isort (ends l)).drop 0) := rfl
    generalize isort (ends l) = S at *
    generalize (ends l).length = N at *
    subst hlen
    (cbv; (try simp only [nc] at *); (try refine Chk.mk (okc) ?_))
    refine loopQ fun Q hQ => ?_
    refine loopF false true [1, 5, 6, 9, 46, 47, 48] (fun (⟨i, out⟩ : Nat × List Sp.Span) => mkS 133 [(1, .fn f [] []), (5, .isl 3 (fun _ => (l.length : Int)) (fun e => encPc (nt Pc default l (e ()))) .none),
        (6, .isl 1 (fun _ => (S.length : Int)) (fun e => encI (nt Int 0 S (e ()))) .none), (9, .isl 2 (fun _ => (out.length : Int)) (fun e => encSpan (nt Sp.Span default out (e ()))) .none),
        (46, .isl 1 (fun _ => (S.length : Int) - 1) (fun e => encI (nt Int 0 S (e ()))) .none), (47, .int .i64 fun _ => (S.length : Int) - 1), (48, .int .i64 fun _ => (i : Int))])
      (fun _ => [.cells [.undef, .undef], .fro 1 (fun _ => (S.length : Int)) fun e => encI (nt Int 0 S (e ()))])
      (fun ⟨i, out⟩ => i + 1 ≤ S.length ∧ spansGo l q [] S = spansGo l q out (S.drop i) ∧ out.length ≤ i) (fun i => S.length - i.1 + 0) (0, []) 2 (fun _ => rfl) ⟨by omega, rfl, by simp⟩ (To.of [] ?_) ?_
    · cbv
      exact ⟨⟨.refl _, .refl _, .gd (by decide) (.refl _), .empty rfl, .refl _, .refl _, .int rfl, trivial⟩, .cells trivial, .refl _, trivial⟩
    clear h115 hp hE hdr hb hi hsp
    intro x hx
    obtain ⟨i, out⟩ := x
    have hi : i + 1 ≤ S.length := hx.1
    have hp : spansGo l q [] S = spansGo l q out (S.drop i) := hx.2.1
    have ho : out.length ≤ i := hx.2.2
    clear hx
    (cbv; (try simp only [nc] at *); (try refine Chk.mk (okc) ?_))
    refine ⟨fun hb => ?_, fun hb => ?_⟩
    · simp only [decide_eq_true_eq] at hb
      have hil : i < S.length := by omega
      have hil' : i + 1 < S.length := by omega
      have hd := nt_drop (d := (0 : Int)) hnt hil
      have hd' := nt_drop (d := (0 : Int)) hnt hil'
      have hm := hbd _ (nt_mem (d := (0 : Int)) hnt hil)
      have hm' := hbd _ (nt_mem (d := (0 : Int)) hnt hil')
      (cbv; (try simp only [nc] at *); (try refine Chk.mk (okc) ?_))
      obtain ⟨lo, hlo⟩ : ∃ p, nt Int 0 S (i : Int) = p := ⟨_, rfl⟩
      obtain ⟨hi', hhi⟩ : ∃ p, nt Int 0 S ((i : Int) + 1) = p := ⟨_, rfl⟩
      have hhi2 : nt Int 0 S ((i + 1 : Nat) : Int) = hi' := hhi
      rw [hlo] at hd hm
      rw [hhi2] at hd' hm'
      rw [hd, hd', spansGo] at hp
      simp only [hlo, hhi]
      refine loopQ fun Q₂ hQ₂ => ?_
      refine loopF false true [1, 5, 6, 9, 10, 11, 12, 13, 46, 47, 48, 58, 59, 60] (fun (⟨k, n⟩ : Nat × Int) => mkS 133 [(1, .fn f [] []), (5, .isl 3 (fun _ => (l.length : Int)) (fun e => encPc (nt Pc default l (e ()))) .none),
        (6, .isl 1 (fun _ => (S.length : Int)) (fun e => encI (nt Int 0 S (e ()))) .none), (9, .isl 2 (fun _ => (out.length : Int)) (fun e => encSpan (nt Sp.Span default out (e ()))) .none),
        (10, .int .i64 fun _ => (i : Int)), (11, .int .i64 fun _ => lo), (12, .int .i64 fun _ => hi'), (13, .int .i64 fun _ => n),
        (46, .isl 1 (fun _ => (S.length : Int) - 1) (fun e => encI (nt Int 0 S (e ()))) .none), (47, .int .i64 fun _ => (S.length : Int) - 1), (48, .int .i64 fun _ => (i : Int)),
        (58, .isl 3 (fun _ => (l.length : Int)) (fun e => encPc (nt Pc default l (e ()))) .none), (59, .int .i64 fun _ => (l.length : Int)), (60, .int .i64 fun _ => (k : Int))])
        (fun _ => [.cells [.undef, .undef], .fro 1 (fun _ => (S.length : Int)) fun e => encI (nt Int 0 S (e ()))])
        (fun ⟨k, n⟩ => k ≤ l.length ∧ times l lo = n + times (l.drop k) lo ∧ 0 ≤ n ∧ n ≤ k) (fun i => l.length - i.1 + 0) (0, 0) 2 (fun _ => rfl) ⟨Nat.zero_le _, by simp, by simp, by simp⟩ (To.of [] ?_) ?_
      · cbv
        exact ⟨⟨.refl _, .refl _, .refl _, .refl _, .refl _, .refl _, .refl _, .refl _, .refl _, .refl _, .refl _, .refl _, .refl _, .int rfl, trivial⟩, .refl _, .refl _, trivial⟩
      intro x hx
      obtain ⟨k, n⟩ := x
      have hk : k ≤ l.length := hx.1
      have ht : times l lo = n + times (l.drop k) lo := hx.2.1
      have hn : 0 ≤ n ∧ n ≤ k := hx.2.2
      clear hx
      (cbv; (try simp only [nc] at *); (try refine Chk.mk (okc) ?_))
      refine ⟨fun hb => ?_, fun hb => ?_⟩
      · simp only [decide_eq_true_eq] at hb
        have hkl : k < l.length := by omega
        have hdk := nt_drop (d := default) hnt hkl
        have hmk := hl3 _ (nt_mem (d := default) hnt hkl)
        (cbv; try simp only [nc] at *)
        obtain ⟨p, hc⟩ : ∃ p, nt Pc default l (k : Int) = p := ⟨_, rfl⟩
        rw [hc] at hdk hmk
        rw [hdk, times] at ht
        simp only [hc]
        have hite : (bif decide (p.fr + p.ahd ≤ lo) then decide (lo < p.bef + p.ahd) else false) = decide (p.fr + p.ahd ≤ lo ∧ lo < p.bef + p.ahd) := by
          rw [Bool.decide_and]; cases decide (p.fr + p.ahd ≤ lo) <;> rfl
        rw [hite]
        refine Chk.mk (okc) ⟨fun hb => ?_, fun hb => ?_⟩
        · simp only [decide_eq_true_eq] at hb
          rw [if_pos hb] at ht
          (cbv; (try simp only [nc] at *); (try refine Chk.mk (okc) ?_))
          refine ⟨(k + 1, n + 1), ⟨by dsimp only; omega, by dsimp only; omega, by dsimp only; omega, by dsimp only; omega⟩, by show l.length - (k + 1) + 0 < l.length - k + 0; omega, To.of [] ?_⟩
          cbv
          exact ⟨⟨.refl _, .refl _, .refl _, .refl _, .refl _, .refl _, .refl _, .refl _, .refl _, .refl _, .refl _, .refl _, .refl _, .int rfl, trivial⟩, .refl _, .refl _, trivial⟩
        · simp only [decide_eq_false_iff_not] at hb
          rw [if_neg hb] at ht
          (cbv; (try simp only [nc] at *); (try refine Chk.mk (okc) ?_))
          refine ⟨(k + 1, n), ⟨by dsimp only; omega, by dsimp only; omega, by dsimp only; omega, by dsimp only; omega⟩, by show l.length - (k + 1) + 0 < l.length - k + 0; omega, To.of [] ?_⟩
          cbv
          exact ⟨⟨.refl _, .refl _, .refl _, .refl _, .refl _, .refl _, .refl _, .refl _, .refl _, .refl _, .refl _, .refl _, .refl _, .int rfl, trivial⟩, .refl _, .refl _, trivial⟩
      · simp only [decide_eq_false_iff_not] at hb
        have hdk : l.drop k = [] := List.drop_eq_nil_of_le (by omega)
        rw [hdk, times, Int.add_zero] at ht
        (cbv; try simp only [nc] at *)
        refine hQ₂ _ _ _ ?_
        clear hQ₂
        subst ht
        (cbv; (try simp only [nc] at *); (try refine Chk.mk (okc) ?_))
        refine ⟨fun hb => ?_, fun hb => ?_⟩
        · -- not the same: the answer is asked for
          simp only [Bool.not_eq_true'] at hb
          have hne : ¬ hi' = lo := by simpa using hb
          (cbv; (try simp only [nc] at *); (try refine Chk.mk (okc) ?_))
          refine call0 (hq _) rfl fun r h₂ hp' => ?_
          obtain ⟨rfl, rfl⟩ := hp'
          (cbv; (try simp only [nc] at *); (try refine Chk.mk (okc) ?_))
          refine ⟨fun hb => ?_, fun hb => ?_⟩
          · have hqf : q (times l lo) = false := by simpa [hne] using hb
            (cbv; (try simp only [nc] at *); (try refine Chk.mk (okc) ?_))
            refine ⟨(i + 1, out), ⟨by dsimp only; omega, by dsimp only; rw [hp, hd', spanStep, if_pos (.inr hqf)], by dsimp only; omega⟩, by show S.length - (i + 1) + 0 < S.length - i + 0; omega, To.of [] ?_⟩
            cbv
            exact ⟨⟨.refl _, .refl _, .refl _, .refl _, .refl _, .refl _, .int rfl, trivial⟩, .refl _, .refl _, trivial⟩
          · have hqt : q (times l lo) = true := by simpa [hne] using hb
            rw [spanStep, if_neg (by simp [hne, hqt])] at hp
            (cbv; (try simp only [nc] at *); (try refine Chk.mk (okc) ?_))
            refine ⟨fun hb' => ?_, fun hb' => ?_⟩
            · have hpos : 0 < out.length := by
                rcases Nat.eq_zero_or_pos out.length with h0 | h0
                · rw [h0] at hb'; cases hb'
                · exact h0
              have hto : (nt Sp.Span default out ((out.length : Int) - 1)).to_ = lo - 1 := by
                rw [decide_eq_true (show (0 : Int) < (out.length : Int) by omega)] at hb'
                simpa using hb'
              rw [last_of (d := default) hnt hpos] at hp
              simp only [hto, if_true] at hp
              (cbv; (try simp only [nc] at *); (try refine Chk.mk (okc) ?_))
              refine ⟨(i + 1, out.dropLast ++ [⟨(nt Sp.Span default out ((out.length : Int) - 1)).fr, hi' - 1⟩]), ⟨by dsimp only; omega, by dsimp only; rw [hp, hd'], by simp; omega⟩, by show S.length - (i + 1) + 0 < S.length - i + 0; omega, To.of [] ?_⟩
              cbv
              exact ⟨⟨.refl _, .refl _, .refl _, .none (by simp only [nc, List.length_append, List.length_dropLast, List.length_cons, List.length_nil]; omega) (fun k hk => snocCut hnt hpos rfl rfl k (by simp only [nc, List.length_cons, List.length_nil] at hk; omega)), .refl _, .refl _, .int rfl, trivial⟩, .refl _, .refl _, trivial⟩
            · have hstep : (match out.getLast? with
                | some x => if x.to_ = lo - 1 then out.dropLast ++ [⟨x.fr, hi' - 1⟩] else out ++ [⟨lo, hi' - 1⟩]
                | none => out ++ [⟨lo, hi' - 1⟩]) = out ++ [(⟨lo, hi' - 1⟩ : Sp.Span)] := by
                rcases Nat.eq_zero_or_pos out.length with h0 | h0
                · rw [List.eq_nil_of_length_eq_zero h0]; rfl
                · rw [last_of (d := default) hnt h0]
                  rw [decide_eq_true (show (0 : Int) < (out.length : Int) by omega)] at hb'
                  simp only
                  rw [if_neg (by simpa using hb')]
              have hp : spansGo l q [] S = spansGo l q (out ++ [(⟨lo, hi' - 1⟩ : Sp.Span)]) (hi' :: List.drop (i + 1 + 1) S) := by rw [← hstep]; exact hp
              (cbv; (try simp only [nc] at *); (try refine Chk.mk (okc) ?_))
              refine ⟨(i + 1, out ++ [⟨lo, hi' - 1⟩]), ⟨by dsimp only; omega, by dsimp only; rw [hp, hd'], by simp; omega⟩, by show S.length - (i + 1) + 0 < S.length - i + 0; omega, To.of [] ?_⟩
              cbv
              exact ⟨⟨.refl _, .refl _, .refl _, .none (by simp) (fun k hk => snoc_eq hnt (l := out) rfl rfl rfl k (by simp only [nc, List.length_cons, List.length_nil] at hk; omega)), .refl _, .refl _, .int rfl, trivial⟩, .refl _, .refl _, trivial⟩
        · have heq : hi' = lo := by simpa using hb
          (cbv; (try simp only [nc] at *); (try refine Chk.mk (okc) ?_))
          refine Br.isT (by decide) ?_
          (cbv; (try simp only [nc] at *); (try refine Chk.mk (okc) ?_))
          refine ⟨(i + 1, out), ⟨by dsimp only; omega, by dsimp only; rw [hp, hd', spanStep, if_pos (.inl heq)], by dsimp only; omega⟩, by show S.length - (i + 1) + 0 < S.length - i + 0; omega, To.of [] ?_⟩
          cbv
          exact ⟨⟨.refl _, .refl _, .refl _, .refl _, .refl _, .refl _, .int rfl, trivial⟩, .refl _, .refl _, trivial⟩
    · simp only [decide_eq_false_iff_not] at hb
      have hlast : S.length - i = 1 := by omega
      have hdl : ∃ x, S.drop i = [x] := List.length_eq_one_iff.1 (by rw [List.length_drop]; exact hlast)
      (cbv; try simp only [nc] at *)
      obtain ⟨x, hdx⟩ := hdl
      rw [hdx, spansGo_one] at hp
      refine hQ _ _ _ ?_
      clear hQ
      (cbv; (try simp only [nc] at *); (try refine Chk.mk (okc) ?_))
      refine ⟨lst 2 encSpan default out, [], To.of [] ⟨⟨.lst hnt rfl, trivial⟩, trivial⟩, by rw [hp], rfl⟩

theorem c83 (n : Int) : SC (fun _ => Tryz.prog) 87 [.int .i64 fun _ => n] [] fun v h => v = .bool (fun _ => decide (n = 0)) ∧ h = [] := by
  refine con Tryz.func87 (body := bodyOf Tryz.f87) rfl (by decide +kernel) ?_
  cbv
  exact ⟨rfl, trivial⟩
theorem c31 (z : Zone) (hlen : z.chs.length ≤ 1000000) : SC (fun _ => Tryz.prog) 41 [zoneA z] [] fun v h => v = .tup [lst 2 encSpan default (Skipped z).1, .int .i64 fun _ => (Skipped z).2] ∧ h = [] := by
  refine SC.less (con Tryz.func41 (body := bodyOf Tryz.f41) rfl (by decide +kernel) ?_)
  unfold zoneA Skipped
  cbv
  refine call0 (c79 z hlen) rfl fun r h₂ hp => ?_
  obtain ⟨rfl, rfl⟩ := hp
  have hz : checkZone z = 0 → checkZone z = 0 := id
  generalize he : checkZone z = e at *
  cbv
  refine ⟨fun hb => ?_, fun hb => ?_⟩
  · simp only [bne_iff_ne, ne_eq] at hb
    cbv
    refine ⟨.tup [lst 2 encSpan default [], .int .i64 fun _ => e], [], To.of [] ⟨⟨.tup ⟨.empty rfl, .refl _, trivial⟩, trivial⟩, trivial⟩, by simp [hb], rfl⟩
  simp only [bne_eq_false_iff_eq] at hb
  subst hb
  cbv
  refine call0 (c82 z he 87 _ c83) rfl fun r h₂ hp => ?_
  obtain ⟨rfl, rfl⟩ := hp
  generalize spans z _ = l
  cbv
  exact ⟨.tup [lst 2 encSpan default l, .int .i64 fun _ => 0], [], To.of [] ⟨⟨.tup ⟨.refl _, .refl _, trivial⟩, trivial⟩, trivial⟩, by simp, rfl⟩

end Go.Proofs.YtlcgliadpalgfaaGreat.Vm

/- The abstract machine at this program, run at given values. -/
namespace Go.Proofs.YtlcgliadpalgfaaGreat.Vm
open Go Go.Proofs Sp
set_option maxRecDepth 100000

theorem names_ok : Tryz.prog.funcs.toList.all (fun fn => !(fn.name == "runtime.NumGoroutine")) = true := by decide +kernel

/-- The numbers of rows of one number. -/
def decI (F : (Unit → Int) → List AV) : Nat → Nat → Option (List Int)
  | _, 0 => some []
  | i, k + 1 => (match F (fun _ => (i : Int)) with
    | [.int .i64 g] => (match decI F (i + 1) k with
      | some l => some (g () :: l)
      | none => none)
    | _ => none)

theorem decI_ok {F : (Unit → Int) → List AV} : ∀ {k i : Nat} {l : List Int}, decI F i k = some l → l.length = k ∧ ∀ j, j < k → F (fun _ => ((i + j : Nat) : Int)) = encI (l.getD j 0)
  | 0, i, l, h => by
    simp only [decI, Option.some.injEq] at h
    subst h
    exact ⟨rfl, fun j hj => by omega⟩
  | k + 1, i, l, h => by
    unfold decI at h
    split at h
    case h_2 => cases h
    rename_i g hg
    split at h
    case h_2 => cases h
    rename_i l' hl'
    simp only [Option.some.injEq] at h
    subst h
    obtain ⟨h1, h2⟩ := decI_ok hl'
    refine ⟨by simp [h1], fun j hj => ?_⟩
    cases j with
    | zero =>
      rw [Nat.add_zero, hg]
      show [AV.int .i64 g] = [AV.int .i64 fun _ => g ()]
      rfl
    | succ j =>
      have := h2 j (by omega)
      rw [show i + (j + 1) = i + 1 + j from by omega, this]
      rfl

/-- slices.Sort of an array that has grown. -/
def sortO (f : FuncId) (xs : List AV) (h : List Blk) : Option (AV × List Blk) := if eqN f 102 then (match xs with
    | [.gsl id n'] => (match h[id]? with
      | some (.gar 1 n F) => if n' () = n () ∧ 1 ≤ n () ∧ n () ≤ 12 then (match decI F 0 (n ()).toNat with
        | some l => some (.tup [], h.set id (.fro 1 (fun _ => (l.length : Int)) (lstR encI 0 (isort l))))
        | none => none) else none
      | _ => none)
    | _ => none) else none

theorem sortO_ok {f : FuncId} {xs : List AV} {h : List Blk} {r : AV} {h' : List Blk} (hO : sortO f xs h = some (r, h')) : SC (fun _ => Tryz.prog) f xs h fun r₂ h₂ => r₂ = r ∧ h₂ = h' := by
  unfold sortO at hO
  split at hO
  case isFalse => cases hO
  rename_i hf
  have hf := eqN_ok hf
  subst hf
  split at hO
  case h_2 => cases hO
  rename_i id n'
  split at hO
  case h_2 => cases hO
  rename_i n F hi
  split at hO
  case isFalse => cases hO
  rename_i hn
  obtain ⟨hn1, hn2, hn3⟩ := hn
  split at hO
  case h_2 => cases hO
  rename_i l hl
  simp only [Option.some.injEq, Prod.mk.injEq] at hO
  obtain ⟨rfl, rfl⟩ := hO
  obtain ⟨hl1, hl2⟩ := decI_ok hl
  have hlen : (l.length : Int) = n () := by omega
  have hlt : id < h.length := (List.getElem?_eq_some_iff.1 hi).1
  have H := c115 l n' (by omega) (by omega) (by omega)
  have hsel : sel false [id] h = [.gar 1 n F] := by simp [sel, selGo, hi, subB]
  refine SC.frame [id] (by simp) (by simpa using hlt) (Q := fun r h₂ => r = .tup [] ∧ h₂ = [.fro 1 (fun _ => (l.length : Int)) (lstR encI 0 (isort l))]) ?_ fun r h₂ hp => ?_
  · rw [hsel]
    have hx : [AV.gsl id n'].map (tell false [id] h 5) = [.gsl 0 n'] := by simp [tell, posGo, eqN]
    rw [hx]
    refine SC.to (xs₂ := [.gsl 0 n']) (h₂ := [.gar 1 (fun _ => (l.length : Int)) (lstR encI 0 l)]) (To.of [] ⟨⟨.refl _, trivial⟩, .gar hlen.symm (fun i hi' => ?_), trivial⟩) H
    have := hl2 i (by omega)
    rw [Nat.zero_add] at this
    rw [this]
    simp [lstR]
  · obtain ⟨rfl, rfl⟩ := hp
    exact ⟨rfl, by simp [back, backGo, phi, renB]⟩

theorem runs {O : FuncId → List AV → List Blk → Option (AV × List Blk)} (cfg : FuncId → Bool × Bool) (hO : ∀ f xs h r h', O f xs h = some (r, h') → SC (fun _ => Tryz.prog) f xs h fun r₂ h₂ => r₂ = r ∧ h₂ = h') (n : Nat) {f : FuncId} {xs : List AV} {h : List Blk} {q : AV → List Blk → Bool} {Post : AV → List Blk → Prop}
    (hr : callB ⟨fun f => Tryz.prog.funcs[f]?, fun f => tbF (cfg f).1 (cfg f).2, O⟩ n f xs h q = true) (hq : ∀ r h, q r h = true → Post r h) : SC (fun _ => Tryz.prog) f xs h Post :=
  SC.ofRun (V := ⟨fun f => Tryz.prog.funcs[f]?, fun f => tbF (cfg f).1 (cfg f).2, O⟩) ⟨fun f fn h => ⟨h, by
    have := List.all_eq_true.1 names_ok fn (Array.mem_toList_iff.2 (Array.mem_of_getElem? h))
    simpa using this⟩, fun f => hTF _ _, hO⟩ hm hr hq
end Go.Proofs.YtlcgliadpalgfaaGreat.Vm

/- The chapter's examples, run: facts of calls at given values. -/
namespace Go.Proofs.YtlcgliadpalgfaaGreat.Vm
open Go Go.Proofs Sp
set_option maxRecDepth 100000

def gT (f : FuncId) : Tb := { tb with kp := false, rs := true, gh := bif eqN f 76 then [(5, 3)] else [] }
theorem gT_ok (f : FuncId) : (gT f).Of ((fun _ => Tryz.prog : Unit → Program) ()) := ⟨tbTi_ok, tbUn_ok, tbEq_ok⟩

/-- A call at given values, and its result. -/
structure Fact where
  f : FuncId
  xs : List AV
  r : AV

structure Fact.Ok (a : Fact) : Prop where
  sc : SC (fun _ => Tryz.prog) a.f a.xs [] fun r h => r = a.r ∧ h = []
  hx : ∀ h, a.xs.map (tell false [] h 5) = a.xs
  hr : ∀ m, ren (phi [] m) 5 a.r = a.r

def factO : List Fact → FuncId → List AV → List Blk → Option (AV × List Blk)
  | [], _, _, _ => none
  | a :: l, f, xs, h => (match eqN f a.f && all2 (eqAV 8) xs a.xs with
    | true => some (a.r, h)
    | false => factO l f xs h)
def orO (l : List Fact) (f : FuncId) (xs : List AV) (h : List Blk) : Option (AV × List Blk) := match factO l f xs h with
  | some x => some x
  | none => sortO f xs h

theorem To.imp {xs ys : List AV} {h : List Blk} (he : all2 (eqAV 8) xs ys = true) : To xs h ys h := fun _ R t H hs => by
  obtain ⟨e1, e2⟩ := all2_get he
  exact ⟨R, rfl, H, Ext.refl _ _, RC.le.refl _, hs.1.trans e1, fun i b hi => let ⟨c, h1, h2⟩ := e2 i b hi; (eqAV_ok 8 h2).f _ _ (hs.2 i c h1)⟩

theorem factO_ok : ∀ {l : List Fact}, (∀ a ∈ l, a.Ok) → ∀ {f : FuncId} {xs : List AV} {h : List Blk} {r : AV} {h' : List Blk}, factO l f xs h = some (r, h') → SC (fun _ => Tryz.prog) f xs h fun r₂ h₂ => r₂ = r ∧ h₂ = h'
  | [], _, f, xs, h, r, h', hO => by cases hO
  | a :: l, hl, f, xs, h, r, h', hO => by
    unfold factO at hO
    split at hO
    · rename_i hc
      simp only [Bool.and_eq_true] at hc
      obtain ⟨h1, h2⟩ := hc
      have h1 := eqN_ok h1
      subst h1
      simp only [Option.some.injEq, Prod.mk.injEq] at hO
      obtain ⟨rfl, rfl⟩ := hO
      obtain ⟨k1, k2, k3⟩ := hl a (List.mem_cons_self ..)
      refine SC.to (To.imp h2) (call0 k1 (k2 h) fun r₂ h₂ hp => ?_)
      obtain ⟨rfl, rfl⟩ := hp
      exact ⟨k3 _, by simp [back, backGo]⟩
    · exact factO_ok (fun x hx => hl x (List.mem_cons_of_mem _ hx)) hO

theorem orO_ok {l : List Fact} (hl : ∀ a ∈ l, a.Ok) (f : FuncId) (xs : List AV) (h : List Blk) (r : AV) (h' : List Blk) (hO : orO l f xs h = some (r, h')) : SC (fun _ => Tryz.prog) f xs h fun r₂ h₂ => r₂ = r ∧ h₂ = h' := by
  unfold orO at hO
  split at hO
  · rename_i x hx
    cases hO
    exact factO_ok hl hx
  · exact sortO_ok hO

theorem runF {l : List Fact} (hl : ∀ a ∈ l, a.Ok) (n : Nat) {f : FuncId} {xs : List AV} {q : AV → List Blk → Bool} {Post : AV → List Blk → Prop}
    (hr : callB ⟨fun f => Tryz.prog.funcs[f]?, gT, orO l⟩ n f xs [] q = true) (hq : ∀ r h, q r h = true → Post r h) : SC (fun _ => Tryz.prog) f xs [] Post :=
  SC.ofRun (V := ⟨fun f => Tryz.prog.funcs[f]?, gT, orO l⟩) ⟨fun f fn h => ⟨h, by
    have := List.all_eq_true.1 names_ok fn (Array.mem_toList_iff.2 (Array.mem_of_getElem? h))
    simpa using this⟩, gT_ok, orO_ok hl⟩ hm hr hq

theorem fact (l : List Fact) (hl : ∀ a ∈ l, a.Ok) (a : Fact) (hx : ∀ h, a.xs.map (tell false [] h 5) = a.xs) (hr : ∀ m, ren (phi [] m) 5 a.r = a.r)
    (hrun : callB ⟨fun f => Tryz.prog.funcs[f]?, gT, orO l⟩ 4000 a.f a.xs [] (fun r h => h.isEmpty && all2 (eqAV 8) [r] [a.r]) = true) : a.Ok :=
  ⟨SC.less (runF hl 4000 hrun fun r h hq => by
    simp only [Bool.and_eq_true, List.isEmpty_iff] at hq
    obtain ⟨rfl, h2⟩ := hq
    exact ⟨a.r, [], To.imp h2, rfl, rfl⟩), hx, hr⟩

theorem noF : ∀ a ∈ ([] : List Fact), a.Ok := fun a h => by cases h
theorem consF {a : Fact} {l : List Fact} (h : a.Ok) (hl : ∀ a ∈ l, a.Ok) : ∀ b ∈ a :: l, b.Ok := fun b hb => by
  rcases List.mem_cons.1 hb with rfl | hb
  · exact h
  · exact hl b hb

def sl (s : Nat) (rows : List (List AV)) : AV := .isl s (fun _ => (rows.length : Int)) (fun e => rows.getD (e ()).toNat (rows.headD [])) .none
def forthA : AV := .agg [iA 0, sl 2 [[iA 1560, iA 60]]]
def backA : AV := .agg [iA 60, sl 2 [[iA 3000, iA (-60)]]]
def row (l : List Int) : List AV := l.map iA
def old0 : List AV := [iA 7, iA 127, sl 4 [row [0, 0, 0, 60], row [1, 1, 200, 210], row [2, 1, 300, 0]]]
def new0 : List AV := [iA 7, iA 127, sl 4 [row [0, 0, 0, 90], row [2, 1, 280, 0]]]
def new1 : List AV := [iA 9, iA 127, sl 4 [row [1, 1, 0, 400], row [2, 1, 450, 0]]]
def bookX : AV := .agg [sl 2 [[iA 0, sl 2 [[iA 1560, iA 60]]], [iA 60, sl 2 [[iA 3000, iA (-60)]]]], sl 3 [old0], sl 3 [new0, new1], iA 1, iA 2]
def legsX : AV := sl 3 [row [7, 0, 1], row [9, 1, 2]]
def runA (t : List AV) (day : Int) (l : List (List AV)) : AV := .agg (t ++ [iA day, sl 3 l])

def fCk : Fact := ⟨17, [bookX], iA 0⟩
def fR0 : Fact := ⟨62, [bookX, .agg old0, iA 0], runA old0 0 [row [0, 60, 60], row [1, 140, 150], row [2, 240, 240]]⟩
def fR1 : Fact := ⟨62, [bookX, .agg new0, iA 1], runA new0 1 [row [0, 1530, 1530], row [2, 1660, 1660]]⟩
def fR2 : Fact := ⟨62, [bookX, .agg new1, iA 1], runA new1 1 [row [1, 1780, 1780], row [2, 1830, 1830]]⟩
def fR3 : Fact := ⟨62, [bookX, .agg new0, iA 2], runA new0 2 [row [0, 2910, 2910], row [2, 3160, 3160]]⟩
def fR4 : Fact := ⟨62, [bookX, .agg new1, iA 2], runA new1 2 [row [1, 3280, 3280], row [2, 3330, 3330]]⟩
theorem fR0_ok : fR0.Ok := fact [] noF _ (fun _ => rfl) (fun _ => rfl) (by kernel_rfl)
theorem fR1_ok : fR1.Ok := fact [] noF _ (fun _ => rfl) (fun _ => rfl) (by kernel_rfl)
theorem fR2_ok : fR2.Ok := fact [] noF _ (fun _ => rfl) (fun _ => rfl) (by kernel_rfl)
theorem fR3_ok : fR3.Ok := fact [] noF _ (fun _ => rfl) (fun _ => rfl) (by kernel_rfl)
theorem fR4_ok : fR4.Ok := fact [] noF _ (fun _ => rfl) (fun _ => rfl) (by kernel_rfl)
theorem fCk_ok : fCk.Ok := fact [] noF _ (fun _ => rfl) (fun _ => rfl) (by kernel_rfl)
def runsF : List Fact := [fR0, fR1, fR2, fR3, fR4]
theorem runsF_ok : ∀ a ∈ runsF, a.Ok := consF fR0_ok (consF fR1_ok (consF fR2_ok (consF fR3_ok (consF fR4_ok noF))))
def fL0 : Fact := ⟨76, [bookX, .agg (row [7, 0, 1])], sl 3 [row [0, 60, 140]]⟩
def fL1 : Fact := ⟨76, [bookX, .agg (row [9, 1, 2])], sl 3 [row [1, 1780, 1830], row [2, 3280, 3330]]⟩
theorem fL0_ok : fL0.Ok := fact runsF runsF_ok _ (fun _ => rfl) (fun _ => rfl) (by kernel_rfl)
theorem fL1_ok : fL1.Ok := fact runsF runsF_ok _ (fun _ => rfl) (fun _ => rfl) (by kernel_rfl)
end Go.Proofs.YtlcgliadpalgfaaGreat.Vm

/- The chapter's examples, run: they have their results. -/
namespace Go.Proofs.YtlcgliadpalgfaaGreat.Vm
open Go Go.Proofs Sp
set_option maxRecDepth 100000

def okA : AV := iA 0
def fT : Fact := ⟨73, [bookX, legsX, iA 0], .tup [sl 3 [row [0, 60, 140], row [1, 1780, 1830]], .bool fun _ => true]⟩
theorem fT_ok : fT.Ok := fact [fL0, fL1] (consF fL0_ok (consF fL1_ok noF)) _ (fun _ => rfl) (fun _ => rfl) (by kernel_rfl)
def fTrip : Fact := ⟨24, [bookX, legsX, iA 0], .tup [sl 3 [row [0, 60, 140], row [1, 1780, 1830]], iA 0]⟩
theorem fTrip_ok : fTrip.Ok := fact [fT, fCk] (consF fT_ok (consF fCk_ok noF)) _ (fun _ => rfl) (fun _ => rfl) (by kernel_rfl)
def fRun : Fact := ⟨15, [bookX, iA 7, iA 2], .tup [sl 3 [row [0, 2910, 2910], row [2, 3160, 3160]], iA 0]⟩
theorem fRun_ok : fRun.Ok := fact [fR3, fCk] (consF fR3_ok (consF fCk_ok noF)) _ (fun _ => rfl) (fun _ => rfl) (by kernel_rfl)
def fSk : Fact := ⟨41, [forthA], .tup [sl 2 [row [1560, 1619]], iA 0]⟩
theorem fSk_ok : fSk.Ok := fact [] noF _ (fun _ => rfl) (fun _ => rfl) (by kernel_rfl)
def fWhen : Fact := ⟨37, [backA, iA 2, iA 130], .tup [sl 1 [row [2950], row [3010]], iA 0]⟩
theorem fWhen_ok : fWhen.Ok := fact [] noF _ (fun _ => rfl) (fun _ => rfl) (by kernel_rfl)
def fHour : Fact := ⟨39, [forthA, iA 1, iA 130, iA 0], .tup [iA 1560, iA 0]⟩
theorem fHour_ok : fHour.Ok := fact [] noF _ (fun _ => rfl) (fun _ => rfl) (by kernel_rfl)
def bT : AV := .bool fun _ => true
def lit (s : Nat) (rows : List (List AV)) : AV := .isl s (fun _ => (rows.length : Int)) (fun e => rows.getD (e ()).toNat (rows.headD [])) .exact
def e39 : Fact := ⟨19, [sl 1 [row [2950], row [3010]], lit 1 [row [2950], row [3010]]], bT⟩
theorem e39_ok : e39.Ok := fact [] noF _ (fun _ => rfl) (fun _ => rfl) (by kernel_rfl)
def e35 : Fact := ⟨44, [sl 2 [row [1560, 1619]], lit 2 [row [1560, 1619]]], bT⟩
theorem e35_ok : e35.Ok := fact [] noF _ (fun _ => rfl) (fun _ => rfl) (by kernel_rfl)
def e27 : Fact := ⟨20, [sl 3 [row [0, 2910, 2910], row [2, 3160, 3160]], lit 3 [row [0, 2910, 2910], row [2, 3160, 3160]]], bT⟩
theorem e27_ok : e27.Ok := fact [] noF _ (fun _ => rfl) (fun _ => rfl) (by kernel_rfl)
def e65 : Fact := ⟨30, [sl 3 [row [0, 60, 140], row [1, 1780, 1830]], lit 3 [row [0, 60, 140], row [1, 1780, 1830]]], bT⟩
theorem e65_ok : e65.Ok := fact [] noF _ (fun _ => rfl) (fun _ => rfl) (by kernel_rfl)
end Go.Proofs.YtlcgliadpalgfaaGreat.Vm

/- The chapter's examples: the function ticking returns true. -/
namespace Go.Proofs.YtlcgliadpalgfaaGreat.Vm
open Go Go.Proofs Sp
set_option maxRecDepth 100000
set_option maxHeartbeats 4000000

def f61 : Fact := ⟨38, [], backA⟩
theorem f61_ok : f61.Ok := fact [] noF _ (fun _ => rfl) (fun _ => rfl) (by kernel_rfl)
def f62 : Fact := ⟨40, [], forthA⟩
theorem f62_ok : f62.Ok := fact [] noF _ (fun _ => rfl) (fun _ => rfl) (by kernel_rfl)
def f63 : Fact := ⟨42, [], bookX⟩
theorem f63_ok : f63.Ok := fact [] noF _ (fun _ => rfl) (fun _ => rfl) (by kernel_rfl)
def f64 : Fact := ⟨43, [], legsX⟩
theorem f64_ok : f64.Ok := fact [] noF _ (fun _ => rfl) (fun _ => rfl) (by kernel_rfl)
end Go.Proofs.YtlcgliadpalgfaaGreat.Vm

/- The chapter's examples: the function ticking returns true. -/
namespace Go.Proofs.YtlcgliadpalgfaaGreat.Vm
open Go Go.Proofs Sp
set_option maxRecDepth 100000
set_option maxHeartbeats 4000000
theorem c18 : SC (fun _ => Tryz.prog) 7 [] [] fun r h => r = .bool (fun _ => true) ∧ h = [] := by
  obtain ⟨n1, F1, e1⟩ : ∃ n F, sl 1 [row [2950], row [3010]] = .isl 1 n F .none := ⟨_, _, rfl⟩
  obtain ⟨n2, F2, e2⟩ : ∃ n F, sl 2 [row [1560, 1619]] = .isl 2 n F .none := ⟨_, _, rfl⟩
  obtain ⟨n3, F3, e3⟩ : ∃ n F, sl 3 [row [0, 2910, 2910], row [2, 3160, 3160]] = .isl 3 n F .none := ⟨_, _, rfl⟩
  obtain ⟨n4, F4, e4⟩ : ∃ n F, sl 3 [row [0, 60, 140], row [1, 1780, 1830]] = .isl 3 n F .none := ⟨_, _, rfl⟩
  have k44 := fWhen_ok.sc
  have k46 := fHour_ok.sc
  have k31 := fSk_ok.sc
  have k26 := fRun_ok.sc
  have k19 := fTrip_ok.sc
  have k39 := e39_ok.sc
  have k35 := e35_ok.sc
  have k27 := e27_ok.sc
  have k65 := e65_ok.sc
  simp only [fWhen, fHour, fSk, fRun, fTrip, e39, e35, e27, e65, e1, e2, e3, e4] at k44 k46 k31 k26 k19 k39 k35 k27 k65
  refine con Tryz.func7 (body := bodyOf Tryz.f7) rfl (by decide +kernel) ?_
  cbv
  refine call0 f61_ok.sc rfl fun r h2 hp => ?_
  obtain ⟨rfl, rfl⟩ := hp
  cbv
  refine call0 k44 rfl fun r h2 hp => ?_
  obtain ⟨rfl, rfl⟩ := hp
  cbv
  refine call0 f62_ok.sc rfl fun r h2 hp => ?_
  obtain ⟨rfl, rfl⟩ := hp
  cbv
  refine call0 k46 rfl fun r h2 hp => ?_
  obtain ⟨rfl, rfl⟩ := hp
  cbv
  refine call0 f62_ok.sc rfl fun r h2 hp => ?_
  obtain ⟨rfl, rfl⟩ := hp
  cbv
  refine call0 k31 rfl fun r h2 hp => ?_
  obtain ⟨rfl, rfl⟩ := hp
  cbv
  refine call0 f63_ok.sc rfl fun r h2 hp => ?_
  obtain ⟨rfl, rfl⟩ := hp
  cbv
  refine call0 k26 rfl fun r h2 hp => ?_
  obtain ⟨rfl, rfl⟩ := hp
  cbv
  refine call0 f63_ok.sc rfl fun r h2 hp => ?_
  obtain ⟨rfl, rfl⟩ := hp
  cbv
  refine call0 f64_ok.sc rfl fun r h2 hp => ?_
  obtain ⟨rfl, rfl⟩ := hp
  cbv
  refine call0 k19 rfl fun r h2 hp => ?_
  obtain ⟨rfl, rfl⟩ := hp
  cbv
  simp only [beq_self_eq_true, cond_true, cond_false, decide_true, imp_self, and_self]
  refine Chk.mk (okC_ok rfl) (Br.isT rfl ?_)
  cbv
  refine Chk.mk (okC_ok rfl) (call0 k39 rfl fun r h2 hp => ?_)
  obtain ⟨rfl, rfl⟩ := hp
  cbv
  simp only [beq_self_eq_true, cond_true, cond_false, decide_true, imp_self, and_self]
  refine Chk.mk (okC_ok rfl) (Br.isT rfl ?_)
  cbv
  simp only [beq_self_eq_true, cond_true, cond_false, decide_true, imp_self, and_self]
  refine Chk.mk (okC_ok rfl) (call0 k35 rfl fun r h2 hp => ?_)
  obtain ⟨rfl, rfl⟩ := hp
  cbv
  simp only [beq_self_eq_true, cond_true, cond_false, decide_true, imp_self, and_self]
  refine Chk.mk (okC_ok rfl) (Br.isT rfl ?_)
  cbv
  simp only [beq_self_eq_true, cond_true, cond_false, decide_true, imp_self, and_self]
  refine Chk.mk (okC_ok rfl) (call0 k27 rfl fun r h2 hp => ?_)
  obtain ⟨rfl, rfl⟩ := hp
  cbv
  simp only [beq_self_eq_true, cond_true, cond_false, decide_true, imp_self, and_self]
  refine Chk.mk (okC_ok rfl) (Br.isT rfl ?_)
  cbv
  simp only [beq_self_eq_true, cond_true, cond_false, decide_true, imp_self, and_self]
  refine Chk.mk (okC_ok rfl) (call0 k65 rfl fun r h2 hp => ?_)
  obtain ⟨rfl, rfl⟩ := hp
  cbv
  simp only [beq_self_eq_true, cond_true, cond_false, decide_true, imp_self, and_self]
end Go.Proofs.YtlcgliadpalgfaaGreat.Vm

/- The statement ClockFirst: before Hour a clock does not read so late an hour from after on, and at it it does. -/
namespace Go.Proofs.YtlcgliadpalgfaaGreat.Vm
open Go Go.Proofs Sp
set_option maxRecDepth 100000
set_option maxHeartbeats 800000

theorem made_valid {k : Int} {z : Zone} (h : ZMade k z) (hk : k ≤ 3) : checkZone z = 0 := by
  have hb := h.base
  have hl := h.len
  unfold checkZone
  rw [if_neg (by simp [inB]; omega), if_neg (by omega)]
  have key : ∀ (l : List Chg) (p : Option Int), (∀ c ∈ l, 0 ≤ c.at_ ∧ c.at_ ≤ 43200 ∧ ByOk c.by_) → l.Pairwise (fun a b => a.at_ < b.at_) → (∀ a, p = some a → ∀ c ∈ l, a < c.at_) → chkChs p l = 0 := by
    intro l
    induction l with
    | nil => intro p _ _ _; exact chkChs_nil p
    | cons c l ih =>
      intro p h1 h2 h3
      obtain ⟨b1, b2, b3⟩ := h1 c (List.mem_cons_self ..)
      have hle : leP p c.at_ = false := by
        cases p with
        | none => rfl
        | some a => have := h3 a rfl c (List.mem_cons_self ..); simp [leP]; omega
      rw [chkChs_cons, if_neg (by simp [inB]; omega), hle]
      unfold ByOk at b3
      have h4 : (!inB c.by_ (-180) 180 || decide (c.by_ = 0)) = false := by
        have g1 : inB c.by_ (-180) 180 = true := by simp [inB]; omega
        have g2 : decide (c.by_ = 0) = false := by simp; omega
        rw [g1, g2]; rfl
      rw [h4]
      simp only [Bool.false_eq_true, if_false]
      exact ih _ (fun x hx => h1 x (List.mem_cons_of_mem _ hx)) (List.pairwise_cons.1 h2).2 (fun a ha x hx => by cases ha; exact (List.pairwise_cons.1 h2).1 x hx)
  refine key _ _ (fun c hc => ?_) h.asc (fun a ha => by cases ha)
  have := h.at_ c hc
  exact ⟨this.1, by omega, h.by_ c hc⟩

theorem made_af {k : Int} {z : Zone} (h : ZMade k z) (hk : k ≤ 3) (t : Int) : -390 ≤ af z.base z.chs t ∧ af z.base z.chs t ≤ 300 := by
  have hb := h.base
  have hl := h.len
  have := af_bd z.chs z.base t 90 60 (fun c hc => by have := h.by_ c hc; unfold ByOk at this; omega) (by omega) (by omega)
  omega

theorem Hour_eq {z : Zone} (hz : checkZone z = 0) {d m a : Int} (hd : -1 ≤ d ∧ d ≤ 31) (hm : 0 ≤ m ∧ m < 1440) (ha : 0 ≤ a ∧ a ≤ 43200) : Hour z d m a = (hour (pieces z) (1440 * d + m) a, 0) := by
  have h1 : checkHour z d m = 0 := by
    unfold checkHour
    rw [if_neg (by omega), if_neg (by simp [inB]; omega)]
  unfold Hour
  rw [if_neg (by omega), if_neg (by simp [inB]; omega)]
theorem When_eq {z : Zone} (hz : checkZone z = 0) {d m : Int} (hd : -1 ≤ d ∧ d ≤ 31) (hm : 0 ≤ m ∧ m < 1440) : When z d m = (when (pieces z) (1440 * d + m), 0) := by
  have h1 : checkHour z d m = 0 := by
    unfold checkHour
    rw [if_neg (by omega), if_neg (by simp [inB]; omega)]
  unfold When
  rw [if_neg (by omega)]

end Go.Proofs.YtlcgliadpalgfaaGreat.Vm

/- Plain: books that are made of numbers are valid. -/
namespace Go.Proofs.YtlcgliadpalgfaaGreat.Vm
open Sp

theorem firstErr_zero {f : Nat → Int} : ∀ {k i : Nat}, (∀ j, i ≤ j → j < i + k → f j = 0) → firstErr f i k = 0
  | 0, _, _ => rfl
  | k + 1, i, h => by
    unfold firstErr
    rw [if_neg (fun hne => hne (h i (Nat.le_refl _) (by omega)))]
    exact firstErr_zero fun j h1 h2 => h j (by omega) (by omega)

theorem inB_of {n a b : Int} (h1 : a ≤ n) (h2 : n ≤ b) : inB n a b = true := by simp [inB, h1, h2]
theorem counted_of {n a b : Int} (h1 : a ≤ n) (h2 : n ≤ b) : counted n a b = 0 := by
  unfold counted
  rw [if_neg (by omega), if_neg (by omega)]

theorem made_stops {zones number : Int} {t : Train} (h : TMade zones 4 number t) : chkStops zones t.stops = 0 := by
  refine firstErr_zero fun j _ hj => ?_
  have hj : j < t.stops.length := by omega
  have hm : t.stops.getD j default ∈ t.stops := by rw [List.getD_eq_getElem?_getD, List.getElem?_eq_getElem hj]; exact List.getElem_mem _
  obtain ⟨h1, h2, h3, h4, h5⟩ := h.stop _ hm
  unfold chkStopAt checkStop
  rw [inB_of h1.1 (by omega)]
  have hany : (t.stops.take j).any (fun x => decide (x.station = (t.stops.getD j default).station)) = false := by
    rw [List.any_eq_false]
    intro x hx
    obtain ⟨i, hi, rfl⟩ := List.mem_iff_getElem.1 hx
    have hi' : i < j := by simp at hi; omega
    have := List.pairwise_iff_getElem.1 h.nodup i j (by omega) hj hi'
    rw [List.getD_eq_getElem?_getD, List.getElem?_eq_getElem hj]
    simpa using this
  rw [hany, inB_of h2.1 (by omega), inB_of h3 (by omega), inB_of (by omega : (0 : Int) ≤ _) h5]
  have hd : decide ((t.stops.getD j default).depart < (t.stops.getD j default).arrive) = false := decide_eq_false (by omega)
  rw [hd]
  simp

theorem made_trains {zones n : Int} {l : List Train} (h : LMade zones n l) (hn : n = l.length) (hl : l.length ≤ 4) : chkTrains zones l = 0 := by
  unfold chkTrains
  have e : counted l.length 0 4 = 0 := counted_of (by omega) (by omega)
  rw [e, if_neg (fun h => h rfl)]
  refine firstErr_zero fun j _ hj => ?_
  have hj : j < l.length := by omega
  have hg : l[j]? = some (l.getD j default) := by rw [List.getD_eq_getElem?_getD, List.getElem?_eq_getElem hj]; rfl
  have ht := h.all j _ hg
  have hlen := ht.len
  unfold chkTrainAt
  rw [inB_of (by rw [ht.number]; omega) (by rw [ht.number]; omega)]
  have hany : (l.take j).any (fun x => decide (x.number = (l.getD j default).number)) = false := by
    rw [List.any_eq_false]
    intro x hx
    obtain ⟨i, hi, rfl⟩ := List.mem_iff_getElem.1 hx
    have hi' : i < j := by simp at hi; omega
    have hx := h.all i _ (List.getElem?_eq_getElem (by omega))
    rw [ht.number, List.getElem_take, hx.number]
    simp
    omega
  rw [hany, inB_of ht.days.1 ht.days.2, counted_of (by omega) (by omega)]
  simp only [Bool.not_true, Bool.false_eq_true, if_false, ne_eq, not_true_eq_false]
  exact made_stops ht

theorem made_check {trains days : Int} {b : Book} (h : BMade trains days b) (ht : trains ≤ 4) (hd : days ≤ 13) : Check b = 0 := by
  obtain ⟨h1, h2, h3, h4, h5, h6, h7, h8⟩ := h
  unfold Check
  rw [counted_of (by omega) (by omega), firstErr_zero (fun j _ hj => made_valid (h2 _ (by rw [List.getD_eq_getElem?_getD, List.getElem?_eq_getElem (by omega)]; exact List.getElem_mem _)) (by omega)), made_trains h5 rfl (by omega), made_trains h6 rfl (by omega), inB_of h7.1 (by omega), inB_of h8.1 h8.2]
  simp

theorem made_fit {trains days : Int} {b : Book} (h : BMade trains days b) (ht : trains ≤ 4) (hd : days ≤ 13) : BookFit b := by
  have hc := book_ok (made_check h ht hd)
  exact ⟨by have := hc.zlen; omega, by have := hc.olen; omega, by have := hc.nlen; omega, fun z hz => by have := (asc_of (hc.zones z hz)).2.2.1; omega, ⟨fun t ht => by have := (hc.old t ht).len; omega, fun t ht => by have := (hc.new t ht).len; omega⟩⟩

/-- An hour's instant is not late. -/
theorem hour_le {z : Zone} (hz : checkZone z = 0) (haf : ∀ t, -390 ≤ af z.base z.chs t ∧ af z.base z.chs t ≤ 300) {r after : Int} (hr : r ≤ 1000000) (ha : 0 ≤ after ∧ after ≤ 1000000) :
    hour (pieces z) r after ≤ max after (r + 391) := by
  obtain ⟨g1, g2, g3⟩ := hour_eq hz hr ha
  by_cases h : hour (pieces z) r after ≤ max after (r + 391)
  · exact h
  · have := g3 (hour (pieces z) r after - 1) (by omega) (by omega)
    have := haf (hour (pieces z) r after - 1)
    omega
end Go.Proofs.YtlcgliadpalgfaaGreat.Vm

/- Plain: printed hours are kept. -/
namespace Go.Proofs.YtlcgliadpalgfaaGreat.Vm
open Sp

/-- Whether an event that is due at a reading can be at an instant, if the one before was at another one. -/
structure KeptAt (z : Zone) (due before at_ : Int) : Prop where
  lo : before ≤ at_
  hi : 0 ≤ at_ ∧ at_ ≤ 24000
  r : due ≤ at_ + af z.base z.chs at_
  f : at_ = before ∨ at_ - 1 + af z.base z.chs (at_ - 1) < due

def KeptL (zs : List Zone) (day : Int) (many : Nat) : Nat → Int → List Stop → List Sp.Call → Prop
  | _, _, [], C => C = []
  | _, _, _ :: _, [] => False
  | i, now, s :: r, c :: C => c.station = s.station ∧ (i = 0 → c.arrive = c.depart) ∧ (0 < i → KeptAt (zs.getD s.zone.toNat default) (1440 * day + s.arrive) now c.arrive) ∧
      (i + 1 < many → KeptAt (zs.getD s.zone.toNat default) (1440 * day + s.depart) (if i = 0 then 0 else c.arrive) c.depart) ∧ (¬ i + 1 < many → c.depart = c.arrive) ∧ KeptL zs day many (i + 1) c.depart r C

theorem keptAt_hour {z : Zone} (hz : ZMade 2 z) {due before : Int} (hd : due ≤ 23100) (hb : 0 ≤ before ∧ before ≤ 24000) : KeptAt z due before (hour (pieces z) due before) := by
  have hv := made_valid hz (by omega)
  have haf := made_af hz (by omega)
  obtain ⟨g1, g2, g3⟩ := hour_eq hv (r := due) (after := before) (by omega) (by omega)
  have hle := hour_le hv haf (r := due) (after := before) (by omega) (by omega)
  refine ⟨g1, by omega, g2, ?_⟩
  by_cases h : hour (pieces z) due before = before
  · exact .inl h
  · exact .inr (g3 _ (by omega) (by omega))

theorem kept_calls {zs : List Zone} (hz : ∀ z ∈ zs, ZMade 2 z) {day : Int} (hd : 0 ≤ day ∧ day ≤ 13) {many : Nat} (hm : 2 ≤ many) : ∀ (S : List Stop) (i : Nat) (now : Int), (∀ s ∈ S, StopOk zs.length s) → i + S.length = many → (i = 0 → now = 0) → 0 ≤ now ∧ now ≤ 24000 → KeptL zs day many i now S (callsGo zs day many i now S)
  | [], i, now, _, _, _, _ => rfl
  | s :: r, i, now, hS, hi, h0, hn => by
    have hs := hS s (List.mem_cons_self ..)
    have hzm : ZMade 2 (zs.getD s.zone.toNat default) := hz _ (by
      have := hs.zone
      rw [List.getD_eq_getElem?_getD, List.getElem?_eq_getElem (by omega)]; exact List.getElem_mem _)
    have ha := hs.arrive
    have hdp := hs.depart
    have ih := fun now' hn' => kept_calls hz hd hm r (i + 1) now' (fun x hx => hS x (List.mem_cons_of_mem _ hx)) (by simp only [List.length_cons] at hi; omega) (fun h => by omega) hn'
    unfold callsGo
    by_cases hi0 : i = 0
    · have hnow := h0 hi0
      subst hi0 hnow
      rw [if_pos rfl]
      have hk := keptAt_hour hzm (due := 1440 * day + s.depart) (before := 0) (by omega) (by omega)
      simp only [KeptL]
      rw [if_pos (by omega)]
      exact ⟨trivial, fun _ => trivial, fun h => by omega, fun _ => by simpa using hk, fun h => by omega, ih _ hk.hi⟩
    · rw [if_neg hi0]
      have hka := keptAt_hour hzm (due := 1440 * day + s.arrive) (before := now) (by omega) hn
      simp only [KeptL]
      by_cases hl : i + 1 < many
      · rw [if_pos hl, if_neg hi0]
        have hkd := keptAt_hour hzm (due := 1440 * day + s.depart) (by omega) hka.hi
        exact ⟨trivial, fun h => absurd h hi0, fun _ => hka, fun _ => hkd, fun h => absurd hl h, ih _ hkd.hi⟩
      · rw [if_neg hl]
        exact ⟨trivial, fun h => absurd h hi0, fun _ => hka, fun h => absurd h hl, fun _ => rfl, ih _ hka.hi⟩
end Go.Proofs.YtlcgliadpalgfaaGreat.Vm

/- The abstract machine: the rounds of a range over a function, in direct style. -/
namespace Go.Proofs.YtlcgliadpalgfaaGreat.Vm
open Go Go.Proofs
section
variable {T : Tb} {p : Unit → Program} {P : Program}
theorem YC.ofG (hT : T.Of (p ())) (hm : (p ()).follows .mixedOrders = true) (hrd : T.rd = true) {id : Nat} {xs : List AV} {h : List Blk} {Post : AV → List Blk → Prop} {s : List AV} {d : LoopD} {n m : Nat} {D : List AV → List Blk → Prop} (hD : ∀ s h₂, D s h₂ → W T p (endK h.length id Post) m [.code d.x] s h₂ []) (hi : h[id]? = some (.loop s d)) (hlen : xs.length = d.ps.size)
    (hW : W T p (begK D id) n [.code d.a] (putPs d.ps.toList xs s) h []) : YC p id xs h Post := by
  have hKe : ∀ e s h' c, endK h.length id Post e s h' c → allc c := fun e s h' c hk => by cases e <;> exact (chk_ok hk).1
  have hKb : ∀ e s h' c, begK D id e s h' c → allc c := fun e s h' c hk => by
    cases e with
    | normal => exact (chk_ok hk).1
    | _ => exact hk.elim
  refine ⟨fun G R vs H ha => ?_⟩
  obtain ⟨ha1, ha2⟩ := ha
  obtain ⟨l, b1, b2, b3, b4, b5, b6, b7, _⟩ := H.loopSet hi
  have hid : id < R.m := H.len ▸ (List.getElem?_eq_some_iff.1 hi).1
  have hsz : vs.size = l.params.size := by rw [b2, ← hlen, ha1]
  refine ⟨_, _, _, _, run_yield b1 hsz, fun c cs => ?_⟩
  let b : FBr T.rd := ⟨⟨l.fn, .normal, some (R.α id).b⟩, fun hf => by rw [hrd] at hf; cases hf⟩
  have hsl : SL R (putPs d.ps.toList xs s) ((l.params.zip vs).foldl (fun tmps (t, a) => tmps.setIfInBounds t a) l.tmps) := by
    rw [← Array.foldl_toList, Array.toList_zip, b2]
    exact putPs_ok _ _ _ (by rw [ha1]; simp) (fun j c hj => by
      have := ha2 j c hj
      rw [Array.getD_eq_getD_getElem?] at this
      rw [List.getD_eq_getElem?_getD, Array.getElem?_toList]
      exact this) b7
  obtain ⟨e, s1, h1, R1, t1, ds1, ⟨c1, hk1⟩, i1, x1, l1, sl1, d1, eq1, A1⟩ := (W_ok (R₀ := R) (h₀ := h) hT hm hKb n _ _ h [] hW).2 R _ (Inv.refl H) hsl b [] [.beginRound, .code d.x] (c :: cs) ⟨[], rfl, List.nodup_nil, fun r hr => by cases hr⟩
  cases e with
  | exit _ => exact hk1.elim
  | ret => exact hk1.elim
  | normal =>
  have eq1 := eq1 (by simp [b])
  subst eq1
  obtain ⟨_, hk1⟩ := chk_ok hk1
  split at hk1
  case h_2 => exact hk1.elim
  rename_i s2 d2 hi1
  obtain ⟨l2, e1, e2, e3, e4, e5, e6, e7, e8⟩ := i1.hr.loopSet hi1
  have hα1 : R1.α id = R.α id := x1.α id hid
  split at hk1
  case h_2 => exact hk1.elim
  rename_i hst
  obtain ⟨R2, w2, α2, H2, x2, l2le⟩ := e8 .busy d2.pe
  have hbeg : (Instr.beginRound (R.α id).b).run (p ()) R1.w = .ok () R2.w := by
    rw [w2, ← hα1, ← e6]
    exact run_beginRound e1 (e5.trans hst)
  have i2 : Inv R h R2 (h1.set id (.loop s2 { d2 with st := .busy })) := i1.step H2 x2 l2le
  obtain ⟨e, s3, h3, R3, t3, ds3, ⟨c3, hk3⟩, i3, x3, l3, sl3, d3, eq3, A3⟩ := (W_ok (R₀ := R) (h₀ := h) hT hm hKe m _ _ _ [] (hD _ _ hk1)).2 R2 _ i2 (sl1.mono l2le) b [] [] (c :: cs) (d1.ext i1.hr x2)
  have st1 : Steps (p ()) (lone (Frame.round (R.α id).b l.fn ((l.params.zip vs).foldl (fun tmps (t, a) => tmps.setIfInBounds t a) l.tmps) l.assign l.body .normal) (c :: cs) R.w) (lone (mkF b.1 t1 [] [.code d.x]) (c :: cs) R2.w) := by
    have hfr : Frame.round (R.α id).b l.fn ((l.params.zip vs).foldl (fun tmps (t, a) => tmps.setIfInBounds t a) l.tmps) l.assign l.body .normal = mkF b.1 ((l.params.zip vs).foldl (fun tmps (t, a) => tmps.setIfInBounds t a) l.tmps) [] ([.code d.a] ++ [.beginRound, .code d.x]) := by
      rw [← b3, ← b4]; rfl
    rw [hfr]
    refine Steps.trans A1 (.one ?_)
    rw [mkF_atR, mkF_atR]
    exact stepR_beginRound (b := { (default : Frame) with fn := b.1.fn, kind := b.1.kind, roundOf := b.1.roundOf }) rfl hbeg
  have fin : ∀ (j : Option Code), endRd h.length id j Post h3 → (∀ v w', (Instr.endRound (R.α id).b j).run (p ()) R3.w = .ok v w' → Steps (p ()) (lone (mkF b.1 t1 [] [.code d.x]) (c :: cs) R2.w) (lone (c.finish v) cs w')) →
      ∃ v R' r h', Steps (p ()) (lone (Frame.round (R.α id).b l.fn ((l.params.zip vs).foldl (fun tmps (t, a) => tmps.setIfInBounds t a) l.tmps) l.assign l.body .normal) (c :: cs) R.w) (lone (c.finish v) cs R'.w) ∧ HR G R' h' ∧ Ext R h R' h' ∧ R.le R' ∧ VR R' r v ∧ Post r h' := fun j hj hst => by
    unfold endRd at hj
    split at hj
    case h_2 => exact hj.elim
    rename_i s4 d4 hi3
    obtain ⟨l4, f1, f2, f3, f4, f5, f6, f7, f8⟩ := i3.hr.loopSet hi3
    obtain ⟨R4, w4, α4, H4, x4, l4le⟩ := f8 (if j.isNone then .ready else .done) j
    have hα3 : R3.α id = R.α id := i3.ext.α id hid
    have hend : (Instr.endRound (R.α id).b j).run (p ()) R3.w = .ok (.bool j.isNone) R4.w := by
      rw [w4, ← hα3]
      exact run_endRound j f1
    have i4 := i3.step H4 x4 l4le
    obtain ⟨R5, w5, H5, x5, l5, _⟩ := i4.leave H (keeps_range h.length (Nat.le_refl _) (by rw [H.len, i4.hr.len]; exact i4.le.m))
    exact ⟨_, R5, .bool fun _ => j.isNone, _, by rw [w5]; exact Steps.trans st1 (hst _ _ hend), H5, x5, l5, .pure _ _ (.bool _), hj⟩
  cases e with
  | normal =>
    refine fin none (chk_ok hk3).2 fun v w' hr => Steps.trans A3 (.one ?_)
    rw [mkF_atR]
    exact stepR_round_end rfl rfl hr
  | exit i =>
    obtain ⟨pre, q1, q2⟩ := A3
    refine fin (some (.exit i)) (chk_ok hk3).2 fun v w' hr => Steps.trans q2 (.one ?_)
    rw [mkF_atR]
    exact stepR_round_exit rfl rfl (by rw [q1]; rfl) hr
  | ret =>
    obtain ⟨todo, q2⟩ := A3
    refine fin (some .ret) (chk_ok hk3).2 fun v w' hr => Steps.trans q2 (.one ?_)
    rw [mkF_atR]
    exact stepR_round_ret rfl rfl hr


end

/-- The table for rounds. -/
def tbR (kp rs : Bool) (cs : List Nat) : Tb := { tb with kp, rs, cuts := cs, rd := true }
theorem hTR (kp rs : Bool) (cs : List Nat) : (tbR kp rs cs).Of ((fun _ => Tryz.prog : Unit → Program) ()) := ⟨tbTi_ok, tbUn_ok, tbEq_ok⟩

/-- A round: the assignments, then the body. -/
theorem yieldR (kp rs : Bool) (cs : List Nat) {id : Nat} {xs : List AV} {h : List Blk} {Post : AV → List Blk → Prop} {s : List AV} {d : LoopD} (hi : h[id]? = some (.loop s d)) (hlen : xs.length = d.ps.size)
    (hW : Dn (tbR kp rs cs) (fun _ => Tryz.prog) (begK (fun s h₂ => Dn (tbR kp rs cs) (fun _ => Tryz.prog) (endK h.length id Post) 100 .none [.code d.x] s h₂ []) id) 20 .none [.code d.a] (putPs d.ps.toList xs s) h []) : YC (fun _ => Tryz.prog) id xs h Post :=
  YC.ofG (T := tbR kp rs cs) (m := 100 * 4000) (n := 20 * 4000) (D := fun s h₂ => Dn (tbR kp rs cs) (fun _ => Tryz.prog) (endK h.length id Post) 100 .none [.code d.x] s h₂ []) (hTR kp rs cs) hm rfl (fun s h₂ hd => Dn_ok 100 .none _ _ _ _ hd) hi hlen (Dn_ok 20 .none _ _ _ _ hW)

/-- A range over a function that is handed to it. -/
theorem rangeS {f : Operand} {ps : Array Tmp} {a x : Code} {Q : Ex → List AV → List Blk → Prop} {s : List AV} {h : List Blk} {fid : FuncId} {first cap : List AV} (hf : strip (ev s f) = .fn fid first cap) (hc : allc (stripC (ev s f)))
    (H : SC (fun _ => Tryz.prog) fid (first ++ [.yld h.length] ++ cap) (h ++ [.loop s ⟨ps, a, x, .ready, none⟩]) fun _ h' => loopEnd Q s h.length h') : CB (fun _ => Tryz.prog) (.rangeFunc f ps a x) Q s h := CB.of hf hc H

/-- What a round leaves behind, told with less. -/
theorem YC.less {p : Unit → Program} {id : Nat} {xs : List AV} {h : List Blk} {Post : AV → List Blk → Prop} (H : YC p id xs h fun r h' => ∃ r₂ h₂, To [r] h' [r₂] h₂ ∧ Post r₂ h₂) : YC p id xs h Post :=
  ⟨fun G R vs hr ha => let ⟨f, tmps, a, x, h1, h2⟩ := H.run G R vs hr ha; ⟨f, tmps, a, x, h1, fun c cs => by
    obtain ⟨v, R', r, h', b1, b3, b4, b5, b6, r₂, h₂, hto, b7⟩ := h2 c cs
    obtain ⟨R'', c1, c2, c3, c4, c5⟩ := hto G R' #[v] b3 ⟨rfl, fun i a hi => by
      cases i with
      | zero => simp at hi; subst hi; exact b6
      | succ i => simp at hi⟩
    exact ⟨v, R'', r₂, h₂, by rw [c1]; exact b1, c2, b4.trans c3, b5.trans c4, c5.2 0 r₂ rfl, b7⟩⟩⟩

/-- The same, told with less: L: the slots that live; ex: room for slices that are nil; hc: the blocks that are told otherwise. -/
theorem rangeT {f : Operand} {ps : Array Tmp} {a x : Code} {Q : Ex → List AV → List Blk → Prop} {s : List AV} {h : List Blk} (L : List Nat) (ex : List Blk) (hc : List (Nat × Blk)) {fid : FuncId} {first cap : List AV}
    (hto : To s h (Vm.keep L s) (setH (h ++ ex) hc)) (hf : strip (ev (Vm.keep L s) f) = .fn fid first cap) (hcs : allc (stripC (ev (Vm.keep L s) f)))
    (H : SC (fun _ => Tryz.prog) fid (first ++ [.yld (setH (h ++ ex) hc).length] ++ cap) (setH (h ++ ex) hc ++ [.loop (Vm.keep L s) ⟨ps, a, x, .ready, none⟩]) fun _ h' => loopEnd Q (Vm.keep L s) (setH (h ++ ex) hc).length h') : CB (fun _ => Tryz.prog) (.rangeFunc f ps a x) Q s h := CB.to hto (CB.of hf hcs H)

/-- A loop inside a round. -/
theorem loopR (kp rs : Bool) (cs : List Nat) {x : Code} {Q : Ex → List AV → List Blk → Prop} {s : List AV} {h : List Blk} {ι : Type} (L : List Nat) (ex : List Blk) (ch : ι → List (Nat × AV)) (hc : ι → List (Nat × Blk)) (inv : ι → Prop) (μ : ι → Nat) (i : ι)
    (hi : inv i) (hto : To (Vm.keep L s) h (setS (Vm.keep L s) (ch i)) (setH (h ++ ex) (hc i)))
    (step : ∀ i, inv i → Dn (tbR kp rs cs) (fun _ => Tryz.prog) (indK L (fun i => setS (Vm.keep L s) (ch i)) (fun i => setH (h ++ ex) (hc i)) inv μ i (h ++ ex).length Q) 100 .none [.code x] (setS (Vm.keep L s) (ch i)) (setH (h ++ ex) (hc i)) []) : LP true (fun _ => Tryz.prog) x Q s h :=
  LP.indD (T := tbR kp rs cs) (hTR kp rs cs) hm L (fun i => setS (Vm.keep L s) (ch i)) (fun i => setH (h ++ ex) (hc i)) inv μ i (h ++ ex).length (fun _ => setH_length _ _) hi hto step
end Go.Proofs.YtlcgliadpalgfaaGreat.Vm

/- Contracts: ranges over runs. -/
namespace Go.Proofs.YtlcgliadpalgfaaGreat.Vm
open Go Go.Proofs Sp
set_option maxRecDepth 100000
set_option maxHeartbeats 1600000

def bookI (b : Book) : AV := .iptr [lst 2 encZone default b.zones, lst 3 encTrain default b.old, lst 3 encTrain default b.new, .int .i64 fun _ => b.night, .int .i64 fun _ => b.last] 0

theorem c86 (b : Book) : SC (fun _ => Tryz.prog) 52 [bookA b] [] fun v h => v = .fn 91 [] [bookI b] ∧ h = [] := by
  unfold bookA bookI
  refine con Tryz.func52 (body := bodyOf Tryz.f52) rfl (by decide +kernel) ?_
  (cbv; (try simp only [nc] at *); (try refine Chk.mk (okc) ?_))
  (try first | exact ⟨rfl, trivial⟩ | exact ⟨trivial, trivial⟩)

/-- The runs of the days ahead of d. -/
def runsTo (b : Book) (d : Nat) : List (Train × Int) := (List.range d).flatMap fun (k : Nat) => ((table b k).filter fun t => starts t k).map fun t => (t, (k : Int))
def runsIn (b : Book) (d i : Nat) : List (Train × Int) := (((table b d).take i).filter fun t => starts t d).map fun t => (t, (d : Int))

theorem runsIn_zero (b : Book) (d : Nat) : runsIn b d 0 = [] := by simp [runsIn]
theorem runsTo_zero (b : Book) : runsTo b 0 = [] := by simp [runsTo]
theorem runsTo_succ (b : Book) (d : Nat) : runsTo b (d + 1) = runsTo b d ++ runsIn b d (table b d).length := by
  unfold runsTo runsIn
  rw [List.range_succ, List.flatMap_append]
  simp
theorem tabOk {b : Book} (h : BookOk b) {t : Train} {day : Int} (ht : t ∈ table b day) : TrainOk b.zones.length t := by
  unfold table at ht
  split at ht
  · exact h.old t ht
  · exact h.new t ht
theorem TrainOk.fit {n : Int} {t : Train} (h : TrainOk n t) : ∀ s ∈ t.stops, (0 ≤ s.zone ∧ s.zone < n) ∧ (0 ≤ s.arrive ∧ s.arrive ≤ 10000) ∧ 0 ≤ s.depart ∧ s.depart ≤ 10000 := fun s hs => by
  have := h.stops s hs
  have h1 := this.zone
  have h2 := this.arrive
  have h3 := this.depart
  omega

theorem runsIn_len (b : Book) (d i : Nat) : (runsIn b d i).length ≤ i := by
  unfold runsIn
  rw [List.length_map]
  exact Nat.le_trans (List.length_filter_le _ _) (by rw [List.length_take]; omega)
theorem runsTo_len {b : Book} (h : BookOk b) : ∀ d, (runsTo b d).length ≤ 4 * d
  | 0 => by simp [runsTo]
  | d + 1 => by
    have h1 := runsTo_len h d
    have h2 := runsIn_len b d (table b d).length
    have h3 := (table_ok h (d : Int)).1
    rw [runsTo_succ, List.length_append]
    omega

/-- What hands out the runs, in a caller's heap of three blocks. -/
theorem c117 (b : Book) (hlast : 0 ≤ b.last ∧ b.last ≤ 100) (hok : BookOk b) (s : List AV) (ps : Array Tmp) (a x : Code) (B0 B1 B2 : List (Train × Int) → Blk)
    (hs : ∀ acc, sel true [0, 1, 2, 3] [B0 acc, B1 acc, B2 acc, .loop s ⟨ps, a, x, .ready, none⟩] = [B0 acc, B1 acc, B2 acc, .loop s ⟨ps, a, x, .ready, none⟩])
    (hs5 : ∀ acc t, sel true [0, 1, 2, 3] [B0 acc, B1 acc, B2 acc, .loop s ⟨ps, a, x, .ready, none⟩, .cells (encTrain t)] = [B0 acc, B1 acc, B2 acc, .loop s ⟨ps, a, x, .ready, none⟩])
    (hy : ∀ acc t (day : Int), acc.length ≤ 1000 → t ∈ table b day → starts t day = true → 0 ≤ day ∧ day ≤ b.last → YC (fun _ => Tryz.prog) 3 [runV t day (calls b.zones t day)] [B0 acc, B1 acc, B2 acc, .loop s ⟨ps, a, x, .ready, none⟩, .cells (encTrain t)] fun v h => v = .bool (fun _ => true) ∧ h = [B0 (acc ++ [(t, day)]), B1 (acc ++ [(t, day)]), B2 (acc ++ [(t, day)]), .loop s ⟨ps, a, x, .ready, none⟩, .cells (encTrain t)]) :
    SC (fun _ => Tryz.prog) 91 [.yld 3, bookI b] [B0 [], B1 [], B2 [], .loop s ⟨ps, a, x, .ready, none⟩] fun v h => h = [B0 (runsTo b (b.last + 1).toNat), B1 (runsTo b (b.last + 1).toNat), B2 (runsTo b (b.last + 1).toNat), .loop s ⟨ps, a, x, .ready, none⟩] := by
  obtain ⟨nt, hnt⟩ := nth_ex
  unfold bookI
  refine con Tryz.func91 (body := bodyOf Tryz.f91) rfl (by decide +kernel) ?_
  (cbv; (try simp only [nc] at *); (try refine Chk.mk (okc) ?_))
  refine loopS false false [] [0, 1, 8, 9] [] (fun (i : Nat) => [(9, .int .i64 fun _ => (i : Int))]) (fun i => [(0, B0 (runsTo b i)), (1, B1 (runsTo b i)), (2, B2 (runsTo b i))]) (fun i => (i : Int) ≤ b.last + 1) (fun i => (b.last + 1).toNat - i + 0) 0 (by omega) ?_ ?_
  · (refine To.of [] ?_; cbv; (try simp only [nc]); (repeat' (first | exact trivial | exact WkN.refl _ | exact WkB.refl _ | refine ⟨?_, ?_⟩ | refine WkB.cells ?_ | refine WkN.agg ?_ | refine WkN.tup ?_)); (all_goals (first | exact okt | skip)))
  rintro i hi
  (cbv; (try simp only [nc] at *); (try refine Chk.mk (okc) ?_))
  refine ⟨fun hb => ?_, fun hb => ?_⟩
  · simp only [decide_eq_true_eq] at hb
    (cbv; (try simp only [nc] at *); (try refine Chk.mk (okc) ?_))
    have k73 := c73 b i
    simp only [lst_nt hnt] at k73
    refine call0 (k73) (by first | rfl | (simp only [zoneA, bookA, lst_nt hnt]; rfl)) fun r h₂ hp => ?_
    (try simp only [zoneA, bookA, lst_nt hnt] at hp)
    obtain ⟨rfl, rfl⟩ := hp
    (cbv; (try simp only [nc] at *); (try refine Chk.mk (okc) ?_))
    refine loopQ fun Q hQ => ?_
    refine loopS false false [] [0, 1, 3, 8, 9, 14, 15, 16] [] (fun (j : Nat) => [(16, .int .i64 fun _ => (j : Int))]) (fun j => [(0, B0 (runsTo b i ++ runsIn b i j)), (1, B1 (runsTo b i ++ runsIn b i j)), (2, B2 (runsTo b i ++ runsIn b i j))]) (fun j => j ≤ (table b i).length) (fun j => (table b i).length - j + 0) 0 (by omega) ?_ ?_
    · simp only [runsIn_zero, List.append_nil]
      (refine To.of [] ?_; cbv; (try simp only [nc]); (repeat' (first | exact trivial | exact WkN.refl _ | exact WkB.refl _ | refine ⟨?_, ?_⟩ | refine WkB.cells ?_ | refine WkN.agg ?_ | refine WkN.tup ?_)); (all_goals (first | exact okt | skip)))
    rintro j hj
    (cbv; (try simp only [nc] at *); (try refine Chk.mk (okc) ?_))
    refine ⟨fun hb => ?_, fun hb => ?_⟩
    · simp only [decide_eq_true_eq, Int.ofNat_lt] at hb
      rename_i hbi
      have hmem : nt Train default (table b i) j ∈ table b i := nt_mem hnt hb
      have htk := tabOk hok hmem
      have htl := (table_ok hok (i : Int)).1
      have hl := htk.len
      have hd := htk.days
      have hnx : runsIn b i (j + 1) = runsIn b i j ++ (if starts (nt Train default (table b i) j) i then [(nt Train default (table b i) j, (i : Int))] else []) := by
        unfold runsIn
        rw [nt_take (d := default) hnt hb, List.filter_append, List.map_append]
        congr 1
        by_cases h : starts (nt Train default (table b i) j) i = true
        · simp [h]
        · simp [h]
      have k76 := c76 (nt Train default (table b i) j) i (by omega) (by omega)
      have hy' := hy (runsTo b i ++ runsIn b i j) _ (i : Int) (by have h1 := runsTo_len hok i; have h2 := runsIn_len b i j; rw [List.length_append]; omega) hmem
      have k77 := c77 b (nt Train default (table b i) j) i hok.zones htk.fit (by omega) (by omega)
      generalize calls b.zones (nt Train default (table b i) j) i = C at k77 hy'
      cases hst : starts (nt Train default (table b i) j) i
      rotate_left
      · rw [hst] at hnx k76
        (cbv; (try simp only [nc] at *); (try refine Chk.mk (okc) ?_))
        refine call0 (k76) (by first | rfl | (simp only [zoneA, bookA, lst_nt hnt]; rfl)) fun r h₂ hp => ?_
        (try simp only [zoneA, bookA, lst_nt hnt] at hp)
        obtain ⟨rfl, rfl⟩ := hp
        refine Br.isT rfl ?_
        (cbv; (try simp only [nc] at *); (try refine Chk.mk (okc) ?_))
        refine call0 (k77) (by first | rfl | (simp only [zoneA, bookA, lst_nt hnt]; rfl)) fun r h₂ hp => ?_
        (try simp only [zoneA, bookA, lst_nt hnt] at hp)
        obtain ⟨rfl, rfl⟩ := hp
        (cbv; (try simp only [nc] at *); (try refine Chk.mk (okc) ?_))
        refine Br.isT rfl ?_
        (cbv; (try simp only [nc] at *); (try refine Chk.mk (okc) ?_))
        refine YC.mono (hy' hst ⟨by omega, by omega⟩) ?_
        rintro v h ⟨rfl, rfl⟩
        (cbv; (try simp only [nc] at *); (try refine Chk.mk (okc) ?_))
        refine Br.isF rfl ?_
        (cbv; (try simp only [nc] at *); (try refine Chk.mk (okc) ?_))
        refine ⟨j + 1, by omega, by omega, ?_⟩
        rw [hnx]
        simp only [if_true, ← List.append_assoc]
        have hs' := hs5 (runsTo b i ++ runsIn b i j ++ [(nt Train default (table b i) j, (i : Int))]) (nt Train default (table b i) j)
        cbv at hs'
        simp only [List.cons.injEq, and_true] at hs'
        obtain ⟨e0, e1, e2, e3⟩ := hs'
        (refine To.of [] ?_; cbv; (try simp only [nc]); (repeat' (first | exact trivial | exact WkN.refl _ | exact WkB.refl _ | refine ⟨?_, ?_⟩ | refine WkB.cells ?_ | refine WkN.agg ?_ | refine WkN.tup ?_)); (all_goals (first | exact okt | skip)))
        all_goals first | (rw [e0]; exact WkB.refl _) | (rw [e1]; exact WkB.refl _) | (rw [e2]; exact WkB.refl _) | (rw [e3]; exact WkB.refl _)
      · rw [hst] at hnx k76
        (cbv; (try simp only [nc] at *); (try refine Chk.mk (okc) ?_))
        refine call0 (k76) (by first | rfl | (simp only [zoneA, bookA, lst_nt hnt]; rfl)) fun r h₂ hp => ?_
        (try simp only [zoneA, bookA, lst_nt hnt] at hp)
        obtain ⟨rfl, rfl⟩ := hp
        refine Br.isF rfl ?_
        (cbv; (try simp only [nc] at *); (try refine Chk.mk (okc) ?_))
        refine Br.isF rfl ?_
        (cbv; (try simp only [nc] at *); (try refine Chk.mk (okc) ?_))
        refine Br.isF rfl ?_
        (cbv; (try simp only [nc] at *); (try refine Chk.mk (okc) ?_))
        refine ⟨j + 1, by omega, by omega, ?_⟩
        rw [hnx]
        simp only [Bool.false_eq_true, if_false, List.append_nil]
        have hs' := hs5 (runsTo b i ++ runsIn b i j) (nt Train default (table b i) j)
        cbv at hs'
        simp only [List.cons.injEq, and_true] at hs'
        obtain ⟨e0, e1, e2, e3⟩ := hs'
        (refine To.of [] ?_; cbv; (try simp only [nc]); (repeat' (first | exact trivial | exact WkN.refl _ | exact WkB.refl _ | refine ⟨?_, ?_⟩ | refine WkB.cells ?_ | refine WkN.agg ?_ | refine WkN.tup ?_)); (all_goals (first | exact okt | skip)))
        all_goals first | (rw [e0]; exact WkB.refl _) | (rw [e1]; exact WkB.refl _) | (rw [e2]; exact WkB.refl _) | (rw [e3]; exact WkB.refl _)
    · have hje : j = (table b i).length := by simp only [decide_eq_false_iff_not, Int.ofNat_lt] at hb; omega
      subst hje
      refine hQ _ _ _ ?_
      rw [← runsTo_succ]
      have hs' := hs (runsTo b (i + 1))
      cbv at hs'
      simp only [List.cons.injEq, and_true] at hs'
      obtain ⟨e0, e1, e2, e3⟩ := hs'
      (cbv; (try simp only [nc] at *); (try refine Chk.mk (okc) ?_))
      refine ⟨i + 1, by omega, by omega, ?_⟩
      (refine To.of [] ?_; cbv; (try simp only [nc]); (repeat' (first | exact trivial | exact WkN.refl _ | exact WkB.refl _ | refine ⟨?_, ?_⟩ | refine WkB.cells ?_ | refine WkN.agg ?_ | refine WkN.tup ?_)); (all_goals (first | exact okt | skip)))
      all_goals first | (rw [e0]; exact WkB.refl _) | (rw [e1]; exact WkB.refl _) | (rw [e2]; exact WkB.refl _) | (rw [e3]; exact WkB.refl _)
  · have hi' : i = (b.last + 1).toNat := by simp only [decide_eq_false_iff_not] at hb; omega
    subst hi'
    have hs' := hs (runsTo b (b.last + 1).toNat)
    cbv at hs'
    (cbv; (try simp only [nc] at *); (try refine Chk.mk (okc) ?_))
    exact hs'
end Go.Proofs.YtlcgliadpalgfaaGreat.Vm

/- Contracts: who is on the way. -/
namespace Go.Proofs.YtlcgliadpalgfaaGreat.Vm
open Go Go.Proofs Sp
set_option maxRecDepth 100000
set_option maxHeartbeats 1600000

/-- What hands out the runs, in a caller's heap of 4 blocks. -/
theorem c117_4 (b : Book) (hlast : 0 ≤ b.last ∧ b.last ≤ 100) (hok : BookOk b) (s : List AV) (ps : Array Tmp) (a x : Code) (B0 B1 B2 B3 : List (Train × Int) → Blk)
    (hs : ∀ acc, sel true [0, 1, 2, 3, 4] [B0 acc, B1 acc, B2 acc, B3 acc, .loop s ⟨ps, a, x, .ready, none⟩] = [B0 acc, B1 acc, B2 acc, B3 acc, .loop s ⟨ps, a, x, .ready, none⟩])
    (hs5 : ∀ acc t, sel true [0, 1, 2, 3, 4] [B0 acc, B1 acc, B2 acc, B3 acc, .loop s ⟨ps, a, x, .ready, none⟩, .cells (encTrain t)] = [B0 acc, B1 acc, B2 acc, B3 acc, .loop s ⟨ps, a, x, .ready, none⟩])
    (hy : ∀ acc t (day : Int), acc.length ≤ 1000 → t ∈ table b day → starts t day = true → 0 ≤ day ∧ day ≤ b.last → YC (fun _ => Tryz.prog) 4 [runV t day (calls b.zones t day)] [B0 acc, B1 acc, B2 acc, B3 acc, .loop s ⟨ps, a, x, .ready, none⟩, .cells (encTrain t)] fun v h => v = .bool (fun _ => true) ∧ h = [B0 (acc ++ [(t, day)]), B1 (acc ++ [(t, day)]), B2 (acc ++ [(t, day)]), B3 (acc ++ [(t, day)]), .loop s ⟨ps, a, x, .ready, none⟩, .cells (encTrain t)]) :
    SC (fun _ => Tryz.prog) 91 [.yld 4, bookI b] [B0 [], B1 [], B2 [], B3 [], .loop s ⟨ps, a, x, .ready, none⟩] fun v h => h = [B0 (runsTo b (b.last + 1).toNat), B1 (runsTo b (b.last + 1).toNat), B2 (runsTo b (b.last + 1).toNat), B3 (runsTo b (b.last + 1).toNat), .loop s ⟨ps, a, x, .ready, none⟩] := by
  obtain ⟨nt, hnt⟩ := nth_ex
  unfold bookI
  refine con Tryz.func91 (body := bodyOf Tryz.f91) rfl (by decide +kernel) ?_
  (cbv; (try simp only [nc] at *); (try refine Chk.mk (okc) ?_))
  refine loopS false false [] [0, 1, 8, 9] [] (fun (i : Nat) => [(9, .int .i64 fun _ => (i : Int))]) (fun i => [(0, B0 (runsTo b i)), (1, B1 (runsTo b i)), (2, B2 (runsTo b i)), (3, B3 (runsTo b i))]) (fun i => (i : Int) ≤ b.last + 1) (fun i => (b.last + 1).toNat - i + 0) 0 (by omega) ?_ ?_
  · (refine To.of [] ?_; cbv; (try simp only [nc]); (repeat' (first | exact trivial | exact WkN.refl _ | exact WkB.refl _ | refine ⟨?_, ?_⟩ | refine WkB.cells ?_ | refine WkN.agg ?_ | refine WkN.tup ?_)); (all_goals (first | exact okt | skip)))
  rintro i hi
  (cbv; (try simp only [nc] at *); (try refine Chk.mk (okc) ?_))
  refine ⟨fun hb => ?_, fun hb => ?_⟩
  · simp only [decide_eq_true_eq] at hb
    (cbv; (try simp only [nc] at *); (try refine Chk.mk (okc) ?_))
    have k73 := c73 b i
    simp only [lst_nt hnt] at k73
    refine call0 (k73) (by first | rfl | (simp only [zoneA, bookA, lst_nt hnt]; rfl)) fun r h₂ hp => ?_
    (try simp only [zoneA, bookA, lst_nt hnt] at hp)
    obtain ⟨rfl, rfl⟩ := hp
    (cbv; (try simp only [nc] at *); (try refine Chk.mk (okc) ?_))
    refine loopQ fun Q hQ => ?_
    refine loopS false false [] [0, 1, 3, 8, 9, 14, 15, 16] [] (fun (j : Nat) => [(16, .int .i64 fun _ => (j : Int))]) (fun j => [(0, B0 (runsTo b i ++ runsIn b i j)), (1, B1 (runsTo b i ++ runsIn b i j)), (2, B2 (runsTo b i ++ runsIn b i j)), (3, B3 (runsTo b i ++ runsIn b i j))]) (fun j => j ≤ (table b i).length) (fun j => (table b i).length - j + 0) 0 (by omega) ?_ ?_
    · simp only [runsIn_zero, List.append_nil]
      (refine To.of [] ?_; cbv; (try simp only [nc]); (repeat' (first | exact trivial | exact WkN.refl _ | exact WkB.refl _ | refine ⟨?_, ?_⟩ | refine WkB.cells ?_ | refine WkN.agg ?_ | refine WkN.tup ?_)); (all_goals (first | exact okt | skip)))
    rintro j hj
    (cbv; (try simp only [nc] at *); (try refine Chk.mk (okc) ?_))
    refine ⟨fun hb => ?_, fun hb => ?_⟩
    · simp only [decide_eq_true_eq, Int.ofNat_lt] at hb
      rename_i hbi
      have hmem : nt Train default (table b i) j ∈ table b i := nt_mem hnt hb
      have htk := tabOk hok hmem
      have htl := (table_ok hok (i : Int)).1
      have hl := htk.len
      have hd := htk.days
      have hnx : runsIn b i (j + 1) = runsIn b i j ++ (if starts (nt Train default (table b i) j) i then [(nt Train default (table b i) j, (i : Int))] else []) := by
        unfold runsIn
        rw [nt_take (d := default) hnt hb, List.filter_append, List.map_append]
        congr 1
        by_cases h : starts (nt Train default (table b i) j) i = true
        · simp [h]
        · simp [h]
      have k76 := c76 (nt Train default (table b i) j) i (by omega) (by omega)
      have hy' := hy (runsTo b i ++ runsIn b i j) _ (i : Int) (by have h1 := runsTo_len hok i; have h2 := runsIn_len b i j; rw [List.length_append]; omega) hmem
      have k77 := c77 b (nt Train default (table b i) j) i hok.zones htk.fit (by omega) (by omega)
      generalize calls b.zones (nt Train default (table b i) j) i = C at k77 hy'
      cases hst : starts (nt Train default (table b i) j) i
      rotate_left
      · rw [hst] at hnx k76
        (cbv; (try simp only [nc] at *); (try refine Chk.mk (okc) ?_))
        refine call0 (k76) (by first | rfl | (simp only [zoneA, bookA, lst_nt hnt]; rfl)) fun r h₂ hp => ?_
        (try simp only [zoneA, bookA, lst_nt hnt] at hp)
        obtain ⟨rfl, rfl⟩ := hp
        refine Br.isT rfl ?_
        (cbv; (try simp only [nc] at *); (try refine Chk.mk (okc) ?_))
        refine call0 (k77) (by first | rfl | (simp only [zoneA, bookA, lst_nt hnt]; rfl)) fun r h₂ hp => ?_
        (try simp only [zoneA, bookA, lst_nt hnt] at hp)
        obtain ⟨rfl, rfl⟩ := hp
        (cbv; (try simp only [nc] at *); (try refine Chk.mk (okc) ?_))
        refine Br.isT rfl ?_
        (cbv; (try simp only [nc] at *); (try refine Chk.mk (okc) ?_))
        refine YC.mono (hy' hst ⟨by omega, by omega⟩) ?_
        rintro v h ⟨rfl, rfl⟩
        (cbv; (try simp only [nc] at *); (try refine Chk.mk (okc) ?_))
        refine Br.isF rfl ?_
        (cbv; (try simp only [nc] at *); (try refine Chk.mk (okc) ?_))
        refine ⟨j + 1, by omega, by omega, ?_⟩
        rw [hnx]
        simp only [if_true, ← List.append_assoc]
        have hs' := hs5 (runsTo b i ++ runsIn b i j ++ [(nt Train default (table b i) j, (i : Int))]) (nt Train default (table b i) j)
        cbv at hs'
        simp only [List.cons.injEq, and_true] at hs'
        obtain ⟨e0, e1, e2, e3, e4⟩ := hs'
        (refine To.of [] ?_; cbv; (try simp only [nc]); (repeat' (first | exact trivial | exact WkN.refl _ | exact WkB.refl _ | refine ⟨?_, ?_⟩ | refine WkB.cells ?_ | refine WkN.agg ?_ | refine WkN.tup ?_)); (all_goals (first | exact okt | skip)))
        all_goals first | (rw [e0]; exact WkB.refl _) | (rw [e1]; exact WkB.refl _) | (rw [e2]; exact WkB.refl _) | (rw [e3]; exact WkB.refl _) | (rw [e4]; exact WkB.refl _)
      · rw [hst] at hnx k76
        (cbv; (try simp only [nc] at *); (try refine Chk.mk (okc) ?_))
        refine call0 (k76) (by first | rfl | (simp only [zoneA, bookA, lst_nt hnt]; rfl)) fun r h₂ hp => ?_
        (try simp only [zoneA, bookA, lst_nt hnt] at hp)
        obtain ⟨rfl, rfl⟩ := hp
        refine Br.isF rfl ?_
        (cbv; (try simp only [nc] at *); (try refine Chk.mk (okc) ?_))
        refine Br.isF rfl ?_
        (cbv; (try simp only [nc] at *); (try refine Chk.mk (okc) ?_))
        refine Br.isF rfl ?_
        (cbv; (try simp only [nc] at *); (try refine Chk.mk (okc) ?_))
        refine ⟨j + 1, by omega, by omega, ?_⟩
        rw [hnx]
        simp only [Bool.false_eq_true, if_false, List.append_nil]
        have hs' := hs5 (runsTo b i ++ runsIn b i j) (nt Train default (table b i) j)
        cbv at hs'
        simp only [List.cons.injEq, and_true] at hs'
        obtain ⟨e0, e1, e2, e3, e4⟩ := hs'
        (refine To.of [] ?_; cbv; (try simp only [nc]); (repeat' (first | exact trivial | exact WkN.refl _ | exact WkB.refl _ | refine ⟨?_, ?_⟩ | refine WkB.cells ?_ | refine WkN.agg ?_ | refine WkN.tup ?_)); (all_goals (first | exact okt | skip)))
        all_goals first | (rw [e0]; exact WkB.refl _) | (rw [e1]; exact WkB.refl _) | (rw [e2]; exact WkB.refl _) | (rw [e3]; exact WkB.refl _) | (rw [e4]; exact WkB.refl _)
    · have hje : j = (table b i).length := by simp only [decide_eq_false_iff_not, Int.ofNat_lt] at hb; omega
      subst hje
      refine hQ _ _ _ ?_
      rw [← runsTo_succ]
      have hs' := hs (runsTo b (i + 1))
      cbv at hs'
      simp only [List.cons.injEq, and_true] at hs'
      obtain ⟨e0, e1, e2, e3, e4⟩ := hs'
      (cbv; (try simp only [nc] at *); (try refine Chk.mk (okc) ?_))
      refine ⟨i + 1, by omega, by omega, ?_⟩
      (refine To.of [] ?_; cbv; (try simp only [nc]); (repeat' (first | exact trivial | exact WkN.refl _ | exact WkB.refl _ | refine ⟨?_, ?_⟩ | refine WkB.cells ?_ | refine WkN.agg ?_ | refine WkN.tup ?_)); (all_goals (first | exact okt | skip)))
      all_goals first | (rw [e0]; exact WkB.refl _) | (rw [e1]; exact WkB.refl _) | (rw [e2]; exact WkB.refl _) | (rw [e3]; exact WkB.refl _) | (rw [e4]; exact WkB.refl _)
  · have hi' : i = (b.last + 1).toNat := by simp only [decide_eq_false_iff_not] at hb; omega
    subst hi'
    have hs' := hs (runsTo b (b.last + 1).toNat)
    cbv at hs'
    (cbv; (try simp only [nc] at *); (try refine Chk.mk (okc) ?_))
    exact hs'

def onE (x : Train × Int) : List AV := [islLit 1 [[.int .i64 fun _ => x.1.number], [.int .i64 fun _ => x.2]]]
theorem callsGo_len {zs : List Zone} {day : Int} {many : Nat} : ∀ (S : List Stop) (i : Nat) (now : Int), (callsGo zs day many i now S).length = S.length
  | [], _, _ => rfl
  | s :: r, i, now => by
    unfold callsGo
    split
    · simp only [List.length_cons, callsGo_len r]
    · simp only [List.length_cons, callsGo_len r]
theorem calls_len {zs : List Zone} {t : Train} {day : Int} : (calls zs t day).length = t.stops.length := callsGo_len _ _ _
def isOn (b : Book) (at_ : Int) (x : Train × Int) : Bool := bif decide (((calls b.zones x.1 x.2).getD 0 default).depart ≤ at_) then decide (at_ < ((calls b.zones x.1 x.2).getD ((calls b.zones x.1 x.2).length - 1) default).arrive) else false
def onL (b : Book) (at_ : Int) (l : List (Train × Int)) : List (Train × Int) := l.filter (isOn b at_)
theorem onL_snoc (b : Book) (at_ : Int) (l : List (Train × Int)) (x : Train × Int) : onL b at_ (l ++ [x]) = onL b at_ l ++ (if isOn b at_ x then [x] else []) := by
  unfold onL
  rw [List.filter_append]
  congr 1
  by_cases h : isOn b at_ x = true
  · simp [h]
  · simp [h]
def OnWay (b : Book) (at_ : Int) : List (Train × Int) × Int := if Check b ≠ 0 then ([], Check b) else if !inB at_ 0 43200 then ([], 1) else (onL b at_ (runsTo b (b.last + 1).toNat), 0)
theorem c38 (b : Book) (hb : BookFit b) (at_ : Int) : SC (fun _ => Tryz.prog) 32 [bookA b, .int .i64 fun _ => at_] [] fun v h => v = .tup [lst 1 onE default (OnWay b at_).1, .int .i64 fun _ => (OnWay b at_).2] ∧ h = [] := by
  obtain ⟨nt, hnt⟩ := nth_ex
  have k28 := c28 b hb
  have k67 := c67 at_ 0 43200
  have k86 := c86 b
  unfold OnWay
  generalize hCk : Check b = C at *
  refine SC.less (conX false false [] Tryz.func32 (body := bodyOf Tryz.f32) rfl (by decide +kernel) ?_)
  unfold bookA bookI at *
  (cbv; (try simp only [nc] at *); (try refine Chk.mk (okc) ?_))
  refine call0 (k28) (by first | rfl | (simp only [zoneA, bookA, lst_nt hnt]; rfl)) fun r h₂ hp => ?_
  (try simp only [zoneA, bookA, lst_nt hnt] at hp)
  obtain ⟨rfl, rfl⟩ := hp
  (cbv; (try simp only [nc] at *); (try refine Chk.mk (okc) ?_))
  refine ⟨fun hb => ?_, fun hb => ?_⟩
  · simp only [bne_iff_ne, ne_eq] at hb
    rw [if_pos hb]
    (cbv; (try simp only [nc] at *); (try refine Chk.mk (okc) ?_))
    refine ⟨_, [], ?_, rfl, rfl⟩
    (refine To.of [] ?_; cbv; (try simp only [nc]); (repeat' (first | exact trivial | exact WkN.refl _ | exact WkB.refl _ | refine ⟨?_, ?_⟩ | refine WkB.cells ?_ | refine WkN.agg ?_ | refine WkN.tup ?_)); (all_goals (first | exact okt | skip)))
  have hC : C = 0 := by simpa using hb
  have hok := book_ok (hCk.trans hC)
  rw [if_neg (fun h => h hC)]
  (cbv; (try simp only [nc] at *); (try refine Chk.mk (okc) ?_))
  refine call0 (k67) (by first | rfl | (simp only [zoneA, bookA, lst_nt hnt]; rfl)) fun r h₂ hp => ?_
  (try simp only [zoneA, bookA, lst_nt hnt] at hp)
  obtain ⟨rfl, rfl⟩ := hp
  (cbv; (try simp only [nc] at *); (try refine Chk.mk (okc) ?_))
  refine ⟨fun hb2 => ?_, fun hb2 => ?_⟩
  · rw [if_pos hb2]
    (cbv; (try simp only [nc] at *); (try refine Chk.mk (okc) ?_))
    refine ⟨_, [], ?_, rfl, rfl⟩
    (refine To.of [] ?_; cbv; (try simp only [nc]); (repeat' (first | exact trivial | exact WkN.refl _ | exact WkB.refl _ | refine ⟨?_, ?_⟩ | refine WkB.cells ?_ | refine WkN.agg ?_ | refine WkN.tup ?_)); (all_goals (first | exact okt | skip)))
  rw [if_neg (by rw [hb2]; exact Bool.false_ne_true)]
  (cbv; (try simp only [nc] at *); (try refine Chk.mk (okc) ?_))
  refine call0 (k86) (by first | rfl | (simp only [zoneA, bookA, lst_nt hnt]; rfl)) fun r h₂ hp => ?_
  (try simp only [zoneA, bookA, lst_nt hnt] at hp)
  obtain ⟨rfl, rfl⟩ := hp
  (cbv; (try simp only [nc] at *); (try refine Chk.mk (okc) ?_))
  refine rangeT [2, 3, 4, 5, 7, 20] [.tok 1 fun _ => 0] [(2, .cells [.isl 1 (fun _ => 0) (fun e => onE (nt (Train × Int) default [] (e ()))) (.own 3)])] (fid := 91) (first := []) ?_ rfl ?_ ?_
  · (refine To.of [(1,false)] ?_; cbv; (try simp only [nc]); (repeat' (first | exact trivial | exact WkN.refl _ | exact WkB.refl _ | refine ⟨?_, ?_⟩ | refine WkB.cells ?_ | refine WkN.agg ?_ | refine WkN.tup ?_)); (all_goals (first | exact okt | skip)))
  · exact allc_nil
  have k117 := fun s ps a x => c117_4 b (by have := hok.last; omega) hok s ps a x (fun _ => .cells (bookC b)) (fun _ => .cells [.int .i64 fun _ => at_]) (fun acc => .cells [.isl 1 (fun _ => ((onL b at_ acc).length : Int)) (fun e => onE (nt (Train × Int) default (onL b at_ acc) (e ()))) (.own 3)]) (fun acc => .tok 1 fun _ => ((onL b at_ acc).length : Int))
  unfold bookI bookC at k117
  simp only [lst_nt hnt] at k117
  simp only [lstR_nt hnt]
  refine SC.mono (k117 _ _ _ _ ?_ ?_ ?_) ?_
  · intro acc; cbv
  · intro acc t; cbv
  · intro acc t day ha hm hs hd
    have hlen : 2 ≤ (calls b.zones t day).length := by rw [calls_len]; exact (tabOk hok hm).len.1
    have hlen4 : (calls b.zones t day).length ≤ 4 := by rw [calls_len]; exact (tabOk hok hm).len.2
    have hon : isOn b at_ (t, day) = (bif decide ((nt Sp.Call default (calls b.zones t day) 0).depart ≤ at_) then decide (at_ < (nt Sp.Call default (calls b.zones t day) ((calls b.zones t day).length - 1)).arrive) else false) := by
      unfold isOn
      rw [hnt, hnt]
      have e : ((calls b.zones t day).length - 1 : Int).toNat = (calls b.zones t day).length - 1 := by omega
      rw [e]
      rfl
    simp only [onL_snoc, hon]
    generalize calls b.zones t day = C at *
    have hO : (onL b at_ acc).length ≤ 1000 := Nat.le_trans (List.length_filter_le _ _) ha
    generalize onL b at_ acc = O at *
    unfold runV
    simp only [lst_nt hnt]
    refine YC.less (yieldR false false [] rfl rfl ?_)
    (cbv; (try simp only [nc] at *); (try refine Chk.mk (okc) ?_))
    refine ⟨?_, ?_⟩
    · (cbv; (try simp only [nc] at *); (try refine Chk.mk (okc) ?_))
      refine ⟨fun hb3 => ?_, fun hb3 => ?_⟩
      · rw [hb3]
        (cbv; (try simp only [nc] at *); (try refine Chk.mk (okc) ?_))
        refine ⟨_, _, ?_, rfl, rfl⟩
        simp only [if_true, Bool.false_eq_true, if_false, List.append_nil]
        (refine To.of [] ?_; cbv; (try simp only [nc]); (repeat' (first | exact trivial | exact WkN.refl _ | exact WkB.refl _ | refine ⟨?_, ?_⟩ | refine WkB.cells ?_ | refine WkN.agg ?_ | refine WkN.tup ?_)); (all_goals (first | exact okt | skip)))
      · rw [hb3]
        (cbv; (try simp only [nc] at *); (try refine Chk.mk (okc) ?_))
        refine ⟨_, _, ?_, rfl, rfl⟩
        simp only [if_true, Bool.false_eq_true, if_false, List.append_nil]
        (refine To.of [] ?_; cbv; (try simp only [nc]); (repeat' (first | exact trivial | exact WkN.refl _ | exact WkB.refl _ | refine ⟨?_, ?_⟩ | refine WkB.cells ?_ | refine WkN.agg ?_ | refine WkN.tup ?_)); (all_goals (first | exact okt | skip)))
    · (cbv; (try simp only [nc] at *); (try refine Chk.mk (okc) ?_))
      refine ⟨fun hb3 => ?_, fun hb3 => ?_⟩
      · rw [hb3]
        (cbv; (try simp only [nc] at *); (try refine Chk.mk (okc) ?_))
        refine ⟨_, _, ?_, rfl, rfl⟩
        simp only [if_true, Bool.false_eq_true, if_false, List.append_nil]
        (refine To.of [] ?_; cbv; (try simp only [nc]); (repeat' (first | exact trivial | exact WkN.refl _ | exact WkB.refl _ | refine ⟨?_, ?_⟩ | refine WkB.cells ?_ | refine WkN.agg ?_ | refine WkN.tup ?_)); (all_goals (first | exact okt | skip)))
      · rw [hb3]
        (cbv; (try simp only [nc] at *); (try refine Chk.mk (okc) ?_))
        refine ⟨_, _, ?_, rfl, rfl⟩
        simp only [if_true, Bool.false_eq_true, if_false, List.append_nil]
        (refine To.of [] ?_; cbv; (try simp only [nc]); (repeat' (first | exact trivial | exact WkN.refl _ | exact WkB.refl _ | refine ⟨?_, ?_⟩ | refine WkB.cells ?_ | refine WkN.agg ?_ | refine WkN.tup ?_)); (all_goals (first | exact okt | skip)))
  · intro r h hh
    subst hh
    (cbv; (try simp only [nc] at *); (try refine Chk.mk (okc) ?_))
    refine ⟨.tup [lst 1 onE default (onL b at_ (runsTo b (b.last + 1).toNat)), .int .i64 fun _ => 0], [], ?_, rfl, rfl⟩
    simp only [lst_nt hnt]
    (refine To.of [] ?_; cbv; (try simp only [nc]); (repeat' (first | exact trivial | exact WkN.refl _ | exact WkB.refl _ | refine ⟨?_, ?_⟩ | refine WkB.cells ?_ | refine WkN.agg ?_ | refine WkN.tup ?_)); (all_goals (first | exact okt | skip)))
end Go.Proofs.YtlcgliadpalgfaaGreat.Vm

/- Plain: runs of books that are made of numbers. -/
namespace Go.Proofs.YtlcgliadpalgfaaGreat.Vm
open Sp

theorem keptL_bd {zs : List Zone} {day : Int} {many : Nat} (hm : 2 ≤ many) : ∀ (S : List Stop) (i : Nat) (now : Int) (C : List Sp.Call), i + S.length = many → KeptL zs day many i now S C → ∀ c ∈ C, (0 ≤ c.arrive ∧ c.arrive ≤ 24000) ∧ 0 ≤ c.depart ∧ c.depart ≤ 24000
  | [], _, _, C, _, h => by
    simp only [KeptL] at h
    subst h
    intro c hc; cases hc
  | s :: r, i, now, [], _, h => by simp only [KeptL] at h
  | s :: r, i, now, c :: C, hi, h => by
    simp only [KeptL] at h
    obtain ⟨_, h1, h2, h3, h4, h5⟩ := h
    have ih := keptL_bd hm r (i + 1) c.depart C (by simp only [List.length_cons] at hi; omega) h5
    have hc : (0 ≤ c.arrive ∧ c.arrive ≤ 24000) ∧ 0 ≤ c.depart ∧ c.depart ≤ 24000 := by
      by_cases hz : i = 0
      · have a := h1 hz
        have b := (h3 (by omega)).hi
        omega
      · have a := (h2 (by omega)).hi
        by_cases hl : i + 1 < many
        · have b := (h3 hl).hi
          exact ⟨a, b⟩
        · have b := h4 hl
          omega
    intro x hx
    rcases List.mem_cons.1 hx with rfl | hx
    · exact hc
    · exact ih x hx

theorem calls_bd {b : Book} (hz : ∀ z ∈ b.zones, ZMade 2 z) {t : Train} (ht : TrainOk b.zones.length t) {day : Int} (hd : 0 ≤ day ∧ day ≤ 13) : ∀ c ∈ calls b.zones t day, (0 ≤ c.arrive ∧ c.arrive ≤ 24000) ∧ 0 ≤ c.depart ∧ c.depart ≤ 24000 :=
  keptL_bd ht.len.1 t.stops 0 0 _ (by simp) (kept_calls hz hd ht.len.1 t.stops 0 0 ht.stops (by simp) (fun _ => rfl) (by omega))

theorem indexFrom_at {α : Type} {q : α → Bool} {d : α} : ∀ {l : List α} {i : Nat} {k : Int}, i < l.length → q (l.getD i d) = true → (∀ j, j < i → q (l.getD j d) = false) → indexFrom q k l = k + i
  | [], i, k, h, _, _ => by simp at h
  | a :: l, 0, k, h, hq, _ => by
    unfold indexFrom
    rw [if_pos (by simpa using hq)]
    simp
  | a :: l, i + 1, k, h, hq, hj => by
    unfold indexFrom
    have h0 := hj 0 (by omega)
    rw [if_neg (by simpa using h0), indexFrom_at (d := d) (i := i) (by simpa using h) (by simpa using hq) (fun j hj' => by have := hj (j + 1) (by omega); simpa using this)]
    simp
    omega

theorem place_made {zones n : Int} {l : List Train} (h : LMade zones n l) {i : Nat} (hi : i < l.length) : place l (l.getD i default).number = i := by
  have hg : ∀ j, j < l.length → (l.getD j default).number = n - j := fun j hj => (h.all j _ (by rw [List.getD_eq_getElem?_getD, List.getElem?_eq_getElem hj]; rfl)).number
  unfold place
  rw [indexFrom_at (d := default) hi (by simp) (fun j hj => by
    rw [hg i hi, hg j (by omega)]
    simp
    omega)]
  simp

theorem table_made {tr days : Int} {b : Book} (h : BMade tr days b) (day : Int) : ∃ n, LMade b.zones.length n (table b day) := by
  unfold table
  split
  · exact ⟨_, h.old⟩
  · exact ⟨_, h.new⟩

theorem runsTo_pre (b : Book) {d D : Nat} (h : d ≤ D) : ∃ r, runsTo b D = runsTo b d ++ r := by
  induction D with
  | zero => exact ⟨[], by rw [show d = 0 by omega]; simp⟩
  | succ D ih =>
    by_cases e : d = D + 1
    · exact ⟨[], by rw [e]; simp⟩
    · obtain ⟨r, hr⟩ := ih (by omega)
      exact ⟨r ++ _, by rw [runsTo_succ, hr, List.append_assoc]⟩

theorem runsIn_succ (b : Book) (d i : Nat) (hi : i < (table b d).length) : runsIn b d (i + 1) = runsIn b d i ++ (if starts ((table b d).getD i default) d then [((table b d).getD i default, (d : Int))] else []) := by
  have e : (table b d).take (i + 1) = (table b d).take i ++ [(table b d).getD i default] := by
    rw [List.take_succ_eq_append_getElem hi, List.getD_eq_getElem?_getD, List.getElem?_eq_getElem hi]; rfl
  unfold runsIn
  rw [e, List.filter_append, List.map_append]
  congr 1
  by_cases h : starts ((table b d).getD i default) d = true
  · simp only [List.filter, h, if_true, List.map]
  · simp only [Bool.not_eq_true] at h
    simp only [List.filter, h, List.map, Bool.false_eq_true, if_false]

theorem runsIn_pre (b : Book) (d : Nat) {i n : Nat} (h : i ≤ n) (hn : n ≤ (table b d).length) : ∃ r, runsIn b d n = runsIn b d i ++ r := by
  induction n with
  | zero => exact ⟨[], by rw [show i = 0 by omega]; simp⟩
  | succ n ih =>
    by_cases e : i = n + 1
    · exact ⟨[], by rw [e]; simp⟩
    · obtain ⟨r, hr⟩ := ih (by omega) (by omega)
      exact ⟨r ++ _, by rw [runsIn_succ b d n (by omega), hr, List.append_assoc]⟩

/-- All runs, cut at one of them. -/
theorem runsTo_cut (b : Book) {d D i : Nat} (hd : d < D) (hi : i < (table b d).length) (hs : starts ((table b d).getD i default) d = true) :
    ∃ r, runsTo b D = (runsTo b d ++ runsIn b d i) ++ [((table b d).getD i default, (d : Int))] ++ r := by
  obtain ⟨r1, h1⟩ := runsTo_pre b (d := d + 1) (D := D) hd
  obtain ⟨r2, h2⟩ := runsIn_pre b d (i := i + 1) (n := (table b d).length) hi (Nat.le_refl _)
  refine ⟨r2 ++ r1, ?_⟩
  rw [h1, runsTo_succ, h2, runsIn_succ b d i hi, hs, if_pos rfl]
  simp only [List.append_assoc]

theorem filter_cut {α : Type} {d : α} (p : α → Bool) (A r : List α) (x : α) (hx : p x = true) : (A.filter p).length < ((A ++ [x] ++ r).filter p).length ∧ ((A ++ [x] ++ r).filter p).getD (A.filter p).length d = x := by
  have e : (A ++ [x] ++ r).filter p = A.filter p ++ x :: r.filter p := by
    rw [List.filter_append, List.filter_append]
    simp [hx]
  rw [e]
  refine ⟨by simp, ?_⟩
  rw [List.getD_eq_getElem?_getD, List.getElem?_append_right (Nat.le_refl _)]
  simp

theorem isOn_nt {nt : (α : Type) → α → List α → Int → α} (hnt : ∀ (α : Type) (d : α) (l : List α) (i : Int), nt α d l i = l.getD i.toNat d) {b : Book} {a : Int} {t : Train} {d : Int} (hl : 1 ≤ (calls b.zones t d).length) :
    isOn b a (t, d) = bif decide ((nt Sp.Call default (calls b.zones t d) 0).depart ≤ a) then decide (a < (nt Sp.Call default (calls b.zones t d) ((calls b.zones t d).length - 1)).arrive) else false := by
  unfold isOn
  rw [hnt, hnt]
  have e : ((calls b.zones t d).length - 1 : Int).toNat = (calls b.zones t d).length - 1 := by omega
  rw [e]
  rfl

/-- What Run says of a book that is made of numbers. -/
theorem run_made {tr days : Int} {b : Book} (hb : BMade tr days b) (hchk : Check b = 0) {d i : Nat} (hd : (d : Int) ≤ b.last) (hi : i < (table b d).length) :
    Run b ((table b d).getD i default).number d = if starts ((table b d).getD i default) d then (calls b.zones ((table b d).getD i default) d, 0) else ([], 11) := by
  obtain ⟨n, hn⟩ := table_made hb (d : Int)
  unfold Run
  rw [hchk, if_neg (fun h => h rfl), inB_of (by omega) hd, place_made hn hi]
  rw [if_neg (by simp), if_neg (by omega)]
  rw [Int.toNat_natCast]
  cases h : starts ((table b d).getD i default) d <;> simp
theorem run_bd {tr days : Int} {b : Book} (hb : BMade tr days b) (hchk : Check b = 0) (n d : Int) : (Run b n d).1.length ≤ 4 ∧ ∀ c ∈ (Run b n d).1, (0 ≤ c.arrive ∧ c.arrive ≤ 24000) ∧ 0 ≤ c.depart ∧ c.depart ≤ 24000 := by
  have hok := book_ok hchk
  have hlast := hok.last
  have h0 : ∀ (e : Int), ([] : List Sp.Call).length ≤ 4 ∧ ∀ c ∈ ([] : List Sp.Call), (0 ≤ c.arrive ∧ c.arrive ≤ 24000) ∧ 0 ≤ c.depart ∧ c.depart ≤ 24000 := fun _ => ⟨by simp, fun c hc => by cases hc⟩
  unfold Run
  split
  · exact h0 0
  split
  · exact h0 0
  rename_i hd
  split
  · exact h0 0
  rename_i hp
  split
  · exact h0 0
  have hd := inB_ok (by simpa using hd : inB d 0 b.last = true)
  have hpl : place (table b d) n < (table b d).length := by
    have hl := (table_ok hok d).1
    rcases Nat.eq_zero_or_pos (table b d).length with h | h
    · have e : table b d = [] := List.eq_nil_of_length_eq_zero h
      rw [e] at hp
      exact absurd (show (-1 : Int) < 0 by decide) hp
    · have := indexFrom_lt (q := fun t : Train => decide (t.number = n)) (l := table b d) (i := 0) (by omega)
      unfold place
      omega
  have ht := (table_ok hok d).2 ((table b d).getD (place (table b d) n).toNat default) (by rw [List.getD_eq_getElem?_getD, List.getElem?_eq_getElem (by omega)]; exact List.getElem_mem _)
  refine ⟨by dsimp only; rw [calls_len]; exact ht.len.2, calls_bd hb.zones ht (by omega)⟩
end Go.Proofs.YtlcgliadpalgfaaGreat.Vm

/- Contracts: rides. -/
namespace Go.Proofs.YtlcgliadpalgfaaGreat.Vm
open Go Go.Proofs Sp
set_option maxRecDepth 100000
set_option maxHeartbeats 1600000

/-- At which call a station is, from one on. -/
def callAt (C : List Sp.Call) (st : Int) (k : Nat) : Int := indexFrom (fun c => decide (c.station = st)) k (C.drop k)

theorem c119 (t : Train) (day : Int) (C : List Sp.Call) (st : Int) (k : Nat) (hk : k ≤ C.length) (hl : C.length ≤ 1000) : SC (fun _ => Tryz.prog) 78 [runV t day C, .int .i64 fun _ => st, .int .i64 fun _ => (k : Int)] [] fun v h => v = .int .i64 (fun _ => callAt C st k) ∧ h = [] := by
  obtain ⟨nt, hnt⟩ := nth_ex
  refine con Tryz.func78 (body := bodyOf Tryz.f78) rfl (by decide +kernel) ?_
  unfold runV encTrain
  simp only [lst_nt hnt]
  (cbv; (try simp only [nc] at *); (try refine Chk.mk (okc) ?_))
  refine loopS false false [] [1, 3, 7] [] (fun (i : Nat) => [(7, .int .i64 fun _ => i)]) (fun _ => []) (fun i => i ≤ C.length ∧ callAt C st k = indexFrom (fun c => decide (c.station = st)) i (C.drop i)) (fun i => C.length - i + 0) k ⟨hk, rfl⟩ ?_ ?_
  · (refine To.of [] ?_; cbv; (try simp only [nc]); (repeat' (first | exact trivial | exact WkN.refl _ | exact WkB.refl _ | refine ⟨?_, ?_⟩ | refine WkB.cells ?_ | refine WkN.agg ?_ | refine WkN.tup ?_)); (all_goals (first | exact okt | skip)))
  rintro i ⟨hi, hp⟩
  (cbv; (try simp only [nc] at *); (try refine Chk.mk (okc) ?_))
  refine ⟨fun hb => ?_, fun hb => ?_⟩
  · simp only [decide_eq_true_eq] at hb
    have hd := nt_drop (d := default) hnt (l := C) (i := i) (by omega)
    rw [hd, indexFrom] at hp
    (cbv; (try simp only [nc] at *); (try refine Chk.mk (okc) ?_))
    refine ⟨fun hb => ?_, fun hb => ?_⟩
    · rw [if_pos (by simpa using hb)] at hp
      rw [hp]
      (cbv; (try simp only [nc] at *); (try refine Chk.mk (okc) ?_))
      (try first | exact ⟨rfl, trivial⟩ | exact ⟨trivial, trivial⟩)
    · rw [if_neg (by simpa using hb)] at hp
      (cbv; (try simp only [nc] at *); (try refine Chk.mk (okc) ?_))
      refine ⟨i + 1, ⟨by omega, hp⟩, by show C.length - (i + 1) + 0 < C.length - i + 0; omega, ?_⟩
      (refine To.of [] ?_; cbv; (try simp only [nc]); (repeat' (first | exact trivial | exact WkN.refl _ | exact WkB.refl _ | refine ⟨?_, ?_⟩ | refine WkB.cells ?_ | refine WkN.agg ?_ | refine WkN.tup ?_)); (all_goals (first | exact okt | skip)))
  · simp only [decide_eq_false_iff_not] at hb
    rw [List.drop_eq_nil_of_le (by omega), indexFrom] at hp
    rw [hp]
    (cbv; (try simp only [nc] at *); (try refine Chk.mk (okc) ?_))
    (try first | exact ⟨rfl, trivial⟩ | exact ⟨trivial, trivial⟩)

theorem callAt_lt {C : List Sp.Call} {st : Int} {k : Nat} (hk : k ≤ C.length) : (callAt C st k = -1 ∨ (k : Int) ≤ callAt C st k) ∧ callAt C st k < C.length := by
  unfold callAt
  have h : ∀ (l : List Sp.Call) (i : Int), (indexFrom (fun c : Sp.Call => decide (c.station = st)) i l = -1 ∨ i ≤ indexFrom (fun c : Sp.Call => decide (c.station = st)) i l) ∧ (indexFrom (fun c : Sp.Call => decide (c.station = st)) i l = -1 ∨ indexFrom (fun c : Sp.Call => decide (c.station = st)) i l < i + l.length) := by
    intro l
    induction l with
    | nil => intro i; exact ⟨.inl rfl, .inl rfl⟩
    | cons a l ih =>
      intro i
      unfold indexFrom
      split
      · simp
        omega
      · have := ih (i + 1)
        simp only [List.length_cons]
        omega
  have := h (C.drop k) k
  rw [List.length_drop] at this
  omega

def encRide (x : Sp.Ride) : List AV := [.int .i64 fun _ => x.day, .int .i64 fun _ => x.depart, .int .i64 fun _ => x.arrive]
def legA (g : Sp.Leg) : AV := .agg [.int .i64 fun _ => g.number, .int .i64 fun _ => g.from_, .int .i64 fun _ => g.to_]

/-- The ride by a leg that a run is; none if it does not serve it. -/
def rideOf (b : Book) (g : Sp.Leg) (x : Train × Int) : Option Sp.Ride :=
  if x.1.number ≠ g.number then none
  else if callAt (calls b.zones x.1 x.2) g.from_ 0 < 0 then none
  else if callAt (calls b.zones x.1 x.2) g.to_ ((callAt (calls b.zones x.1 x.2) g.from_ 0).toNat + 1) < 0 then none
  else some ⟨x.2, ((calls b.zones x.1 x.2).getD (callAt (calls b.zones x.1 x.2) g.from_ 0).toNat default).depart, ((calls b.zones x.1 x.2).getD (callAt (calls b.zones x.1 x.2) g.to_ ((callAt (calls b.zones x.1 x.2) g.from_ 0).toNat + 1)).toNat default).arrive⟩
def ridesL (b : Book) (g : Sp.Leg) (l : List (Train × Int)) : List Sp.Ride := l.filterMap (rideOf b g)
theorem ridesL_snoc (b : Book) (g : Sp.Leg) (l : List (Train × Int)) (x : Train × Int) : ridesL b g (l ++ [x]) = ridesL b g l ++ (match rideOf b g x with | some r => [r] | none => []) := by
  unfold ridesL
  rw [List.filterMap_append]
  congr 1
  cases h : rideOf b g x <;> simp [h]

theorem c93 (b : Book) (g : Sp.Leg) (hb : BookFit b) (hok : BookOk b) : SC (fun _ => Tryz.prog) 76 [bookA b, legA g] [] fun v h => v = .gsl 0 (fun _ => ((ridesL b g (runsTo b (b.last + 1).toNat)).length : Int)) ∧ h = [.gar 3 (fun _ => ((ridesL b g (runsTo b (b.last + 1).toNat)).length : Int)) (lstR encRide default (ridesL b g (runsTo b (b.last + 1).toNat)))] := by
  obtain ⟨nt, hnt⟩ := nth_ex
  have k86 := c86 b
  refine SC.less (conX true false [] Tryz.func76 (body := bodyOf Tryz.f76) rfl (by decide +kernel) ?_)
  unfold bookA bookI legA at *
  (cbv; (try simp only [nc] at *); (try refine Chk.mk (okc) ?_))
  refine call0 (k86) (by first | rfl | (simp only [zoneA, bookA, lst_nt hnt]; rfl)) fun r h₂ hp => ?_
  (try simp only [zoneA, bookA, lst_nt hnt] at hp)
  obtain ⟨rfl, rfl⟩ := hp
  (cbv; (try simp only [nc] at *); (try refine Chk.mk (okc) ?_))
  refine rangeT [3, 5, 10] [.gar 3 (fun _ => 0) (fun e => encRide (nt Sp.Ride default [] (e ())))] [(2, .cells [.gsl 3 (fun _ => 0)])] (fid := 91) (first := []) ?_ rfl ?_ ?_
  · (refine To.of [(3,true)] ?_; cbv; (try simp only [nc]); (repeat' (first | exact trivial | exact WkN.refl _ | exact WkB.refl _ | refine ⟨?_, ?_⟩ | refine WkB.cells ?_ | refine WkN.agg ?_ | refine WkN.tup ?_)); (all_goals (first | exact okt | skip)))
    exact .gar rfl (fun i hi => absurd hi (by show ¬ ((i : Int) < 0); omega))
  · exact allc_nil
  have k117 := fun s ps a x => c117_4 b (by have := hok.last; omega) hok s ps a x (fun _ => .cells (bookC b)) (fun _ => .cells [.int .i64 fun _ => g.number, .int .i64 fun _ => g.from_, .int .i64 fun _ => g.to_]) (fun acc => .cells [.gsl 3 (fun _ => ((ridesL b g acc).length : Int))]) (fun acc => .gar 3 (fun _ => ((ridesL b g acc).length : Int)) (fun e => encRide (nt Sp.Ride default (ridesL b g acc) (e ()))))
  unfold bookI bookC at k117
  simp only [lst_nt hnt] at k117
  simp only [lstR_nt hnt]
  refine SC.mono (k117 _ _ _ _ ?_ ?_ ?_) ?_
  · intro acc; cbv
  · intro acc t; cbv
  · intro acc t day ha hm hs hd
    have hlen : 2 ≤ (calls b.zones t day).length := by rw [calls_len]; exact (tabOk hok hm).len.1
    have hlen4 : (calls b.zones t day).length ≤ 4 := by rw [calls_len]; exact (tabOk hok hm).len.2
    simp only [ridesL_snoc]
    generalize hr : rideOf b g (t, day) = rd at *
    unfold rideOf at hr
    dsimp only at hr
    have hO : (ridesL b g acc).length ≤ 1000 := Nat.le_trans (List.length_filterMap_le _ _) ha
    generalize ridesL b g acc = O at *
    generalize calls b.zones t day = C at *
    have k0 := c119 t day C g.from_ 0 (by omega) (by omega)
    have k1 := fun k hk => c119 t day C g.to_ k hk (by omega)
    have b0 := callAt_lt (C := C) (st := g.from_) (k := 0) (by omega)
    have b1 := fun k hk => callAt_lt (C := C) (st := g.to_) (k := k) hk
    unfold runV encTrain at *
    simp only [lst_nt hnt] at *
    refine YC.less (yieldR false false [] rfl rfl ?_)
    (cbv; (try simp only [nc] at *); (try refine Chk.mk (okc) ?_))
    refine ⟨fun h1 => ?_, fun h1 => ?_⟩
    · have h1' : t.number ≠ g.number := by simpa using h1
      rw [if_pos h1'] at hr
      rw [← hr]
      (cbv; (try simp only [nc] at *); (try refine Chk.mk (okc) ?_))
      refine ⟨_, _, ?_, rfl, rfl⟩
      simp only [List.append_nil]
      (refine To.of [] ?_; cbv; (try simp only [nc]); (repeat' (first | exact trivial | exact WkN.refl _ | exact WkB.refl _ | refine ⟨?_, ?_⟩ | refine WkB.cells ?_ | refine WkN.agg ?_ | refine WkN.tup ?_)); (all_goals (first | exact okt | skip)))
    have h1' : ¬ t.number ≠ g.number := by simpa using h1
    rw [if_neg h1'] at hr
    (cbv; (try simp only [nc] at *); (try refine Chk.mk (okc) ?_))
    refine call0 (k0) (by first | rfl | (simp only [zoneA, bookA, lst_nt hnt]; rfl)) fun r h₂ hp => ?_
    (try simp only [zoneA, bookA, lst_nt hnt] at hp)
    obtain ⟨rfl, rfl⟩ := hp
    generalize hf : callAt C g.from_ 0 = f at *
    (cbv; (try simp only [nc] at *); (try refine Chk.mk (okc) ?_))
    refine ⟨fun h2 => ?_, fun h2 => ?_⟩
    rotate_left
    · have h2' : f < 0 := by simpa using h2
      rw [if_pos h2'] at hr
      rw [← hr]
      (cbv; (try simp only [nc] at *); (try refine Chk.mk (okc) ?_))
      refine ⟨_, _, ?_, rfl, rfl⟩
      simp only [List.append_nil]
      (refine To.of [] ?_; cbv; (try simp only [nc]); (repeat' (first | exact trivial | exact WkN.refl _ | exact WkB.refl _ | refine ⟨?_, ?_⟩ | refine WkB.cells ?_ | refine WkN.agg ?_ | refine WkN.tup ?_)); (all_goals (first | exact okt | skip)))
    have h2' : ¬ f < 0 := by simpa using h2
    rw [if_neg h2'] at hr
    (cbv; try simp only [nc] at *)
    obtain ⟨f, rfl⟩ : ∃ k : Nat, f = k := ⟨f.toNat, by omega⟩
    rw [Int.toNat_natCast] at hr
    have k1 := k1 (f + 1) (by omega)
    have b1 := b1 (f + 1) (by omega)
    (cbv; (try simp only [nc] at *); (try refine Chk.mk (okc) ?_))
    refine call0 (k1) (by first | rfl | (simp only [zoneA, bookA, lst_nt hnt]; rfl)) fun r h₂ hp => ?_
    (try simp only [zoneA, bookA, lst_nt hnt] at hp)
    obtain ⟨rfl, rfl⟩ := hp
    generalize hm2 : callAt C g.to_ (f + 1) = m at *
    (cbv; (try simp only [nc] at *); (try refine Chk.mk (okc) ?_))
    refine ⟨fun h3 => ?_, fun h3 => ?_⟩
    rotate_left
    · have h3' : m < 0 := by simpa using h3
      rw [if_pos h3'] at hr
      rw [← hr]
      (cbv; (try simp only [nc] at *); (try refine Chk.mk (okc) ?_))
      refine ⟨_, _, ?_, rfl, rfl⟩
      simp only [List.append_nil]
      (refine To.of [] ?_; cbv; (try simp only [nc]); (repeat' (first | exact trivial | exact WkN.refl _ | exact WkB.refl _ | refine ⟨?_, ?_⟩ | refine WkB.cells ?_ | refine WkN.agg ?_ | refine WkN.tup ?_)); (all_goals (first | exact okt | skip)))
    have h3' : ¬ m < 0 := by simpa using h3
    rw [if_neg h3'] at hr
    (cbv; try simp only [nc] at *)
    obtain ⟨m, rfl⟩ : ∃ k : Nat, m = k := ⟨m.toNat, by omega⟩
    have e1 : C.getD ((f : Nat) : Int).toNat default = nt Sp.Call default C (f : Int) := by rw [hnt]
    have e2 : C.getD ((m : Nat) : Int).toNat default = nt Sp.Call default C (m : Int) := by rw [hnt]
    rw [Int.toNat_natCast] at e1
    rw [e1, e2] at hr
    rw [← hr]
    (cbv; (try simp only [nc] at *); (try refine Chk.mk (okc) ?_))
    refine ⟨_, _, ?_, rfl, rfl⟩
    (refine To.of [] ?_; cbv; (try simp only [nc]); (repeat' (first | exact trivial | exact WkN.refl _ | exact WkB.refl _ | refine ⟨?_, ?_⟩ | refine WkB.cells ?_ | refine WkN.agg ?_ | refine WkN.tup ?_)); (all_goals (first | exact okt | skip)))
  · intro r h hh
    subst hh
    (cbv; (try simp only [nc] at *); (try refine Chk.mk (okc) ?_))
    refine ⟨_, _, ?_, rfl, rfl⟩
    (refine To.of [] ?_; cbv; (try simp only [nc]); (repeat' (first | exact trivial | exact WkN.refl _ | exact WkB.refl _ | refine ⟨?_, ?_⟩ | refine WkB.cells ?_ | refine WkN.agg ?_ | refine WkN.tup ?_)); (all_goals (first | exact okt | skip)))
end Go.Proofs.YtlcgliadpalgfaaGreat.Vm

/- The abstract machine: an array that may grow is frozen. -/
namespace Go.Proofs.YtlcgliadpalgfaaGreat.Vm
open Go Go.Proofs

theorem To.freeze {s : List AV} {h : List Blk} {id sz : Nat} {n : Unit → Int} {f : (Unit → Int) → List AV} (hid : h[id]? = some (.gar sz n f)) : To s h s (h.set id (.fro sz n f)) := fun G R t H hs => by
  have hlt := (List.getElem?_eq_some_iff.1 hid).1
  let R' : RC := { R with ok := fun b o k => b < R.w.heap.size ∧ G b o k ∧ Avoid R (h.set id (.fro sz n f)) b o k }
  have hget : ∀ {j x}, (h.set id (.fro sz n f))[j]? = some x → (j = id ∧ x = .fro sz n f) ∨ (j ≠ id ∧ h[j]? = some x) := fun {j x} hx => by
    rw [List.getElem?_set] at hx
    split at hx
    · rename_i e
      simp only [Option.some.injEq] at hx
      exact .inl ⟨e.symm, hx.symm⟩
    · rename_i e
      exact .inr ⟨fun e' => e e'.symm, hx⟩
  have hok : ∀ b o k, R.ok b o k → R'.ok b o k := fun b o k hk => by
    obtain ⟨h1, h2, h3⟩ := (H.okd _ _ _).1 hk
    refine ⟨h1, h2, fun j x hx => ?_⟩
    rcases hget hx with ⟨rfl, rfl⟩ | ⟨hne, hx⟩
    · exact fun h => h
    · exact h3 j x hx
  have hle : R.le R' := ⟨Nat.le_refl _, fun _ _ => rfl, fun _ _ => ⟨Int.le_refl _, fun _ => rfl⟩, hok, fun _ _ _ _ _ _ => rfl⟩
  have hph : ∀ {j x b}, (h.set id (.fro sz n f))[j]? = some x → Phys R' j x b → j ≠ id ∧ h[j]? = some x ∧ Phys R j x b := fun {j x b} hx hp => by
    rcases hget hx with ⟨rfl, rfl⟩ | ⟨hne, hx⟩
    · exact hp.elim
    · exact ⟨hne, hx, (Phys.congr (R := R) rfl rfl).1 hp⟩
  refine ⟨R', rfl, ⟨?_, fun _ _ _ => Iff.rfl, fun j x hx => ?_, fun i j bi bj b hij hi hj hp hp' => ?_, H.cl, H.fresh, fun j x b hx hk hp o k => ?_⟩, ⟨rfl, rfl, rfl, Nat.le_refl _, Nat.le_refl _, fun _ _ => rfl, hok, fun _ _ _ _ _ _ => rfl, fun _ _ _ => rfl, fun j x b hx hp => ?_⟩, hle, hs.mono hle⟩
  · rw [List.length_set]; exact H.len
  · rcases hget hx with ⟨rfl, rfl⟩ | ⟨hne, hx⟩
    · obtain ⟨e1, e2⟩ := H.blk _ _ hid
      refine ⟨e1, ?_⟩
      rcases e2 with ⟨h0, a0, h1⟩ | ⟨b, o, len, cap, arr, ty, a1, a2, a3, a4, a5, a6⟩
      · show PR R'.w R'.ok _ (R.hv _)
        rw [h1]
        cases a0 with
        | none => exact .isl0 _ _ _ _ h0 (fun _ h => by cases h)
        | some a0 => exact .islE _ _ _ _ a0 h0 (.inl rfl)
      · show PR R'.w R'.ok _ (R.hv _)
        rw [a3]
        rcases Nat.eq_zero_or_pos cap with hc0 | hc0
        · rw [hc0, show len = 0 by omega]
          exact .islE _ _ _ _ ⟨b, o, none⟩ (by omega) (.inl rfl)
        have hmul : len * sz ≤ cap * sz := Nat.mul_le_mul_right _ a2
        have hb : Phys R j (.gar sz n f) b := ⟨_, _, _, a3, hc0, rfl⟩
        refine .isl _ _ _ _ b o len cap (fun i j => arr.getD (o + i * sz + j) undef) a1 a2 (.inl rfl) (fun h => by cases h) (fun i hi => (a6 i hi).1) (fun i j c hi hj => ?_) (fun i j c hi hj => ?_) ?_
        · have hjs : j < sz := by rw [← (a6 i hi).1]; exact (List.getElem?_eq_some_iff.1 hj).1
          have : (i + 1) * sz ≤ len * sz := Nat.mul_le_mul_right _ hi
          rw [Nat.succ_mul] at this
          exact cell_of_heap (w := R.w) a4 (by omega)
        · exact ((a6 i hi).2 j c hj).mono hok (fun _ _ _ _ _ _ => rfl)
        · refine ⟨H.phys_lt hid hb, H.tokG _ _ _ hid rfl hb _ _, fun i x hx => ?_⟩
          rcases hget hx with ⟨rfl, rfl⟩ | ⟨hne, hx⟩
          · exact fun h => h
          · exact avoid_of_not fun hp => H.dis _ _ _ _ b (fun e => hne e.symm) hid hx hb hp
    · exact (H.blk j x hx).mono hle rfl rfl rfl (fun _ _ => rfl)
  · obtain ⟨_, hx, hp⟩ := hph hi hp
    obtain ⟨_, hx', hp'⟩ := hph hj hp'
    exact H.dis i j bi bj b hij hx hx' hp hp'
  · obtain ⟨_, hx, hp⟩ := hph hx hp
    exact H.tokG j x b hx hk hp o k
  · obtain ⟨_, hx, hp⟩ := hph hx hp
    exact .inr ⟨x, hx, hp⟩

/-- The same, and slices of it are immutable ones. -/
theorem To.froze {s : List AV} {h : List Blk} {id sz : Nat} {n : Unit → Int} {f : (Unit → Int) → List AV} (hid : h[id]? = some (.gar sz n f)) : To s h (s.map (rsv (h.set id (.fro sz n f)))) (h.set id (.fro sz n f)) := fun G R t H hs => by
  obtain ⟨R', a1, a2, a3, a4, a5⟩ := To.freeze (s := s) hid G R t H hs
  have := SL.rsv a2 a5 { tb with rs := true }
  exact ⟨R', a1, a2, a3, a4, this⟩
end Go.Proofs.YtlcgliadpalgfaaGreat.Vm

/- Contracts: trips. -/
namespace Go.Proofs.YtlcgliadpalgfaaGreat.Vm
open Go Go.Proofs Sp
set_option maxRecDepth 100000
set_option maxHeartbeats 1600000

theorem c107 (x : Sp.Ride) (a : Int) : SC (fun _ => Tryz.prog) 99 [.agg (encRide x), .ptr 0 0] [.cells [.int .i64 fun _ => a]] fun v h => v = .bool (fun _ => decide (x.depart < a)) ∧ h = [.cells [.int .i64 fun _ => a]] := by
  refine con Tryz.func99 (body := bodyOf Tryz.f99) rfl (by decide +kernel) ?_
  (cbv; (try simp only [nc] at *); (try refine Chk.mk (okc) ?_))
  (try first | exact ⟨rfl, trivial⟩ | exact ⟨trivial, trivial⟩)
theorem c109 (x : Sp.Ride) : SC (fun _ => Tryz.prog) 100 [.agg (encRide x)] [] fun v h => v = .int .i64 (fun _ => x.depart) ∧ h = [] := by
  refine con Tryz.func100 (body := bodyOf Tryz.f100) rfl (by decide +kernel) ?_
  (cbv; (try simp only [nc] at *); (try refine Chk.mk (okc) ?_))
  (try first | exact ⟨rfl, trivial⟩ | exact ⟨trivial, trivial⟩)

theorem c120 (l : List Sp.Ride) (a c : Int) (hl : l.length ≤ 1000) : SC (fun _ => Tryz.prog) 106 [.msl 0 3 (fun _ => 0) (fun _ => (l.length : Int)) (fun _ => c), .fn 99 [] [.ptr 1 0]] [.arr 3 (fun _ => (l.length : Int)) (lstR encRide default l), .cells [.int .i64 fun _ => a]]
    fun v h => v = .int .i64 (fun _ => indexFrom (fun x => decide (x.depart < a)) 0 l) ∧ h = [.arr 3 (fun _ => (l.length : Int)) (lstR encRide default l), .cells [.int .i64 fun _ => a]] := by
  obtain ⟨nt, hnt⟩ := nth_ex
  refine con Tryz.func106 (body := bodyOf Tryz.f106) rfl (by decide +kernel) ?_
  simp only [lstR_nt hnt]
  (cbv; (try simp only [nc] at *); (try refine Chk.mk (okc) ?_))
  refine loopS false false [] [0, 1, 7, 8] [] (fun (i : Nat) => [(8, .int .i64 fun _ => i)]) (fun _ => []) (fun i => i ≤ l.length ∧ indexFrom (fun x : Sp.Ride => decide (x.depart < a)) 0 l = indexFrom (fun x => decide (x.depart < a)) i (l.drop i)) (fun i => l.length - i + 0) 0 ⟨Nat.zero_le _, by simp⟩ ?_ ?_
  · (refine To.of [] ?_; cbv; (try simp only [nc]); (repeat' (first | exact trivial | exact WkN.refl _ | exact WkB.refl _ | refine ⟨?_, ?_⟩ | refine WkB.cells ?_ | refine WkN.agg ?_ | refine WkN.tup ?_)); (all_goals (first | exact okt | skip)))
  rintro i ⟨hi, hp⟩
  (cbv; (try simp only [nc] at *); (try refine Chk.mk (okc) ?_))
  refine ⟨fun hb => ?_, fun hb => ?_⟩
  · simp only [decide_eq_true_eq] at hb
    have hd := nt_drop (d := default) hnt (l := l) (i := i) (by omega)
    rw [hd, indexFrom] at hp
    have k := c107 (nt Sp.Ride default l (i : Int)) a
    (cbv; (try simp only [nc] at *); (try refine Chk.mk (okc) ?_))
    simp only [Int.zero_add]
    refine callL [1] (k) (by decide) (by simp) (by first | rfl | (simp only [zoneA, bookA, lst_nt hnt]; rfl)) (by first | rfl | (simp only [zoneA, bookA, lst_nt hnt]; rfl)) fun r h₂ hp => ?_
    (try simp only [zoneA, bookA, lst_nt hnt] at hp)
    obtain ⟨rfl, rfl⟩ := hp
    (cbv; (try simp only [nc] at *); (try refine Chk.mk (okc) ?_))
    refine ⟨fun hb => ?_, fun hb => ?_⟩
    · rw [if_pos (by simpa using hb)] at hp
      rw [hp]
      (cbv; (try simp only [nc] at *); (try refine Chk.mk (okc) ?_))
    · rw [if_neg (by simpa using hb)] at hp
      (cbv; (try simp only [nc] at *); (try refine Chk.mk (okc) ?_))
      refine ⟨i + 1, ⟨by omega, hp⟩, by show l.length - (i + 1) + 0 < l.length - i + 0; omega, ?_⟩
      (refine To.of [] ?_; cbv; (try simp only [nc]); (repeat' (first | exact trivial | exact WkN.refl _ | exact WkB.refl _ | refine ⟨?_, ?_⟩ | refine WkB.cells ?_ | refine WkN.agg ?_ | refine WkN.tup ?_)); (all_goals (first | exact okt | skip)))
  · simp only [decide_eq_false_iff_not] at hb
    rw [List.drop_eq_nil_of_le (by omega), indexFrom] at hp
    rw [hp]
    (cbv; (try simp only [nc] at *); (try refine Chk.mk (okc) ?_))

theorem set_nt {nt : (α : Type) → α → List α → Int → α} (hnt : ∀ (α : Type) (d : α) (l : List α) (i : Int), nt α d l i = l.getD i.toNat d) {α : Type} {d : α} {L : List α} {i x : Nat} {v : α} (hi : i < L.length) : nt α d (L.set i v) (x : Int) = if (x : Int) = i then v else nt α d L (x : Int) := by
  rw [hnt, hnt]
  simp only [Int.toNat_natCast, List.getD_eq_getElem?_getD, List.getElem?_set]
  by_cases h : i = x
  · subst h
    simp [hi]
  · rw [if_neg h, if_neg (by omega)]

theorem set_take {α : Type} {E : List α} {i : Nat} {x : α} (hi : i < E.length) : (E.set i x).take (i + 1) = E.take i ++ [x] := by
  rw [List.take_succ_eq_append_getElem (by simpa using hi)]
  simp [List.take_set_of_le]

/-- What is left of rides when those ahead of an instant go. -/
def since (a : Int) (l : List Sp.Ride) : List Sp.Ride := l.filter fun x => !decide (x.depart < a)

theorem indexFrom_none {α : Type} {q : α → Bool} : ∀ {l : List α} {k : Int}, 0 ≤ k → indexFrom q k l = -1 → ∀ x ∈ l, q x = false
  | [], _, _, _, x, hx => by cases hx
  | a :: l, k, hk, h, x, hx => by
    unfold indexFrom at h
    split at h
    · omega
    · rename_i hq
      rcases List.mem_cons.1 hx with rfl | hx
      · simpa using hq
      · exact indexFrom_none (by omega) h x hx
theorem indexFrom_some {α : Type} {q : α → Bool} : ∀ {l : List α} {k i : Nat}, indexFrom q k l = i → k ≤ i ∧ i - k < l.length ∧ (∀ x ∈ l.take (i - k), q x = false) ∧ ∀ x, l[i - k]? = some x → q x = true
  | [], k, i, h => by unfold indexFrom at h; omega
  | a :: l, k, i, h => by
    unfold indexFrom at h
    split at h
    · rename_i hq
      have : i = k := by omega
      subst this
      simp only [Nat.sub_self]
      exact ⟨Nat.le_refl _, by simp, (fun x hx => by simp at hx), fun x hx => by simp at hx; subst hx; exact hq⟩
    · rename_i hq
      obtain ⟨h1, h2, h3, h4⟩ := indexFrom_some (l := l) (k := k + 1) (i := i) (by simpa using h)
      have e : i - k = (i - (k + 1)) + 1 := by omega
      rw [e]
      refine ⟨by omega, by simp; omega, fun x hx => ?_, fun x hx => h4 x (by simpa using hx)⟩
      simp only [List.take_succ_cons, List.mem_cons] at hx
      rcases hx with rfl | hx
      · simpa using hq
      · exact h3 x hx

theorem c106m (l : List Sp.Ride) (a c : Int) (hc : (l.length : Int) ≤ c) (hl : l.length ≤ 1000) : SC (fun _ => Tryz.prog) 98 [.msl 0 3 (fun _ => 0) (fun _ => (l.length : Int)) (fun _ => c), .fn 99 [] [.ptr 1 0]] [.arr 3 (fun _ => (l.length : Int)) (lstR encRide default l), .cells [.int .i64 fun _ => a]]
    fun v h => ∃ E : List Sp.Ride, E.length = l.length ∧ E.take (since a l).length = since a l ∧ v = .msl 0 3 (fun _ => 0) (fun _ => ((since a l).length : Int)) (fun _ => c) ∧ h = [.arr 3 (fun _ => (l.length : Int)) (lstR encRide default E), .cells [.int .i64 fun _ => a]] := by
  obtain ⟨nt, hnt⟩ := nth_ex
  have k120 := c120 l a c hl
  refine SC.less (con Tryz.func98 (body := bodyOf Tryz.f98) rfl (by decide +kernel) ?_)
  simp only [lstR_nt hnt] at *
  (cbv; (try simp only [nc] at *); (try refine Chk.mk (okc) ?_))
  refine callL [0, 1] (k120) (by decide) (by simp) (by first | rfl | (simp only [zoneA, bookA, lst_nt hnt]; rfl)) (by first | rfl | (simp only [zoneA, bookA, lst_nt hnt]; rfl)) fun r h₂ hp => ?_
  (try simp only [zoneA, bookA, lst_nt hnt] at hp)
  obtain ⟨rfl, rfl⟩ := hp
  generalize hI : indexFrom (fun x : Sp.Ride => decide (x.depart < a)) 0 l = I at *
  have hI2 : I = -1 ∨ (0 ≤ I ∧ I < l.length) := by
    rw [← hI]
    rcases Nat.eq_zero_or_pos l.length with h | h
    · rw [List.eq_nil_of_length_eq_zero h]; exact .inl rfl
    · have := indexFrom_lt (q := fun x : Sp.Ride => decide (x.depart < a)) (l := l) (i := 0) (by omega)
      omega
  (cbv; (try simp only [nc] at *); (try refine Chk.mk (okc) ?_))
  refine ⟨fun hb => ?_, fun hb => ?_⟩
  · simp only [beq_iff_eq] at hb
    have hall := indexFrom_none (by omega) (hI.trans hb)
    have hs : since a l = l := List.filter_eq_self.2 fun x hx => by rw [hall x hx]; rfl
    rw [hs]
    (cbv; (try simp only [nc] at *); (try refine Chk.mk (okc) ?_))
    refine ⟨_, _, ?_, l, rfl, List.take_length .., rfl, rfl⟩
    (refine To.of [] ?_; cbv; (try simp only [nc]); (repeat' (first | exact trivial | exact WkN.refl _ | exact WkB.refl _ | refine ⟨?_, ?_⟩ | refine WkB.cells ?_ | refine WkN.agg ?_ | refine WkN.tup ?_)); (all_goals (first | exact okt | skip)))
  · have hb' : I ≠ -1 := by simpa using hb
    (cbv; (try simp only [nc] at *); (try refine Chk.mk (okc) ?_))
    obtain ⟨i0, rfl⟩ : ∃ k : Nat, I = k := ⟨I.toNat, by omega⟩
    obtain ⟨_, g1, g2, g3⟩ := indexFrom_some (k := 0) hI
    refine loopS false false [] [0, 1, 5, 6] [] (fun (⟨i, j, E⟩ : Nat × Nat × List Sp.Ride) => [(5, .int .i64 fun _ => i), (6, .int .i64 fun _ => j)]) (fun ⟨i, j, E⟩ => [(0, .arr 3 (fun _ => (l.length : Int)) (fun e => encRide (nt Sp.Ride default E (e ()))))])
      (fun ⟨i, j, E⟩ => i < j ∧ j ≤ l.length ∧ E.length = l.length ∧ E.take i = since a (l.take j) ∧ E.drop j = l.drop j ∧ i = (since a (l.take j)).length) (fun i => l.length - i.2.1 + 0) (i0, i0 + 1, l) ?_ ?_ ?_
    · have hx : l[i0]? = some (nt Sp.Ride default l (i0 : Int)) := by
        rw [hnt, Int.toNat_natCast, List.getD_eq_getElem?_getD, List.getElem?_eq_getElem (by omega)]; rfl
      have hs : since a (l.take (i0 + 1)) = l.take i0 := by
        rw [nt_take (d := default) hnt (by omega : i0 < l.length)]
        unfold since
        rw [List.filter_append, List.filter_eq_self.2 fun x hx => by rw [g2 x hx]; rfl]
        have := g3 _ hx
        simp only [List.filter, this, Bool.not_true, List.append_nil]
      refine ⟨by omega, by omega, rfl, hs.symm, rfl, ?_⟩
      rw [hs, List.length_take]
      omega
    · (refine To.of [] ?_; cbv; (try simp only [nc]); (repeat' (first | exact trivial | exact WkN.refl _ | exact WkB.refl _ | refine ⟨?_, ?_⟩ | refine WkB.cells ?_ | refine WkN.agg ?_ | refine WkN.tup ?_)); (all_goals (first | exact okt | skip)))
    rintro ⟨i, j, E⟩ ⟨h1, h2, h3, h4, h5, h6⟩
    (cbv; (try simp only [nc] at *); (try refine Chk.mk (okc) ?_))
    refine ⟨fun hb => ?_, fun hb => ?_⟩
    · simp only [decide_eq_true_eq] at hb
      have hej : nt Sp.Ride default E (j : Int) = nt Sp.Ride default l (j : Int) := by
        have e : (E.drop j).getD 0 default = (l.drop j).getD 0 default := by rw [h5]
        rw [hnt, hnt, Int.toNat_natCast]
        simpa [List.getD_eq_getElem?_getD, List.getElem?_drop] using e
      have hd5 : E.drop (j + 1) = l.drop (j + 1) := by rw [← List.drop_drop, ← List.drop_drop, h5]
      have hsn : since a (l.take (j + 1)) = since a (l.take j) ++ (if decide ((nt Sp.Ride default l (j : Int)).depart < a) = false then [nt Sp.Ride default l (j : Int)] else []) := by
        rw [nt_take (d := default) hnt (by omega : j < l.length)]
        unfold since
        rw [List.filter_append]
        congr 1
        cases h : decide ((nt Sp.Ride default l (j : Int)).depart < a)
        · simp only [List.filter, h, Bool.not_false, if_true]
        · simp only [List.filter, h, Bool.not_true, Bool.true_eq_false, if_false]
      have k := c107 (nt Sp.Ride default l (j : Int)) a
      (cbv; (try simp only [nc] at *); (try refine Chk.mk (okc) ?_))
      simp only [Int.zero_add, hej]
      refine callL [1] (k) (by decide) (by simp) (by first | rfl | (simp only [zoneA, bookA, lst_nt hnt]; rfl)) (by first | rfl | (simp only [zoneA, bookA, lst_nt hnt]; rfl)) fun r h₂ hp => ?_
      (try simp only [zoneA, bookA, lst_nt hnt] at hp)
      obtain ⟨rfl, rfl⟩ := hp
      generalize hx : nt Sp.Ride default l (j : Int) = x at *
      (cbv; (try simp only [nc] at *); (try refine Chk.mk (okc) ?_))
      refine ⟨fun hq => ?_, fun hq => ?_⟩
      · have hq' : decide (x.depart < a) = false := by simpa using hq
        rw [hq', if_pos rfl] at hsn
        (cbv; (try simp only [nc] at *); (try refine Chk.mk (okc) ?_))
        refine ⟨(i + 1, j + 1, E.set i x), ⟨by show i + 1 < j + 1; omega, by show j + 1 ≤ l.length; omega, by simpa using h3, ?_, ?_, ?_⟩, by show l.length - (j + 1) + 0 < l.length - j + 0; omega, ?_⟩
        · show (E.set i x).take (i + 1) = since a (l.take (j + 1))
          rw [hsn, ← h4]
          exact set_take (by omega)
        · show (E.set i x).drop (j + 1) = l.drop (j + 1)
          rw [← hd5]
          exact List.drop_set_of_lt (by omega)
        · show i + 1 = (since a (l.take (j + 1))).length
          rw [hsn, List.length_append, ← h6]
          rfl
        · (refine To.of [] ?_; cbv; (try simp only [nc]); (repeat' (first | exact trivial | exact WkN.refl _ | exact WkB.refl _ | refine ⟨?_, ?_⟩ | refine WkB.cells ?_ | refine WkN.agg ?_ | refine WkN.tup ?_)); (all_goals (first | exact okt | skip)))
          refine .arr rfl fun y hy => ?_
          cbv
          simp only [nc, Int.zero_add]
          have e := set_nt hnt (d := default) (x := y) (v := x) (by omega : i < E.length)
          by_cases hyi : (y : Int) = i
          · rw [if_pos hyi] at e
            rw [e, hyi, decide_eq_true rfl]
            rfl
          · rw [if_neg hyi] at e
            rw [e, decide_eq_false hyi]
            rfl
      · have hq' : decide (x.depart < a) = true := by simpa using hq
        rw [hq', if_neg (by simp), List.append_nil] at hsn
        (cbv; (try simp only [nc] at *); (try refine Chk.mk (okc) ?_))
        refine ⟨(i, j + 1, E), ⟨by show i < j + 1; omega, by show j + 1 ≤ l.length; omega, h3, by rw [hsn]; exact h4, hd5, by rw [hsn]; exact h6⟩, by show l.length - (j + 1) + 0 < l.length - j + 0; omega, ?_⟩
        (refine To.of [] ?_; cbv; (try simp only [nc]); (repeat' (first | exact trivial | exact WkN.refl _ | exact WkB.refl _ | refine ⟨?_, ?_⟩ | refine WkB.cells ?_ | refine WkN.agg ?_ | refine WkN.tup ?_)); (all_goals (first | exact okt | skip)))
    · have hj : j = l.length := by simp only [decide_eq_false_iff_not] at hb; omega
      subst hj
      rw [List.take_length] at h4 h6
      rw [← h6]
      (cbv; (try simp only [nc] at *); (try refine Chk.mk (okc) ?_))
      refine ⟨.msl 0 3 (fun _ => 0) (fun _ => (i : Int)) (fun _ => c), [.arr 3 (fun _ => (l.length : Int)) fun e => encRide (nt Sp.Ride default ((List.range l.length).map fun k => bif decide (i ≤ k) then (⟨0, 0, 0⟩ : Sp.Ride) else nt Sp.Ride default E (k : Int)) (e ())), .cells [.int .i64 fun _ => a]], ?_, (List.range l.length).map fun k => bif decide (i ≤ k) then (⟨0, 0, 0⟩ : Sp.Ride) else nt Sp.Ride default E (k : Int), ?_, ?_, rfl, rfl⟩
      · (refine To.of [] ?_; cbv; (try simp only [nc]); (repeat' (first | exact trivial | exact WkN.refl _ | exact WkB.refl _ | refine ⟨?_, ?_⟩ | refine WkB.cells ?_ | refine WkN.agg ?_ | refine WkN.tup ?_)); (all_goals (first | exact okt | skip)))
        refine .arr rfl fun y hy => ?_
        have hy' : y < l.length := by have : (y : Int) < (l.length : Int) := hy; omega
        have e : nt Sp.Ride default ((List.range l.length).map fun k => bif decide (i ≤ k) then (⟨0, 0, 0⟩ : Sp.Ride) else nt Sp.Ride default E (k : Int)) (y : Int) = bif decide (i ≤ y) then (⟨0, 0, 0⟩ : Sp.Ride) else nt Sp.Ride default E (y : Int) := by
          rw [hnt, Int.toNat_natCast, List.getD_eq_getElem?_getD]
          simp [hy']
        cbv
        simp only [nc, Int.zero_add]
        rw [e]
        by_cases hyi : i ≤ y
        · rw [decide_eq_true hyi, decide_eq_true (by omega)]
          rfl
        · rw [decide_eq_false hyi, decide_eq_false (by omega)]
          rfl
      · simp
      · rw [← h4]
        refine List.ext_getElem (by simp; omega) fun k hk1 hk2 => ?_
        simp only [List.getElem_take, List.getElem_map, List.getElem_range]
        simp at hk1
        rw [decide_eq_false (by omega), hnt, Int.toNat_natCast, List.getD_eq_getElem?_getD, List.getElem?_eq_getElem (by omega)]
        rfl

theorem c120e (a : Int) (F : (Unit → Int) → List AV) : SC (fun _ => Tryz.prog) 106 [.isl 3 (fun _ => 0) F .none, .fn 99 [] [.ptr 0 0]] [.cells [.int .i64 fun _ => a]] fun v h => v = .int .i64 (fun _ => -1) ∧ h = [.cells [.int .i64 fun _ => a]] := by
  refine con Tryz.func106 (body := bodyOf Tryz.f106) rfl (by decide +kernel) ?_
  (cbv; (try simp only [nc] at *); (try refine Chk.mk (okc) ?_))
  refine loopS false false [] [0, 1, 7, 8] [] (fun (_ : Unit) => [(8, .int .i64 fun _ => 0)]) (fun _ => []) (fun _ => True) (fun _ => 0) () trivial ?_ ?_
  · (refine To.of [] ?_; cbv; (try simp only [nc]); (repeat' (first | exact trivial | exact WkN.refl _ | exact WkB.refl _ | refine ⟨?_, ?_⟩ | refine WkB.cells ?_ | refine WkN.agg ?_ | refine WkN.tup ?_)); (all_goals (first | exact okt | skip)))
  intro _ _
  (cbv; (try simp only [nc] at *); (try refine Chk.mk (okc) ?_))
  refine Br.isF rfl ?_
  (cbv; (try simp only [nc] at *); (try refine Chk.mk (okc) ?_))
  (try first | exact ⟨rfl, trivial⟩ | exact ⟨trivial, trivial⟩)
theorem c106e (a : Int) (F : (Unit → Int) → List AV) : SC (fun _ => Tryz.prog) 98 [.isl 3 (fun _ => 0) F .none, .fn 99 [] [.ptr 0 0]] [.cells [.int .i64 fun _ => a]] fun v h => v = .isl 3 (fun _ => 0) F .none ∧ h = [.cells [.int .i64 fun _ => a]] := by
  have k := c120e a F
  refine con Tryz.func98 (body := bodyOf Tryz.f98) rfl (by decide +kernel) ?_
  (cbv; (try simp only [nc] at *); (try refine Chk.mk (okc) ?_))
  refine callL [0] (k) (by decide) (by simp) (by first | rfl | (simp only [zoneA, bookA, lst_nt hnt]; rfl)) (by first | rfl | (simp only [zoneA, bookA, lst_nt hnt]; rfl)) fun r h₂ hp => ?_
  (try simp only [zoneA, bookA, lst_nt hnt] at hp)
  obtain ⟨rfl, rfl⟩ := hp
  (cbv; (try simp only [nc] at *); (try refine Chk.mk (okc) ?_))
  refine Br.isT rfl ?_
  (cbv; (try simp only [nc] at *); (try refine Chk.mk (okc) ?_))
  (try first | exact ⟨rfl, trivial⟩ | exact ⟨trivial, trivial⟩)

theorem c106 (l : List Sp.Ride) (a : Int) (hl : l.length ≤ 1000) : SC (fun _ => Tryz.prog) 98 [.gsl 0 (fun _ => (l.length : Int)), .fn 99 [] [.ptr 1 0]] [.gar 3 (fun _ => (l.length : Int)) (lstR encRide default l), .cells [.int .i64 fun _ => a]]
    fun v h => v = lst 3 encRide default (since a l) ∧ ∃ n F, h = [.fro 3 n F, .cells [.int .i64 fun _ => a]] := by
  obtain ⟨nt, hnt⟩ := nth_ex
  rcases Nat.eq_zero_or_pos l.length with h0 | h0
  · have e : l = [] := List.eq_nil_of_length_eq_zero h0
    subst e
    refine SC.to (To.froze (id := 0) rfl) ?_
    refine SC.to (xs₂ := [.isl 3 (fun _ => 0) (lstR encRide default []) .none, .fn 99 [] [.ptr 1 0]]) (h₂ := [.fro 3 (fun _ => 0) (lstR encRide default []), .cells [.int .i64 fun _ => a]]) ?_ ?_
    · (refine To.of [] ?_; cbv; (try simp only [nc]); (repeat' (first | exact trivial | exact WkN.refl _ | exact WkB.refl _ | refine ⟨?_, ?_⟩ | refine WkB.cells ?_ | refine WkN.agg ?_ | refine WkN.tup ?_)); (all_goals (first | exact okt | skip)))
    · have k := c106e a (lstR encRide default [])
      refine callL [1] (k) (by decide) (by simp) (by first | rfl | (simp only [zoneA, bookA, lst_nt hnt]; rfl)) (by first | rfl | (simp only [zoneA, bookA, lst_nt hnt]; rfl)) fun r h₂ hp => ?_
      (try simp only [zoneA, bookA, lst_nt hnt] at hp)
      obtain ⟨rfl, rfl⟩ := hp
      exact ⟨rfl, _, _, rfl⟩
  · refine SC.less (SC.inPlace rfl (by show (0 : Int) < (l.length : Int); omega) rfl rfl fun c hc => (c106m l a c hc hl).mono fun r h hp => ?_)
    obtain ⟨E, e1, e2, rfl, rfl⟩ := hp
    have e3 : (since a l).length ≤ l.length := List.length_filter_le _ _
    refine ⟨lstR encRide default E, _, rfl, rfl, lst 3 encRide default (since a l), [.fro 3 (fun _ => (l.length : Int)) (lstR encRide default E), .cells [.int .i64 fun _ => a]], ?_, rfl, _, _, rfl⟩
    refine To.of [] ⟨⟨.gd (decide_eq_true (by dsimp only; omega)) (.none rfl fun i hi => ?_), trivial⟩, .refl _, .refl _, trivial⟩
    have hi' : i < (since a l).length := by have : (i : Int) < ((since a l).length : Int) := hi; omega
    unfold lstR
    simp only [Int.zero_add]
    refine congrArg encRide ?_
    have : (since a l).getD (i : Int).toNat default = (E.take (since a l).length).getD (i : Int).toNat default := by rw [e2]
    rw [this]
    simp only [Int.toNat_natCast, List.getD_eq_getElem?_getD, List.getElem?_take, if_pos hi']
end Go.Proofs.YtlcgliadpalgfaaGreat.Vm

/- Contracts: trips, the least ride. -/
namespace Go.Proofs.YtlcgliadpalgfaaGreat.Vm
open Go Go.Proofs Sp
set_option maxRecDepth 100000
set_option maxHeartbeats 1600000

/-- The first ride that goes least late. -/
def leastGo : Nat → Sp.Ride → List Sp.Ride → Sp.Ride
  | _, best, [] => best
  | i, best, x :: r => leastGo (i + 1) (if i = 0 ∨ x.depart < best.depart then x else best) r
def least (l : List Sp.Ride) : Sp.Ride := leastGo 0 ⟨0, 0, 0⟩ l

theorem c108g (f : FuncId) (hf : ∀ x : Sp.Ride, SC (fun _ => Tryz.prog) f [.agg (encRide x)] [] fun v h => v = .int .i64 (fun _ => x.depart) ∧ h = []) (l : List Sp.Ride) (hl : l.length ≤ 1000) : SC (fun _ => Tryz.prog) 79 [lst 3 encRide default l, .fn f [] []] [] fun v h => v = .tup [.agg (encRide (least l)), .bool fun _ => decide (0 < l.length)] ∧ h = [] := by
  obtain ⟨nt, hnt⟩ := nth_ex
  refine SC.less (conX false false [6] Tryz.func79 (body := bodyOf Tryz.f79) rfl (by decide +kernel) ?_)
  simp only [lst_nt hnt]
  unfold least
  generalize hL : leastGo 0 ⟨0, 0, 0⟩ l = L
  (cbv; (try simp only [nc] at *); (try refine Chk.mk (okc) ?_))
  refine loopS false false [6] [0, 1, 4, 8, 9, 10] [] (fun (⟨i, x⟩ : Nat × Sp.Ride) => [(10, .int .i64 fun _ => i)]) (fun ⟨i, x⟩ => [(0, .cells (encRide x))]) (fun ⟨i, x⟩ => i ≤ l.length ∧ leastGo i x (l.drop i) = L) (fun i => l.length - i.1 + 0) (0, ⟨0, 0, 0⟩) ⟨Nat.zero_le _, by simpa using hL⟩ ?_ ?_
  · (refine To.of [] ?_; cbv; (try simp only [nc]); (repeat' (first | exact trivial | exact WkN.refl _ | exact WkB.refl _ | refine ⟨?_, ?_⟩ | refine WkB.cells ?_ | refine WkN.agg ?_ | refine WkN.tup ?_)); (all_goals (first | exact okt | skip)))
  rintro ⟨i, x⟩ ⟨hi, hp⟩
  (cbv; (try simp only [nc] at *); (try refine Chk.mk (okc) ?_))
  refine ⟨fun hb => ?_, fun hb => ?_⟩
  · simp only [decide_eq_true_eq] at hb
    rw [nt_drop (d := default) hnt (l := l) (i := i) (by omega), leastGo] at hp
    generalize hy : nt Sp.Ride default l (i : Int) = y at *
    (cbv; (try simp only [nc] at *); (try refine Chk.mk (okc) ?_))
    refine cutD false false [] 50 [0, 1, 4, 8, 9, 10] (fun _ : Unit => []) (fun _ => [(0, .cells (encRide (if i = 0 ∨ y.depart < x.depart then y else x)))]) (fun _ => True) (fun _ _ h => h) (by decide) ?_ ?_
    · have k1 := hf y
      have k2 := hf x
      (cbv; (try simp only [nc] at *); (try refine Chk.mk (okc) ?_))
      simp only [hy]
      refine ⟨fun h1 => ?_, fun h1 => ?_⟩
      · have hi0 : ¬ i = 0 := by simpa using h1
        (cbv; (try simp only [nc] at *); (try refine Chk.mk (okc) ?_))
        refine call0 (k1) (by first | rfl | (simp only [zoneA, bookA, lst_nt hnt]; rfl)) fun r h₂ hp => ?_
        (try simp only [zoneA, bookA, lst_nt hnt] at hp)
        obtain ⟨rfl, rfl⟩ := hp
        (cbv; (try simp only [nc] at *); (try refine Chk.mk (okc) ?_))
        refine Br.isT (by simp [hi0]) ?_
        (cbv; (try simp only [nc] at *); (try refine Chk.mk (okc) ?_))
        refine call0 (k2) (by first | rfl | (simp only [zoneA, bookA, lst_nt hnt]; rfl)) fun r h₂ hp => ?_
        (try simp only [zoneA, bookA, lst_nt hnt] at hp)
        obtain ⟨rfl, rfl⟩ := hp
        (cbv; (try simp only [nc] at *); (try refine Chk.mk (okc) ?_))
        refine ⟨fun h2 => ?_, fun h2 => ?_⟩
        · have h2' : y.depart < x.depart := by simpa [hi0] using h2
          (cbv; (try simp only [nc] at *); (try refine Chk.mk (okc) ?_))
          refine ⟨(), trivial, ?_⟩
          rw [if_pos (.inr h2')]
          (refine To.of [] ?_; cbv; (try simp only [nc]); (repeat' (first | exact trivial | exact WkN.refl _ | exact WkB.refl _ | refine ⟨?_, ?_⟩ | refine WkB.cells ?_ | refine WkN.agg ?_ | refine WkN.tup ?_)); (all_goals (first | exact okt | skip)))
        · have h2' : ¬ (i = 0 ∨ y.depart < x.depart) := by simpa [hi0] using h2
          (cbv; (try simp only [nc] at *); (try refine Chk.mk (okc) ?_))
          refine ⟨(), trivial, ?_⟩
          rw [if_neg h2']
          (refine To.of [] ?_; cbv; (try simp only [nc]); (repeat' (first | exact trivial | exact WkN.refl _ | exact WkB.refl _ | refine ⟨?_, ?_⟩ | refine WkB.cells ?_ | refine WkN.agg ?_ | refine WkN.tup ?_)); (all_goals (first | exact okt | skip)))
      · have hi0 : i = 0 := by simpa using h1
        (cbv; (try simp only [nc] at *); (try refine Chk.mk (okc) ?_))
        refine Br.isF (by simp [hi0]) ?_
        (cbv; (try simp only [nc] at *); (try refine Chk.mk (okc) ?_))
        refine Br.isT (by simp [hi0]) ?_
        (cbv; (try simp only [nc] at *); (try refine Chk.mk (okc) ?_))
        refine ⟨(), trivial, ?_⟩
        rw [if_pos (.inl hi0)]
        (refine To.of [] ?_; cbv; (try simp only [nc]); (repeat' (first | exact trivial | exact WkN.refl _ | exact WkB.refl _ | refine ⟨?_, ?_⟩ | refine WkB.cells ?_ | refine WkN.agg ?_ | refine WkN.tup ?_)); (all_goals (first | exact okt | skip)))
    · intro _ _
      generalize (if i = 0 ∨ y.depart < x.depart then y else x) = w at *
      (cbv; (try simp only [nc] at *); (try refine Chk.mk (okc) ?_))
      refine ⟨(i + 1, w), ⟨by show i + 1 ≤ l.length; omega, hp⟩, by show l.length - (i + 1) + 0 < l.length - i + 0; omega, ?_⟩
      (refine To.of [] ?_; cbv; (try simp only [nc]); (repeat' (first | exact trivial | exact WkN.refl _ | exact WkB.refl _ | refine ⟨?_, ?_⟩ | refine WkB.cells ?_ | refine WkN.agg ?_ | refine WkN.tup ?_)); (all_goals (first | exact okt | skip)))
  · simp only [decide_eq_false_iff_not] at hb
    rw [List.drop_eq_nil_of_le (by omega), leastGo] at hp
    rw [← hp]
    (cbv; (try simp only [nc] at *); (try refine Chk.mk (okc) ?_))
    refine ⟨_, [], ?_, rfl, rfl⟩
    (refine To.of [] ?_; cbv; (try simp only [nc]); (repeat' (first | exact trivial | exact WkN.refl _ | exact WkB.refl _ | refine ⟨?_, ?_⟩ | refine WkB.cells ?_ | refine WkN.agg ?_ | refine WkN.tup ?_)); (all_goals (first | exact okt | skip)))
    exact .bool (by simp)

theorem c108 (l : List Sp.Ride) (hl : l.length ≤ 1000) : SC (fun _ => Tryz.prog) 79 [lst 3 encRide default l, .fn 100 [] []] [] fun v h => v = .tup [.agg (encRide (least l)), .bool fun _ => decide (0 < l.length)] ∧ h = [] := c108g _ c109 l hl

def encLeg (g : Sp.Leg) : List AV := [.int .i64 fun _ => g.number, .int .i64 fun _ => g.from_, .int .i64 fun _ => g.to_]
/-- All rides by a leg. -/
def rides (b : Book) (g : Sp.Leg) : List Sp.Ride := ridesL b g (runsTo b (b.last + 1).toNat)
theorem rides_len {b : Book} (h : BookOk b) (g : Sp.Leg) : (rides b g).length ≤ 100 := by
  have h1 := runsTo_len h (b.last + 1).toNat
  have h2 : (rides b g).length ≤ (runsTo b (b.last + 1).toNat).length := List.length_filterMap_le _ _
  have h3 := h.last
  omega
def trip (b : Book) : List Sp.Leg → Int → List Sp.Ride → List Sp.Ride × Bool
  | [], _, out => (out, true)
  | g :: r, a, out => if (since a (rides b g)).length = 0 then (out, false) else trip b r (least (since a (rides b g))).arrive (out ++ [least (since a (rides b g))])

theorem c68 (b : Book) (hb : BookFit b) (hok : BookOk b) (legs : List Sp.Leg) (a0 : Int) (hl : legs.length ≤ 1000) : SC (fun _ => Tryz.prog) 73 [bookA b, lst 3 encLeg default legs, .int .i64 fun _ => a0] [] fun v h => v = .tup [lst 3 encRide default (trip b legs a0 []).1, .bool fun _ => (trip b legs a0 []).2] ∧ h = [] := by
  obtain ⟨nt, hnt⟩ := nth_ex
  refine SC.less (conX false false [] Tryz.func73 (body := bodyOf Tryz.f73) rfl (by decide +kernel) ?_)
  have k93 := fun g => c93 b g hb hok
  have k93l := fun g => rides_len hok g
  change ∀ g, SC _ 76 _ _ (fun v h => (v = .gsl 0 fun _ => ((rides b g).length : Int)) ∧ h = [.gar 3 (fun _ => ((rides b g).length : Int)) (lstR encRide default (rides b g))]) at k93
  unfold bookA legA at *
  simp only [lst_nt hnt] at *
  generalize hT : trip b legs a0 [] = T at *
  (cbv; (try simp only [nc] at *); (try refine Chk.mk (okc) ?_))
  refine loopS false false [] [3, 5, 8, 9, 15, 16, 17] [.tok 3 fun _ => 0] (fun (⟨i, a, out⟩ : Nat × Int × List Sp.Ride) => [(8, .isl 3 (fun _ => (out.length : Int)) (fun e => encRide (nt Sp.Ride default out (e ()))) (.own 2)), (17, .int .i64 fun _ => i)])
    (fun ⟨i, a, out⟩ => [(1, .cells [.int .i64 fun _ => a]), (2, .tok 3 fun _ => (out.length : Int))]) (fun ⟨i, a, out⟩ => i ≤ legs.length ∧ out.length = i ∧ trip b (legs.drop i) a out = T) (fun i => legs.length - i.1 + 0) (0, a0, []) ⟨Nat.zero_le _, rfl, by simpa using hT⟩ ?_ ?_
  · (refine To.of [(3,false)] ?_; cbv; (try simp only [nc]); (repeat' (first | exact trivial | exact WkN.refl _ | exact WkB.refl _ | refine ⟨?_, ?_⟩ | refine WkB.cells ?_ | refine WkN.agg ?_ | refine WkN.tup ?_)); (all_goals (first | exact okt | skip)))
  rintro ⟨i, a, out⟩ ⟨hi, ho, hp⟩
  (cbv; (try simp only [nc] at *); (try refine Chk.mk (okc) ?_))
  refine ⟨fun hb => ?_, fun hb => ?_⟩
  · simp only [decide_eq_true_eq] at hb
    rw [nt_drop (d := default) hnt (l := legs) (i := i) (by omega), trip] at hp
    generalize hg : nt Sp.Leg default legs (i : Int) = g at *
    have k93 := k93 g
    have k93l := k93l g
    generalize hR : rides b g = R at *
    have k106 := c106 R a (by omega)
    have hS : (since a R).length ≤ 100 := Nat.le_trans (List.length_filter_le _ _) k93l
    generalize since a R = S at *
    have k108 := c108 S (by omega)
    generalize least S = x at *
    simp only [lst_nt hnt, lstR_nt hnt] at k93 k106 k108
    (cbv; (try simp only [nc] at *); (try refine Chk.mk (okc) ?_))
    simp only [hg]
    refine call0 (k93) (by first | rfl | (simp only [zoneA, bookA, lst_nt hnt]; rfl)) fun r h₂ hp => ?_
    (try simp only [zoneA, bookA, lst_nt hnt] at hp)
    obtain ⟨rfl, rfl⟩ := hp
    (cbv; (try simp only [nc] at *); (try refine Chk.mk (okc) ?_))
    refine callL [4, 1] (k106) (by decide) (by simp) (by first | rfl | (simp only [zoneA, bookA, lst_nt hnt]; rfl)) (by first | rfl | (simp only [zoneA, bookA, lst_nt hnt]; rfl)) fun r h₂ hp => ?_
    (try simp only [zoneA, bookA, lst_nt hnt] at hp)
    obtain ⟨rfl, n, F, rfl⟩ := hp
    (cbv; (try simp only [nc] at *); (try refine Chk.mk (okc) ?_))
    refine call0 (k108) (by first | rfl | (simp only [zoneA, bookA, lst_nt hnt]; rfl)) fun r h₂ hp => ?_
    (try simp only [zoneA, bookA, lst_nt hnt] at hp)
    obtain ⟨rfl, rfl⟩ := hp
    (cbv; (try simp only [nc] at *); (try refine Chk.mk (okc) ?_))
    refine ⟨fun h1 => ?_, fun h1 => ?_⟩
    · have h1' : S.length = 0 := by simpa using h1
      rw [if_pos h1'] at hp
      rw [← hp]
      (cbv; (try simp only [nc] at *); (try refine Chk.mk (okc) ?_))
      refine ⟨_, [], ?_, rfl, rfl⟩
      (refine To.of [] ?_; cbv; (try simp only [nc]); (repeat' (first | exact trivial | exact WkN.refl _ | exact WkB.refl _ | refine ⟨?_, ?_⟩ | refine WkB.cells ?_ | refine WkN.agg ?_ | refine WkN.tup ?_)); (all_goals (first | exact okt | skip)))
      exact .bool (by simp [h1'])
    · have h1' : ¬ S.length = 0 := by simp at h1; omega
      rw [if_neg h1'] at hp
      (cbv; (try simp only [nc] at *); (try refine Chk.mk (okc) ?_))
      refine ⟨(i + 1, x.arrive, out ++ [x]), ⟨by show i + 1 ≤ legs.length; omega, by show (out ++ [x]).length = i + 1; simp [ho], hp⟩, by show legs.length - (i + 1) + 0 < legs.length - i + 0; omega, ?_⟩
      (refine To.of [] ?_; cbv; (try simp only [nc]); (repeat' (first | exact trivial | exact WkN.refl _ | exact WkB.refl _ | refine ⟨?_, ?_⟩ | refine WkB.cells ?_ | refine WkN.agg ?_ | refine WkN.tup ?_)); (all_goals (first | exact okt | skip)))
      exact .bool (decide_eq_true (by omega))
  · simp only [decide_eq_false_iff_not] at hb
    rw [List.drop_eq_nil_of_le (by omega), trip] at hp
    rw [← hp]
    (cbv; (try simp only [nc] at *); (try refine Chk.mk (okc) ?_))
    refine ⟨_, [], ?_, rfl, rfl⟩
    (refine To.of [] ?_; cbv; (try simp only [nc]); (repeat' (first | exact trivial | exact WkN.refl _ | exact WkB.refl _ | refine ⟨?_, ?_⟩ | refine WkB.cells ?_ | refine WkN.agg ?_ | refine WkN.tup ?_)); (all_goals (first | exact okt | skip)))
end Go.Proofs.YtlcgliadpalgfaaGreat.Vm

/- Contracts: trips, who is lost, and waits. -/
namespace Go.Proofs.YtlcgliadpalgfaaGreat.Vm
open Go Go.Proofs Sp
set_option maxRecDepth 100000
set_option maxHeartbeats 1600000

def legErr (l : List Sp.Leg) (i : Nat) : Int := if (l.getD i default).from_ = (l.getD i default).to_ then 4 else if 0 < i ∧ (l.getD i default).from_ ≠ (l.getD (i - 1) default).to_ then 5 else 0
def checkLegs (b : Book) (l : List Sp.Leg) : Int := if Check b ≠ 0 then Check b else if counted l.length 1 4 ≠ 0 then counted l.length 1 4 else firstErr (legErr l) 0 l.length

theorem c66 (b : Book) (hb : BookFit b) (l : List Sp.Leg) (hl : l.length ≤ 1000) : SC (fun _ => Tryz.prog) 72 [bookA b, lst 3 encLeg default l] [] fun v h => v = .int .i64 (fun _ => checkLegs b l) ∧ h = [] := by
  obtain ⟨nt, hnt⟩ := nth_ex
  refine con Tryz.func72 (body := bodyOf Tryz.f72) rfl (by decide +kernel) ?_
  have k28 := c28 b hb
  have k78 := c78 (l.length : Int) 1 4
  unfold checkLegs
  generalize Check b = C at *
  generalize counted l.length 1 4 = D at *
  generalize hE : firstErr (legErr l) 0 l.length = E at *
  unfold bookA at *
  simp only [lst_nt hnt] at *
  (cbv; (try simp only [nc] at *); (try refine Chk.mk (okc) ?_))
  refine call0 (k28) (by first | rfl | (simp only [zoneA, bookA, lst_nt hnt]; rfl)) fun r h₂ hp => ?_
  (try simp only [zoneA, bookA, lst_nt hnt] at hp)
  obtain ⟨rfl, rfl⟩ := hp
  (cbv; (try simp only [nc] at *); (try refine Chk.mk (okc) ?_))
  refine ⟨fun h1 => ?_, fun h1 => ?_⟩
  · have h1' : C ≠ 0 := by simpa using h1
    rw [if_pos h1']
    (cbv; (try simp only [nc] at *); (try refine Chk.mk (okc) ?_))
    (try first | exact ⟨rfl, trivial⟩ | exact ⟨trivial, trivial⟩)
  have h1' : ¬ C ≠ 0 := by simpa using h1
  rw [if_neg h1']
  (cbv; (try simp only [nc] at *); (try refine Chk.mk (okc) ?_))
  refine call0 (k78) (by first | rfl | (simp only [zoneA, bookA, lst_nt hnt]; rfl)) fun r h₂ hp => ?_
  (try simp only [zoneA, bookA, lst_nt hnt] at hp)
  obtain ⟨rfl, rfl⟩ := hp
  (cbv; (try simp only [nc] at *); (try refine Chk.mk (okc) ?_))
  refine ⟨fun h2 => ?_, fun h2 => ?_⟩
  · have h2' : D ≠ 0 := by simpa using h2
    rw [if_pos h2']
    (cbv; (try simp only [nc] at *); (try refine Chk.mk (okc) ?_))
    (try first | exact ⟨rfl, trivial⟩ | exact ⟨trivial, trivial⟩)
  have h2' : ¬ D ≠ 0 := by simpa using h2
  rw [if_neg h2']
  (cbv; (try simp only [nc] at *); (try refine Chk.mk (okc) ?_))
  refine loopS false false [] [1, 20, 21, 22] [] (fun (i : Nat) => [(22, .int .i64 fun _ => i)]) (fun _ => []) (fun i => i ≤ l.length ∧ firstErr (legErr l) i (l.length - i) = E) (fun i => l.length - i + 0) 0 ⟨Nat.zero_le _, by simpa using hE⟩ ?_ ?_
  · (refine To.of [] ?_; cbv; (try simp only [nc]); (repeat' (first | exact trivial | exact WkN.refl _ | exact WkB.refl _ | refine ⟨?_, ?_⟩ | refine WkB.cells ?_ | refine WkN.agg ?_ | refine WkN.tup ?_)); (all_goals (first | exact okt | skip)))
  rintro i ⟨hi, hp⟩
  (cbv; (try simp only [nc] at *); (try refine Chk.mk (okc) ?_))
  refine ⟨fun hb => ?_, fun hb => ?_⟩
  · simp only [decide_eq_true_eq] at hb
    rw [show l.length - i = (l.length - (i + 1)) + 1 by omega, firstErr] at hp
    have e1 : l.getD i default = nt Sp.Leg default l (i : Int) := by rw [hnt]; rfl
    unfold legErr at hp
    rw [e1] at hp
    (cbv; (try simp only [nc] at *); (try refine Chk.mk (okc) ?_))
    refine ⟨fun h3 => ?_, fun h3 => ?_⟩
    · have h3' : (nt Sp.Leg default l (i : Int)).from_ = (nt Sp.Leg default l (i : Int)).to_ := by simpa using h3
      rw [if_pos h3', if_pos (by decide)] at hp
      rw [← hp]
      (cbv; (try simp only [nc] at *); (try refine Chk.mk (okc) ?_))
      (try first | exact ⟨rfl, trivial⟩ | exact ⟨trivial, trivial⟩)
    have h3' : ¬ (nt Sp.Leg default l (i : Int)).from_ = (nt Sp.Leg default l (i : Int)).to_ := by simpa using h3
    rw [if_neg h3'] at hp
    have e2 : 0 < i → l.getD (i - 1) default = nt Sp.Leg default l ((i : Int) - 1) := fun h => by rw [hnt]; congr 1; omega
    have e3 : (bif decide (0 < (i : Int)) then (nt Sp.Leg default l (i : Int)).from_ != (nt Sp.Leg default l ((i : Int) - 1)).to_ else false) = decide (0 < i ∧ (nt Sp.Leg default l (i : Int)).from_ ≠ (l.getD (i - 1) default).to_) := by
      by_cases h : 0 < i
      · rw [e2 h, decide_eq_true (by omega : 0 < (i : Int))]
        by_cases hh : (nt Sp.Leg default l (i : Int)).from_ = (nt Sp.Leg default l ((i : Int) - 1)).to_ <;> simp [h, hh, bne]
      · rw [decide_eq_false (by omega : ¬ 0 < (i : Int))]
        simp [h]
    (cbv; (try simp only [nc] at *); (try refine Chk.mk (okc) ?_))
    refine ⟨fun h4 => ?_, fun h4 => ?_⟩
    · rw [e3, decide_eq_true_eq] at h4
      rw [if_pos h4, if_pos (by decide)] at hp
      rw [← hp]
      (cbv; (try simp only [nc] at *); (try refine Chk.mk (okc) ?_))
      (try first | exact ⟨rfl, trivial⟩ | exact ⟨trivial, trivial⟩)
    · rw [e3, decide_eq_false_iff_not] at h4
      rw [if_neg h4, if_neg (by decide)] at hp
      (cbv; (try simp only [nc] at *); (try refine Chk.mk (okc) ?_))
      refine ⟨i + 1, ⟨by omega, hp⟩, by show l.length - (i + 1) + 0 < l.length - i + 0; omega, ?_⟩
      (refine To.of [] ?_; cbv; (try simp only [nc]); (repeat' (first | exact trivial | exact WkN.refl _ | exact WkB.refl _ | refine ⟨?_, ?_⟩ | refine WkB.cells ?_ | refine WkN.agg ?_ | refine WkN.tup ?_)); (all_goals (first | exact okt | skip)))
  · simp only [decide_eq_false_iff_not] at hb
    rw [show l.length - i = 0 by omega, firstErr] at hp
    rw [← hp]
    (cbv; (try simp only [nc] at *); (try refine Chk.mk (okc) ?_))
    (try first | exact ⟨rfl, trivial⟩ | exact ⟨trivial, trivial⟩)

def Trip (b : Book) (l : List Sp.Leg) (a : Int) : List Sp.Ride × Int := if checkLegs b l ≠ 0 then ([], checkLegs b l) else if !inB a 0 43200 then ([], 1) else if (trip b l a []).2 = false then ([], 11) else ((trip b l a []).1, 0)
theorem c19 (b : Book) (hb : BookFit b) (l : List Sp.Leg) (a : Int) (hl : l.length ≤ 1000) : SC (fun _ => Tryz.prog) 24 [bookA b, lst 3 encLeg default l, .int .i64 fun _ => a] [] fun v h => v = .tup [lst 3 encRide default (Trip b l a).1, .int .i64 fun _ => (Trip b l a).2] ∧ h = [] := by
  obtain ⟨nt, hnt⟩ := nth_ex
  refine SC.less (con Tryz.func24 (body := bodyOf Tryz.f24) rfl (by decide +kernel) ?_)
  have k66 := c66 b hb l hl
  have k67 := c67 a 0 43200
  have hok : checkLegs b l = 0 → BookOk b := fun h => book_ok (by
    unfold checkLegs at h
    split at h
    · rename_i h1; exact absurd h h1
    · rename_i h1; exact Decidable.of_not_not h1)
  have k68 := fun h => c68 b hb (hok h) l a hl
  unfold Trip
  generalize checkLegs b l = C at *
  generalize trip b l a [] = T at *
  unfold bookA at *
  simp only [lst_nt hnt] at *
  (cbv; (try simp only [nc] at *); (try refine Chk.mk (okc) ?_))
  refine call0 (k66) (by first | rfl | (simp only [zoneA, bookA, lst_nt hnt]; rfl)) fun r h₂ hp => ?_
  (try simp only [zoneA, bookA, lst_nt hnt] at hp)
  obtain ⟨rfl, rfl⟩ := hp
  (cbv; (try simp only [nc] at *); (try refine Chk.mk (okc) ?_))
  refine ⟨fun h1 => ?_, fun h1 => ?_⟩
  · have h1' : C ≠ 0 := by simpa using h1
    rw [if_pos h1']
    (cbv; (try simp only [nc] at *); (try refine Chk.mk (okc) ?_))
    refine ⟨_, [], ?_, rfl, rfl⟩
    (refine To.of [] ?_; cbv; (try simp only [nc]); (repeat' (first | exact trivial | exact WkN.refl _ | exact WkB.refl _ | refine ⟨?_, ?_⟩ | refine WkB.cells ?_ | refine WkN.agg ?_ | refine WkN.tup ?_)); (all_goals (first | exact okt | skip)))
  have h1' : ¬ C ≠ 0 := by simpa using h1
  have k68 := k68 (Decidable.of_not_not h1')
  rw [if_neg h1']
  (cbv; (try simp only [nc] at *); (try refine Chk.mk (okc) ?_))
  refine call0 (k67) (by first | rfl | (simp only [zoneA, bookA, lst_nt hnt]; rfl)) fun r h₂ hp => ?_
  (try simp only [zoneA, bookA, lst_nt hnt] at hp)
  obtain ⟨rfl, rfl⟩ := hp
  (cbv; (try simp only [nc] at *); (try refine Chk.mk (okc) ?_))
  refine ⟨fun h2 => ?_, fun h2 => ?_⟩
  · rw [if_pos h2]
    (cbv; (try simp only [nc] at *); (try refine Chk.mk (okc) ?_))
    refine ⟨_, [], ?_, rfl, rfl⟩
    (refine To.of [] ?_; cbv; (try simp only [nc]); (repeat' (first | exact trivial | exact WkN.refl _ | exact WkB.refl _ | refine ⟨?_, ?_⟩ | refine WkB.cells ?_ | refine WkN.agg ?_ | refine WkN.tup ?_)); (all_goals (first | exact okt | skip)))
  rw [if_neg (by rw [h2]; exact Bool.false_ne_true)]
  (cbv; (try simp only [nc] at *); (try refine Chk.mk (okc) ?_))
  refine call0 (k68) (by first | rfl | (simp only [zoneA, bookA, lst_nt hnt]; rfl)) fun r h₂ hp => ?_
  (try simp only [zoneA, bookA, lst_nt hnt] at hp)
  obtain ⟨rfl, rfl⟩ := hp
  (cbv; (try simp only [nc] at *); (try refine Chk.mk (okc) ?_))
  refine ⟨fun h3 => ?_, fun h3 => ?_⟩
  · have h3' : T.2 = false := by simpa using h3
    rw [if_pos h3']
    (cbv; (try simp only [nc] at *); (try refine Chk.mk (okc) ?_))
    refine ⟨_, [], ?_, rfl, rfl⟩
    (refine To.of [] ?_; cbv; (try simp only [nc]); (repeat' (first | exact trivial | exact WkN.refl _ | exact WkB.refl _ | refine ⟨?_, ?_⟩ | refine WkB.cells ?_ | refine WkN.agg ?_ | refine WkN.tup ?_)); (all_goals (first | exact okt | skip)))
  · have h3' : ¬ T.2 = false := by simpa using h3
    rw [if_neg h3']
    (cbv; (try simp only [nc] at *); (try refine Chk.mk (okc) ?_))
    refine ⟨_, [], ?_, rfl, rfl⟩
    (refine To.of [] ?_; cbv; (try simp only [nc]); (repeat' (first | exact trivial | exact WkN.refl _ | exact WkB.refl _ | refine ⟨?_, ?_⟩ | refine WkB.cells ?_ | refine WkN.agg ?_ | refine WkN.tup ?_)); (all_goals (first | exact okt | skip)))

/-- The rides by a leg, to be read alone. -/
theorem c93f (b : Book) (g : Sp.Leg) (hb : BookFit b) (hok : BookOk b) : SC (fun _ => Tryz.prog) 76 [bookA b, legA g] [] fun v h => v = lst 3 encRide default (rides b g) ∧ h = [.fro 3 (fun _ => ((rides b g).length : Int)) (lstR encRide default (rides b g))] := by
  refine SC.less ((c93 b g hb hok).mono fun r h hp => ?_)
  obtain ⟨rfl, rfl⟩ := hp
  refine ⟨lst 3 encRide default (rides b g), [.fro 3 (fun _ => ((rides b g).length : Int)) (lstR encRide default (rides b g))], (To.froze (s := [.gsl 0 fun _ => ((rides b g).length : Int)]) (h := [.gar 3 (fun _ => ((rides b g).length : Int)) (lstR encRide default (rides b g))]) (id := 0) rfl).trans ?_, rfl, rfl⟩
  show To [.gd (fun _ => decide (((rides b g).length : Int) = (rides b g).length)) (.isl 3 (fun _ => ((rides b g).length : Int)) (lstR encRide default (rides b g)) .none)] _ _ _
  exact To.of [] ⟨⟨.gd (decide_eq_true rfl) (.refl _), trivial⟩, .refl _, trivial⟩

def Lost (b : Book) (l : List Sp.Leg) : List Int × Int := if checkLegs b l ≠ 0 then ([], checkLegs b l) else (((rides b (l.getD 0 default)).filter fun x => !(trip b (l.drop 1) x.arrive []).2).map (·.day), 0)
theorem checkLegs_ok {b : Book} {l : List Sp.Leg} (h : checkLegs b l = 0) : BookOk b ∧ 1 ≤ l.length ∧ l.length ≤ 4 := by
  unfold checkLegs at h
  split at h
  · rename_i h1; exact absurd h h1
  rename_i h1
  split at h
  · rename_i h2; exact absurd h h2
  rename_i h2
  have := counted_ok (Decidable.of_not_not h2)
  exact ⟨book_ok (Decidable.of_not_not h1), by omega, by omega⟩

theorem drop_nt {nt : (α : Type) → α → List α → Int → α} (hnt : ∀ (α : Type) (d : α) (l : List α) (i : Int), nt α d l i = l.getD i.toNat d) {α : Type} {n k sz : Nat} {enc : α → List AV} {d : α} {l : List α} {m : Unit → Int} {f : (Unit → Int) → List AV} {i : Nat} (hm : m () = ((l.drop i).length : Int)) (hf : ∀ j : Nat, (j : Int) < m () → f (fun _ => (j : Int)) = enc (nt α d l ((j : Int) + i))) {tk : Tk} :
    WkN n k (.isl sz m f tk) (.isl sz (fun _ => ((l.drop i).length : Int)) (fun e => enc (nt α d (l.drop i) (e ()))) .none) :=
  .none hm fun j hj => by
    rw [hf j hj, hnt, hnt]
    congr 1
    simp only [List.getD_eq_getElem?_getD, List.getElem?_drop, Int.toNat_natCast]
    congr 2
    omega

theorem c49 (b : Book) (hb : BookFit b) (l : List Sp.Leg) (hl : l.length ≤ 1000) : SC (fun _ => Tryz.prog) 26 [bookA b, lst 3 encLeg default l] [] fun v h => v = .tup [lst 1 encI 0 (Lost b l).1, .int .i64 fun _ => (Lost b l).2] ∧ h = [] := by
  obtain ⟨nt, hnt⟩ := nth_ex
  refine SC.less (conX false true [] Tryz.func26 (body := bodyOf Tryz.f26) rfl (by decide +kernel) ?_)
  have k66 := c66 b hb l hl
  have hok := checkLegs_ok (b := b) (l := l)
  have k68 := fun h a => c68 b hb h (l.drop 1) a (by rw [List.length_drop]; omega)
  have k93 := fun h => c93f b (l.getD 0 default) hb h
  have k93l := fun h => rides_len (b := b) h (l.getD 0 default)
  unfold Lost
  have e0 : l.getD 0 default = nt Sp.Leg default l 0 := by rw [hnt]; rfl
  simp only [e0] at k93 k93l ⊢
  generalize checkLegs b l = C at *
  generalize rides b (nt Sp.Leg default l 0) = R at *
  unfold bookA legA at *
  simp only [lst_nt hnt, lstR_nt hnt] at *
  (cbv; (try simp only [nc] at *); (try refine Chk.mk (okc) ?_))
  refine call0 (k66) (by first | rfl | (simp only [zoneA, bookA, lst_nt hnt]; rfl)) fun r h₂ hp => ?_
  (try simp only [zoneA, bookA, lst_nt hnt] at hp)
  obtain ⟨rfl, rfl⟩ := hp
  (cbv; (try simp only [nc] at *); (try refine Chk.mk (okc) ?_))
  refine ⟨fun h1 => ?_, fun h1 => ?_⟩
  · have h1' : C ≠ 0 := by simpa using h1
    rw [if_pos h1']
    (cbv; (try simp only [nc] at *); (try refine Chk.mk (okc) ?_))
    refine ⟨_, [], ?_, rfl, rfl⟩
    (refine To.of [] ?_; cbv; (try simp only [nc]); (repeat' (first | exact trivial | exact WkN.refl _ | exact WkB.refl _ | refine ⟨?_, ?_⟩ | refine WkB.cells ?_ | refine WkN.agg ?_ | refine WkN.tup ?_)); (all_goals (first | exact okt | skip)))
  have h1' : ¬ C ≠ 0 := by simpa using h1
  have hok := hok (Decidable.of_not_not h1')
  have k93 := k93 hok.1
  have k93l := k93l hok.1
  have k68 := k68 hok.1
  rw [if_neg h1']
  (cbv; (try simp only [nc] at *); (try refine Chk.mk (okc) ?_))
  refine call0 (k93) (by first | rfl | (simp only [zoneA, bookA, lst_nt hnt]; rfl)) fun r h₂ hp => ?_
  (try simp only [zoneA, bookA, lst_nt hnt] at hp)
  obtain ⟨rfl, rfl⟩ := hp
  (cbv; (try simp only [nc] at *); (try refine Chk.mk (okc) ?_))
  generalize hF : ((R.filter fun x => !(trip b (l.drop 1) x.arrive []).2).map (·.day)) = F at *
  refine loopS false true [] [1, 2, 7, 22, 23, 24] [.tok 1 fun _ => 0] (fun (⟨i, out⟩ : Nat × List Int) => [(7, .isl 1 (fun _ => (out.length : Int)) (fun e => encI (nt Int 0 out (e ()))) (.own 2)), (24, .int .i64 fun _ => i)])
    (fun ⟨i, out⟩ => [(2, .tok 1 fun _ => (out.length : Int))]) (fun ⟨i, out⟩ => i ≤ R.length ∧ out.length ≤ i ∧ out ++ (((R.drop i).filter fun x => !(trip b (l.drop 1) x.arrive []).2).map (·.day)) = F) (fun i => R.length - i.1 + 0) (0, []) ⟨Nat.zero_le _, Nat.le_refl _, by simpa using hF⟩ ?_ ?_
  · (refine To.of [(1,false)] ?_; cbv; (try simp only [nc]); (repeat' (first | exact trivial | exact WkN.refl _ | exact WkB.refl _ | refine ⟨?_, ?_⟩ | refine WkB.cells ?_ | refine WkN.agg ?_ | refine WkN.tup ?_)); (all_goals (first | exact okt | skip)))
  rintro ⟨i, out⟩ ⟨hi, ho, hp⟩
  have ho : out.length ≤ i := ho
  (cbv; (try simp only [nc] at *); (try refine Chk.mk (okc) ?_))
  refine ⟨fun hb => ?_, fun hb => ?_⟩
  · simp only [decide_eq_true_eq] at hb
    rw [nt_drop (d := default) hnt (l := R) (i := i) (by omega)] at hp
    have hd1 : ((l.drop 1).length : Int) = l.length - 1 := by rw [List.length_drop]; omega
    generalize hx : nt Sp.Ride default R (i : Int) = x at *
    have k68 := k68 x.arrive
    generalize hT : trip b (l.drop 1) x.arrive [] = T at k68
    simp only [List.filter_cons, hT] at hp
    (cbv; (try simp only [nc] at *); (try refine Chk.mk (okc) ?_))
    simp only [hx]
    refine call0T k68 (by (refine To.of [] ?_; cbv; (try simp only [nc]); (repeat' (first | exact trivial | exact WkN.refl _ | exact WkB.refl _ | refine ⟨?_, ?_⟩ | refine WkB.cells ?_ | refine WkN.agg ?_ | refine WkN.tup ?_)); (all_goals (first | exact okt | skip))); exact drop_nt hnt (by show (l.length : Int) - 1 = ((l.drop 1).length : Int); rw [List.length_drop]; omega) (fun j hj => rfl)) (by first | rfl | (simp only [bookA, lst_nt hnt]; rfl)) fun r h₂ hq => ?_
    obtain ⟨rfl, rfl⟩ := hq
    (cbv; (try simp only [nc] at *); (try refine Chk.mk (okc) ?_))
    refine ⟨fun h3 => ?_, fun h3 => ?_⟩
    · have h3' : T.2 = false := by simpa using h3
      rw [h3'] at hp
      simp only [Bool.not_false, if_true, List.map_cons] at hp
      (cbv; (try simp only [nc] at *); (try refine Chk.mk (okc) ?_))
      refine ⟨(i + 1, out ++ [x.day]), ⟨by show i + 1 ≤ R.length; omega, by show (out ++ [x.day]).length ≤ i + 1; simp; omega, by show (out ++ [x.day]) ++ _ = F; rw [List.append_assoc]; exact hp⟩, by show R.length - (i + 1) + 0 < R.length - i + 0; omega, ?_⟩
      (refine To.of [] ?_; cbv; (try simp only [nc]); (repeat' (first | exact trivial | exact WkN.refl _ | exact WkB.refl _ | refine ⟨?_, ?_⟩ | refine WkB.cells ?_ | refine WkN.agg ?_ | refine WkN.tup ?_)); (all_goals (first | exact okt | skip)))
    · have h3' : T.2 = true := by simpa using h3
      rw [h3'] at hp
      simp only [Bool.not_true, Bool.false_eq_true, if_false] at hp
      (cbv; (try simp only [nc] at *); (try refine Chk.mk (okc) ?_))
      refine ⟨(i + 1, out), ⟨by show i + 1 ≤ R.length; omega, by show out.length ≤ i + 1; omega, hp⟩, by show R.length - (i + 1) + 0 < R.length - i + 0; omega, ?_⟩
      (refine To.of [] ?_; cbv; (try simp only [nc]); (repeat' (first | exact trivial | exact WkN.refl _ | exact WkB.refl _ | refine ⟨?_, ?_⟩ | refine WkB.cells ?_ | refine WkN.agg ?_ | refine WkN.tup ?_)); (all_goals (first | exact okt | skip)))
  · simp only [decide_eq_false_iff_not] at hb
    have hp : out ++ _ = F := hp
    have hir : R.length ≤ i := by omega
    rw [List.drop_eq_nil_of_le hir, List.filter_nil, List.map_nil, List.append_nil] at hp
    rw [← hp]
    (cbv; (try simp only [nc] at *); (try refine Chk.mk (okc) ?_))
    refine ⟨_, [], ?_, rfl, rfl⟩
    (refine To.of [] ?_; cbv; (try simp only [nc]); (repeat' (first | exact trivial | exact WkN.refl _ | exact WkB.refl _ | refine ⟨?_, ?_⟩ | refine WkB.cells ?_ | refine WkN.agg ?_ | refine WkN.tup ?_)); (all_goals (first | exact okt | skip)))
end Go.Proofs.YtlcgliadpalgfaaGreat.Vm

/- Contracts: waits between two trains. -/
namespace Go.Proofs.YtlcgliadpalgfaaGreat.Vm
open Go Go.Proofs Sp
set_option maxRecDepth 100000
set_option maxHeartbeats 1600000

def InT (t : Int) : Prop := 0 ≤ t ∧ t ≤ 1099511627776
theorem hour_inT : ∀ {l : List Pc} {r a : Int}, (∀ p ∈ l, p.bef ≤ 1099511627776) → InT a → InT (hour l r a)
  | [], r, a, _, _ => by unfold hour openT; exact ⟨by omega, by omega⟩
  | p :: l, r, a, hl, ha => by
    unfold hour
    have hp := hl p (List.mem_cons_self ..)
    split
    · rename_i h
      refine ⟨?_, by omega⟩
      have := ha.1
      omega
    · exact hour_inT (fun q hq => hl q (List.mem_cons_of_mem _ hq)) ha

def CallB (c : Sp.Call) : Prop := InT c.arrive ∧ InT c.depart
theorem callsGo_inT {zs : List Zone} (hz : ∀ z ∈ zs, checkZone z = 0) {day : Int} {many : Nat} : ∀ (S : List Stop) (i : Nat) (now : Int), InT now → (∀ s ∈ S, 0 ≤ s.zone ∧ s.zone < zs.length) → ∀ c ∈ callsGo zs day many i now S, CallB c
  | [], _, _, _, _, c, hc => by unfold callsGo at hc; cases hc
  | s :: r, i, now, hn, hs, c, hc => by
    have hzs := hs s (List.mem_cons_self ..)
    have hzm : zs.getD s.zone.toNat default ∈ zs := by rw [List.getD_eq_getElem?_getD, List.getElem?_eq_getElem (by omega)]; exact List.getElem_mem _
    have hp := fun p hp => ((pieces_bd (hz _ hzm)).2 p hp).2.2.2.1
    have hr := fun q hq => hs q (List.mem_cons_of_mem _ hq)
    have h0 : InT 0 := ⟨by omega, by omega⟩
    unfold callsGo at hc
    split at hc
    · have hd : InT (if i + 1 < many then hour (pieces (zs.getD s.zone.toNat default)) (1440 * day + s.depart) now else 0) := by
        split
        · exact hour_inT hp hn
        · exact h0
      rcases List.mem_cons.1 hc with rfl | hc
      · exact ⟨hd, hd⟩
      · exact callsGo_inT hz r _ _ hd hr c hc
    · have ha := hour_inT (r := 1440 * day + s.arrive) hp hn
      have hd : InT (if i + 1 < many then hour (pieces (zs.getD s.zone.toNat default)) (1440 * day + s.depart) (hour (pieces (zs.getD s.zone.toNat default)) (1440 * day + s.arrive) now) else hour (pieces (zs.getD s.zone.toNat default)) (1440 * day + s.arrive) now) := by
        split
        · exact hour_inT hp ha
        · exact ha
      rcases List.mem_cons.1 hc with rfl | hc
      · exact ⟨ha, hd⟩
      · exact callsGo_inT hz r _ _ hd hr c hc

def RideB (x : Sp.Ride) : Prop := InT x.depart ∧ InT x.arrive
theorem runsTo_mem {b : Book} {d : Nat} {x : Train × Int} (h : x ∈ runsTo b d) : ∃ k : Nat, k < d ∧ x.2 = k ∧ x.1 ∈ table b k ∧ starts x.1 k = true := by
  unfold runsTo at h
  rw [List.mem_flatMap] at h
  obtain ⟨k, hk, h⟩ := h
  rw [List.mem_map] at h
  obtain ⟨t, ht, rfl⟩ := h
  rw [List.mem_filter] at ht
  exact ⟨k, List.mem_range.1 hk, rfl, ht.1, ht.2⟩
theorem getD_all {α : Type} {P : α → Prop} {l : List α} {i : Nat} {d : α} (hl : ∀ x ∈ l, P x) (hd : P d) : P (l.getD i d) := by
  rw [List.getD_eq_getElem?_getD]
  by_cases h : i < l.length
  · rw [List.getElem?_eq_getElem h]; exact hl _ (List.getElem_mem _)
  · rw [List.getElem?_eq_none (by omega)]; exact hd
theorem rides_bd {b : Book} (hok : BookOk b) {g : Sp.Leg} {x : Sp.Ride} (hx : x ∈ rides b g) : RideB x := by
  unfold rides ridesL at hx
  rw [List.mem_filterMap] at hx
  obtain ⟨⟨t, d⟩, hm, hr⟩ := hx
  obtain ⟨k, _, e, ht, _⟩ := runsTo_mem hm
  dsimp only at e ht
  subst e
  have hc : ∀ c ∈ calls b.zones t k, CallB c := callsGo_inT hok.zones _ _ _ ⟨by omega, by omega⟩ (fun s hs => ((tabOk hok ht).stops s hs).zone)
  have h0 : CallB default := ⟨⟨by show (0 : Int) ≤ 0; omega, by show (0 : Int) ≤ 1099511627776; omega⟩, by show (0 : Int) ≤ 0; omega, by show (0 : Int) ≤ 1099511627776; omega⟩
  unfold rideOf at hr
  split at hr
  · cases hr
  split at hr
  · cases hr
  split at hr
  · cases hr
  simp only [Option.some.injEq] at hr
  subst hr
  exact ⟨(getD_all hc h0).2, (getD_all hc h0).1⟩

theorem leastGo_mem : ∀ (l : List Sp.Ride) (i : Nat) (best : Sp.Ride), leastGo i best l = best ∧ (0 < i ∨ l = []) ∨ leastGo i best l ∈ l
  | [], i, best => .inl ⟨rfl, .inr rfl⟩
  | x :: r, i, best => by
    unfold leastGo
    rcases leastGo_mem r (i + 1) (if i = 0 ∨ x.depart < best.depart then x else best) with ⟨h, _⟩ | h
    · rw [h]
      by_cases hc : i = 0 ∨ x.depart < best.depart
      · rw [if_pos hc]; exact .inr (List.mem_cons_self ..)
      · rw [if_neg hc]; exact .inl ⟨rfl, .inl (by omega)⟩
    · exact .inr (List.mem_cons_of_mem _ h)
theorem least_mem {l : List Sp.Ride} (h : 0 < l.length) : least l ∈ l := by
  rcases leastGo_mem l 0 ⟨0, 0, 0⟩ with ⟨_, h1 | h1⟩ | h1
  · omega
  · subst h1; simp at h
  · exact h1

theorem trip_bd {b : Book} (hok : BookOk b) : ∀ (l : List Sp.Leg) (a : Int) (out : List Sp.Ride), (∀ x ∈ out, RideB x) → (∀ x ∈ (trip b l a out).1, RideB x) ∧ ((trip b l a out).2 = true → (trip b l a out).1.length = out.length + l.length) ∧ (trip b l a out).1.length ≤ out.length + l.length
  | [], a, out, h => ⟨h, fun _ => rfl, Nat.le_refl _⟩
  | g :: r, a, out, h => by
    unfold trip
    split
    · exact ⟨h, (fun h => by cases h), by simp⟩
    · rename_i hne
      have hx : RideB (least (since a (rides b g))) := rides_bd hok (g := g) (List.mem_filter.1 (least_mem (l := since a (rides b g)) (Nat.pos_of_ne_zero hne))).1
      obtain ⟨h1, h2, h3⟩ := trip_bd hok r (least (since a (rides b g))).arrive (out ++ [least (since a (rides b g))]) (fun x hm => by
        rcases List.mem_append.1 hm with hm | hm
        · exact h x hm
        · simp at hm; rw [hm]; exact hx)
      refine ⟨h1, fun h => ?_, ?_⟩
      · rw [h2 h]; simp; omega
      · simp at h3 ⊢; omega

/-- One more ride of the first leg. -/
def waitStep (b : Book) (l : List Sp.Leg) (o : Sp.Span × Bool) (x : Sp.Ride) : Sp.Span × Bool :=
  if (trip b (l.drop 1) x.arrive []).2 = false then o
  else
    let n := ((trip b (l.drop 1) x.arrive []).1.getD 0 default).depart - x.arrive
    let p := if o.2 = false then ⟨n, n⟩ else o.1
    (⟨if n < p.fr then n else p.fr, if p.to_ < n then n else p.to_⟩, true)
def waitAll (b : Book) (l : List Sp.Leg) : Sp.Span × Bool := (rides b (l.getD 0 default)).foldl (waitStep b l) (⟨0, 0⟩, false)
def Waits (b : Book) (l : List Sp.Leg) : Sp.Span × Int := if checkLegs b l ≠ 0 then (⟨0, 0⟩, checkLegs b l) else if counted l.length 2 2 ≠ 0 then (⟨0, 0⟩, counted l.length 2 2) else if (waitAll b l).2 = false then (⟨0, 0⟩, 11) else ((waitAll b l).1, 0)

theorem c50 (b : Book) (hb : BookFit b) (l : List Sp.Leg) (hl : l.length ≤ 1000) : SC (fun _ => Tryz.prog) 28 [bookA b, lst 3 encLeg default l] [] fun v h => v = .tup [.agg (encSpan (Waits b l).1), .int .i64 fun _ => (Waits b l).2] ∧ h = [] := by
  obtain ⟨nt, hnt⟩ := nth_ex
  refine SC.less (conX false true [] Tryz.func28 (body := bodyOf Tryz.f28) rfl (by decide +kernel) ?_)
  have k66 := c66 b hb l hl
  have k78 := c78 (l.length : Int) 2 2
  have hok := checkLegs_ok (b := b) (l := l)
  have hco := counted_ok (n := l.length) (a := 2) (b := 2)
  have k68 := fun h a => c68 b hb h (l.drop 1) a (by rw [List.length_drop]; omega)
  have k68b := fun h a => trip_bd (b := b) h (l.drop 1) a [] (fun x hx => by cases hx)
  have k93 := fun h => c93f b (l.getD 0 default) hb h
  have k93l := fun h => rides_len (b := b) h (l.getD 0 default)
  have k93b := fun h x (hx : x ∈ rides b (l.getD 0 default)) => rides_bd h hx
  unfold Waits waitAll
  have e0 : l.getD 0 default = nt Sp.Leg default l 0 := by rw [hnt]; rfl
  simp only [e0] at k93 k93l k93b ⊢
  generalize checkLegs b l = C at *
  generalize counted l.length 2 2 = D at *
  generalize rides b (nt Sp.Leg default l 0) = R at *
  generalize hF : R.foldl (waitStep b l) (⟨0, 0⟩, false) = F at *
  unfold bookA legA at *
  simp only [lst_nt hnt, lstR_nt hnt] at *
  (cbv; (try simp only [nc] at *); (try refine Chk.mk (okc) ?_))
  refine call0 (k66) (by first | rfl | (simp only [zoneA, bookA, lst_nt hnt]; rfl)) fun r h₂ hp => ?_
  (try simp only [zoneA, bookA, lst_nt hnt] at hp)
  obtain ⟨rfl, rfl⟩ := hp
  (cbv; (try simp only [nc] at *); (try refine Chk.mk (okc) ?_))
  refine ⟨fun h1 => ?_, fun h1 => ?_⟩
  · have h1' : C ≠ 0 := by simpa using h1
    rw [if_pos h1']
    (cbv; (try simp only [nc] at *); (try refine Chk.mk (okc) ?_))
    refine ⟨_, [], ?_, rfl, rfl⟩
    (refine To.of [] ?_; cbv; (try simp only [nc]); (repeat' (first | exact trivial | exact WkN.refl _ | exact WkB.refl _ | refine ⟨?_, ?_⟩ | refine WkB.cells ?_ | refine WkN.agg ?_ | refine WkN.tup ?_)); (all_goals (first | exact okt | skip)))
  have h1' : ¬ C ≠ 0 := by simpa using h1
  have hok := hok (Decidable.of_not_not h1')
  have k93 := k93 hok.1
  have k93l := k93l hok.1
  have k93b := k93b hok.1
  have k68 := k68 hok.1
  have k68b := k68b hok.1
  rw [if_neg h1']
  (cbv; (try simp only [nc] at *); (try refine Chk.mk (okc) ?_))
  refine call0 (k78) (by first | rfl | (simp only [zoneA, bookA, lst_nt hnt]; rfl)) fun r h₂ hp => ?_
  (try simp only [zoneA, bookA, lst_nt hnt] at hp)
  obtain ⟨rfl, rfl⟩ := hp
  (cbv; (try simp only [nc] at *); (try refine Chk.mk (okc) ?_))
  refine ⟨fun h2 => ?_, fun h2 => ?_⟩
  · have h2' : D ≠ 0 := by simpa using h2
    rw [if_pos h2']
    (cbv; (try simp only [nc] at *); (try refine Chk.mk (okc) ?_))
    refine ⟨_, [], ?_, rfl, rfl⟩
    (refine To.of [] ?_; cbv; (try simp only [nc]); (repeat' (first | exact trivial | exact WkN.refl _ | exact WkB.refl _ | refine ⟨?_, ?_⟩ | refine WkB.cells ?_ | refine WkN.agg ?_ | refine WkN.tup ?_)); (all_goals (first | exact okt | skip)))
  have h2' : ¬ D ≠ 0 := by simpa using h2
  have hco := hco (Decidable.of_not_not h2')
  rw [if_neg h2']
  (cbv; (try simp only [nc] at *); (try refine Chk.mk (okc) ?_))
  refine call0 (k93) (by first | rfl | (simp only [zoneA, bookA, lst_nt hnt]; rfl)) fun r h₂ hp => ?_
  (try simp only [zoneA, bookA, lst_nt hnt] at hp)
  obtain ⟨rfl, rfl⟩ := hp
  (cbv; (try simp only [nc] at *); (try refine Chk.mk (okc) ?_))
  refine loopS false true [] [1, 2, 4, 8, 9, 33, 34, 35] [] (fun (⟨i, o, s⟩ : Nat × Sp.Span × Bool) => [(9, .bool fun _ => s), (35, .int .i64 fun _ => i)])
    (fun ⟨i, o, s⟩ => [(2, .cells (encSpan o))]) (fun ⟨i, o, s⟩ => i ≤ R.length ∧ ((-1099511627776 ≤ o.fr ∧ o.fr ≤ 1099511627776) ∧ -1099511627776 ≤ o.to_ ∧ o.to_ ≤ 1099511627776) ∧ (R.drop i).foldl (waitStep b l) (o, s) = F) (fun i => R.length - i.1 + 0) (0, ⟨0, 0⟩, false) ⟨Nat.zero_le _, by simp, by simpa using hF⟩ ?_ ?_
  · (refine To.of [] ?_; cbv; (try simp only [nc]); (repeat' (first | exact trivial | exact WkN.refl _ | exact WkB.refl _ | refine ⟨?_, ?_⟩ | refine WkB.cells ?_ | refine WkN.agg ?_ | refine WkN.tup ?_)); (all_goals (first | exact okt | skip)))
  rintro ⟨i, o, s⟩ ⟨hi, ho, hp⟩
  (cbv; (try simp only [nc] at *); (try refine Chk.mk (okc) ?_))
  refine ⟨fun hb => ?_, fun hb => ?_⟩
  · simp only [decide_eq_true_eq] at hb
    rw [nt_drop (d := default) hnt (l := R) (i := i) (by omega), List.foldl_cons] at hp
    have hxb := k93b _ (nt_mem (d := default) hnt (l := R) (i := i) (by omega))
    generalize hx : nt Sp.Ride default R (i : Int) = x at *
    have k68 := k68 x.arrive
    have k68b := k68b x.arrive
    unfold waitStep at hp
    generalize trip b (l.drop 1) x.arrive [] = T at k68 k68b hp
    (cbv; (try simp only [nc] at *); (try refine Chk.mk (okc) ?_))
    simp only [hx]
    refine call0T k68 (by (refine To.of [] ?_; cbv; (try simp only [nc]); (repeat' (first | exact trivial | exact WkN.refl _ | exact WkB.refl _ | refine ⟨?_, ?_⟩ | refine WkB.cells ?_ | refine WkN.agg ?_ | refine WkN.tup ?_)); (all_goals (first | exact okt | skip))); exact drop_nt hnt (by show (l.length : Int) - 1 = ((l.drop 1).length : Int); rw [List.length_drop]; omega) (fun j hj => rfl)) (by first | rfl | (simp only [bookA, lst_nt hnt]; rfl)) fun r h₂ hq => ?_
    obtain ⟨rfl, rfl⟩ := hq
    (cbv; (try simp only [nc] at *); (try refine Chk.mk (okc) ?_))
    refine ⟨fun h3 => ?_, fun h3 => ?_⟩
    · have h3' : T.2 = false := by simpa using h3
      simp only [h3', if_true] at hp
      (cbv; (try simp only [nc] at *); (try refine Chk.mk (okc) ?_))
      refine ⟨(i + 1, o, s), ⟨by show i + 1 ≤ R.length; omega, ho, hp⟩, by show R.length - (i + 1) + 0 < R.length - i + 0; omega, ?_⟩
      (refine To.of [] ?_; cbv; (try simp only [nc]); (repeat' (first | exact trivial | exact WkN.refl _ | exact WkB.refl _ | refine ⟨?_, ?_⟩ | refine WkB.cells ?_ | refine WkN.agg ?_ | refine WkN.tup ?_)); (all_goals (first | exact okt | skip)))
    · have h3' : T.2 = true := by simpa using h3
      have hTl := k68b.2.1 h3'
      have hTl : 0 < T.1.length := by rw [hTl, List.length_drop]; simp; omega
      have hTb := k68b.1 _ (nt_mem (d := default) hnt (l := T.1) (i := 0) hTl)
      have e2 : T.1.getD 0 default = nt Sp.Ride default T.1 0 := by rw [hnt]; rfl
      simp only [h3', Bool.true_eq_false, if_false, e2] at hp
      change RideB (nt Sp.Ride default T.1 0) at hTb
      (cbv; try simp only [nc] at *)
      obtain ⟨y, hy⟩ : ∃ y, nt Sp.Ride default T.1 0 = y := ⟨_, rfl⟩
      simp only [hy] at hp hTb ⊢
      unfold RideB InT at hTb hxb
      refine Chk.mk (okc) ?_
      cases s with
      | false =>
        refine Br.isT rfl ?_
        simp only [if_true] at hp
        (cbv; (try simp only [nc] at *); (try refine Chk.mk (okc) ?_))
        refine ⟨(i + 1, _, true), ⟨by show i + 1 ≤ R.length; omega, ?_, hp⟩, by show R.length - (i + 1) + 0 < R.length - i + 0; omega, ?_⟩
        · simp only [if_neg (Int.lt_irrefl _)]
          omega
        · simp only [if_neg (Int.lt_irrefl _)]
          (refine To.of [] ?_; cbv; (try simp only [nc]); (repeat' (first | exact trivial | exact WkN.refl _ | exact WkB.refl _ | refine ⟨?_, ?_⟩ | refine WkB.cells ?_ | refine WkN.agg ?_ | refine WkN.tup ?_)); (all_goals (first | exact okt | skip)))
      | true =>
        refine Br.isF rfl ?_
        simp only [Bool.true_eq_false, if_false] at hp
        have hu : -1099511627776 ≤ (if y.depart - x.arrive < o.fr then y.depart - x.arrive else o.fr) ∧ (if y.depart - x.arrive < o.fr then y.depart - x.arrive else o.fr) ≤ 1099511627776 := by split <;> omega
        have hv : -1099511627776 ≤ (if o.to_ < y.depart - x.arrive then y.depart - x.arrive else o.to_) ∧ (if o.to_ < y.depart - x.arrive then y.depart - x.arrive else o.to_) ≤ 1099511627776 := by split <;> omega
        (cbv; try simp only [nc] at *)
        refine Chk.mk (okc) ?_
        generalize (if y.depart - x.arrive < o.fr then y.depart - x.arrive else o.fr) = u at *
        generalize (if o.to_ < y.depart - x.arrive then y.depart - x.arrive else o.to_) = v at *
        refine ⟨(i + 1, ⟨u, v⟩, true), ⟨by show i + 1 ≤ R.length; omega, ⟨hu, hv⟩, hp⟩, by show R.length - (i + 1) + 0 < R.length - i + 0; omega, ?_⟩
        (refine To.of [] ?_; cbv; (try simp only [nc]); (repeat' (first | exact trivial | exact WkN.refl _ | exact WkB.refl _ | refine ⟨?_, ?_⟩ | refine WkB.cells ?_ | refine WkN.agg ?_ | refine WkN.tup ?_)); (all_goals (first | exact okt | skip)))
  · simp only [decide_eq_false_iff_not] at hb
    have hir : R.length ≤ i := by omega
    have hp : (R.drop i).foldl (waitStep b l) (o, s) = F := hp
    rw [List.drop_eq_nil_of_le hir, List.foldl_nil] at hp
    rw [← hp]
    (cbv; (try simp only [nc] at *); (try refine Chk.mk (okc) ?_))
    refine ⟨fun h3 => ?_, fun h3 => ?_⟩
    · have h3' : s = false := by simpa using h3
      rw [if_pos h3']
      (cbv; (try simp only [nc] at *); (try refine Chk.mk (okc) ?_))
      refine ⟨_, [], ?_, rfl, rfl⟩
      (refine To.of [] ?_; cbv; (try simp only [nc]); (repeat' (first | exact trivial | exact WkN.refl _ | exact WkB.refl _ | refine ⟨?_, ?_⟩ | refine WkB.cells ?_ | refine WkN.agg ?_ | refine WkN.tup ?_)); (all_goals (first | exact okt | skip)))
    · have h3' : ¬ s = false := by simpa using h3
      rw [if_neg h3']
      (cbv; (try simp only [nc] at *); (try refine Chk.mk (okc) ?_))
      refine ⟨_, [], ?_, rfl, rfl⟩
      (refine To.of [] ?_; cbv; (try simp only [nc]); (repeat' (first | exact trivial | exact WkN.refl _ | exact WkB.refl _ | refine ⟨?_, ?_⟩ | refine WkB.cells ?_ | refine WkN.agg ?_ | refine WkN.tup ?_)); (all_goals (first | exact okt | skip)))
end Go.Proofs.YtlcgliadpalgfaaGreat.Vm
