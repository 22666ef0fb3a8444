/- Contracts: slices.Sort of few ints. -/
import Derived.Calls
import Derived.Laws.Entries
import Derived.Laws.Cells
import Derived.Laws.BitsLemmas
import Derived.Laws.Slices
import Derived.Laws.StructEq
import Derived.ChangeKeysEq
import Derived.Laws.CopyRow
import Derived.Laws.AppendOwn
import Derived.Orders
import Derived.Test.YtlcgliadpalgfaaRows
import Derived.RangeFuncIn
import Derived.RangeFuncRecord
import Derived.WalkKit
import Derived.ProofKit
import Derived.OpenShut
import Derived.ShutString
import Derived.ChangeOld
import Derived.Below
import Derived.KernelRfl
import Derived.Test.YtlcgliadpalgfaaB0
import Derived.Test.YtlcgliadpalgfaaB1
import Derived.Test.YtlcgliadpalgfaaB2
import Derived.Test.YtlcgliadpalgfaaB3
import Derived.Test.YtlcgliadpalgfaaB4
import Derived.Test.YtlcgliadpalgfaaB5
import Derived.Test.YtlcgliadpalgfaaB6
import Derived.Test.YtlcgliadpalgfaaB7
import Derived.Test.YtlcgliadpalgfaaB8
set_option linter.unusedSimpArgs false
set_option linter.unusedVariables false
namespace Go.Proofs.Ytlcgliadpalgfaa.Vm
open Go Go.Proofs Sp
set_option maxRecDepth 100000
set_option maxHeartbeats 800000

theorem c142 (n : Int) : SC (fun _ => Try.prog) 142 [.int .i64 fun _ => n] [] fun v h => v = .bool (fun _ => false) ∧ h = [] := by
  refine con Try.func142 (body := bodyOf Try.f142) rfl (by decide +kernel) ?_
  cbv
  exact ⟨by simp, trivial⟩

theorem c132 (a b : Int) : SC (fun _ => Try.prog) 132 [.int .i64 fun _ => a, .int .i64 fun _ => b] [] fun v h => v = .bool (fun _ => decide (a < b)) ∧ h = [] := by
  refine con Try.func132 (body := bodyOf Try.f132) rfl (by decide +kernel) ?_
  cbv
  refine call0 (c142 a) rfl fun r h₂ hp => ?_
  obtain ⟨rfl, rfl⟩ := hp
  cbv
  refine Br.isF rfl ?_
  cbv
  refine ⟨by simp [allc0, allc1, allcE, allcI, Cn.p], by simp, trivial⟩

theorem u8_bd (s : ByteArray) (n : Nat) : ((s[n]?).map UInt8.toNat).getD 0 ≤ 255 := by
  cases s[n]? with
  | none => simp
  | some b => have := b.toNat_lt; simp; omega

theorem u8_i (s : ByteArray) (n : Nat) : -9223372036854775808 ≤ ((((s[n]?).map UInt8.toNat).getD 0 : Nat) : Int) ∧ ((((s[n]?).map UInt8.toNat).getD 0 : Nat) : Int) ≤ 9223372036854775807 := by have := u8_bd s n; omega
theorem u8_j (s : ByteArray) (n : Nat) : -9223372036854775808 ≤ 0 + ((((s[n]?).map UInt8.toNat).getD 0 : Nat) : Int) ∧ 0 + ((((s[n]?).map UInt8.toNat).getD 0 : Nat) : Int) ≤ 9223372036854775807 := by have := u8_bd s n; omega
theorem u8_k (s : ByteArray) (n : Nat) : 0 ≤ 0 + ((((s[n]?).map UInt8.toNat).getD 0 : Nat) : Int) := by omega
theorem u8_l (s : ByteArray) (n : Nat) : 0 + ((((s[n]?).map UInt8.toNat).getD 0 : Nat) : Int) ≤ 255 := by have := u8_bd s n; omega

theorem c136 (n : Int) (h0 : 0 ≤ n) (h1 : n ≤ 255) : SC (fun _ => Try.prog) 136 [.int .u64 fun _ => n] [] fun v h => (∃ x : Int, 0 ≤ x ∧ x ≤ 255 ∧ v = .int .i64 fun _ => x) ∧ h = [] := by
  refine con Try.func136 (body := bodyOf Try.f136) rfl (by decide +kernel) ?_
  cbv
  refine Br.isF (by rw [decide_eq_false_iff_not]; omega) ?_
  cbv
  refine Br.isF (by rw [decide_eq_false_iff_not]; omega) ?_
  cbv
  refine Br.isF (by rw [decide_eq_false_iff_not]; omega) ?_
  cbv
  have hw : IntKind.u8.wrap n = n := by
    simp only [IntKind.wrap, IntKind.signed, IntKind.bits]
    simp
    omega
  refine ⟨?_, ⟨_, ?_, ?_, rfl⟩, trivial⟩
  · simp only [allc0, allc1, allcE, allcI, Cn.p, and_true]
    refine ⟨⟨by rw [hw]; exact h0, by rw [hw]; show n < ((256 : Nat) : Int); omega⟩, ?_, ?_⟩
    · exact u8_i _ _
    · exact u8_j _ _
  · exact u8_k _ _
  · exact u8_l _ _

theorem c124 (n : Int) (h0 : 0 ≤ n) (h1 : n ≤ 255) : SC (fun _ => Try.prog) 124 [.int .u64 fun _ => n] [] fun v h => (∃ x : Int, 0 ≤ x ∧ x ≤ 255 ∧ v = .int .i64 fun _ => x) ∧ h = [] := by
  refine con Try.func124 (body := bodyOf Try.f124) rfl (by decide +kernel) ?_
  cbv
  refine Br.isF rfl ?_
  cbv
  refine call0 (c136 n h0 h1) rfl fun r h₂ hp => ?_
  obtain ⟨⟨x, hx1, hx2, rfl⟩, rfl⟩ := hp
  cbv
  exact ⟨⟨x, hx1, hx2, rfl⟩, trivial⟩

theorem c126 (l : List Int) (c : Int) (h1 : 1 ≤ l.length) (h2 : l.length ≤ 12) : SC (fun _ => Try.prog) 126 [.msl 0 1 (fun _ => 0) (fun _ => (l.length : Int)) (fun _ => c), .int .i64 fun _ => 0, .int .i64 fun _ => (l.length : Int)] [.arr 1 (fun _ => (l.length : Int)) (lstR encI 0 l)]
    fun v h => v = .undef ∧ h = [.arr 1 (fun _ => (l.length : Int)) (lstR encI 0 (isort l))] := by
  obtain ⟨nt, hnt⟩ := nth_ex
  have hR : ∀ L : List Int, lstR encI 0 L = fun e => encI (nt Int 0 L (e ())) := fun L => by funext e; show encI _ = _; rw [hnt]
  rw [hR]
  refine SC.less (con Try.func126 (body := bodyOf Try.f126) rfl (by decide +kernel) ?_)
  cbv
  refine ⟨okc, ?_⟩
  refine loopA [0, 1, 2, 6] (fun (⟨i, L⟩ : Nat × List Int) => mkS 49 [(0, .msl 0 1 (fun _ => 0) (fun _ => (l.length : Int)) (fun _ => c)), (1, .int .i64 fun _ => 0), (2, .int .i64 fun _ => (l.length : Int)), (6, .int .i64 fun _ => (i : Int))])
    (fun ⟨i, L⟩ => [.arr 1 (fun _ => (l.length : Int)) fun e => encI (nt Int 0 L (e ()))])
    (fun ⟨i, L⟩ => 1 ≤ i ∧ i ≤ l.length ∧ L.length = l.length ∧ isort l = isortGo (l.length - i) i L) (fun i => l.length - i.1 + 0) (1, l) 1 (fun _ => rfl) ⟨by simp, h1, rfl, rfl⟩ (To.of [] ?_) ?_
  · cbv
    exact ⟨⟨.refl _, .refl _, .refl _, .int rfl, trivial⟩, .refl _, trivial⟩
  rintro ⟨i, L⟩ ⟨hi1, hi2, hL, hp⟩
  (cbv; try simp only [nc] at *)
  refine ⟨fun hb => ?_, fun hb => ?_⟩
  · simp only [decide_eq_true_eq] at hb
    obtain ⟨q, hq⟩ : ∃ q, l.length - i = q + 1 := ⟨l.length - i - 1, by omega⟩
    rw [hq, isortGo] at hp
    (cbv; try simp only [nc] at *)
    refine loopQ fun Q hQ => ?_
    refine loopA [0, 1, 2, 6, 7] (fun (⟨j, M⟩ : Nat × List Int) => mkS 49 [(0, .msl 0 1 (fun _ => 0) (fun _ => (l.length : Int)) (fun _ => c)), (1, .int .i64 fun _ => 0), (2, .int .i64 fun _ => (l.length : Int)), (6, .int .i64 fun _ => (i : Int)), (7, .int .i64 fun _ => (j : Int))])
      (fun ⟨j, M⟩ => [.arr 1 (fun _ => (l.length : Int)) fun e => encI (nt Int 0 M (e ()))])
      (fun ⟨j, M⟩ => j ≤ i ∧ M.length = l.length ∧ sink i L = sink j M) (fun j => j.1 + 0) (i, L) 1 (fun _ => rfl) ⟨Nat.le_refl _, hL, rfl⟩ (To.of [] ?_) ?_
    · cbv
      exact ⟨⟨.refl _, .refl _, .refl _, .refl _, .refl _, trivial⟩, .refl _, trivial⟩
    intro x hx
    obtain ⟨j, M⟩ := x
    have hj : j ≤ i := hx.1
    have hM : M.length = l.length := hx.2.1
    have hs : sink i L = sink j M := hx.2.2
    clear hx
    cases j with
    | zero =>
      (cbv; (try simp only [nc] at *); (try refine Chk.mk (okc) ?_))
      refine Br.isF (by decide) ?_
      (cbv; (try simp only [nc] at *); (try refine Chk.mk (okc) ?_))
      refine Br.isF (by decide) ?_
      (cbv; (try simp only [nc] at *); (try refine Chk.mk (okc) ?_))
      refine hQ _ _ _ ?_
      (cbv; (try simp only [nc] at *); (try refine Chk.mk (okc) ?_))
      refine ⟨(i + 1, M), ⟨by dsimp only; omega, by dsimp only; omega, hM, by dsimp only; rw [hp, hs, show l.length - (i + 1) = q by omega]; rfl⟩, by show l.length - (i + 1) + 0 < l.length - i + 0; omega, To.of [] ?_⟩
      cbv
      exact ⟨⟨.refl _, .refl _, .refl _, .int rfl, trivial⟩, .refl _, trivial⟩
    | succ j =>
      (cbv; (try simp only [nc] at *); (try refine Chk.mk (okc) ?_))
      refine Br.isT (by rw [decide_eq_true_eq]; omega) ?_
      (cbv; (try simp only [nc] at *); (try refine Chk.mk (okc) ?_))
      refine call0 (c132 _ _) rfl fun r h₂ hp' => ?_
      obtain ⟨rfl, rfl⟩ := hp'
      have e1 : nt Int 0 M (0 + ((j + 1 : Nat) : Int)) = M.getD (j + 1) 0 := by rw [hnt]; congr 1; omega
      have e2 : nt Int 0 M (0 + (((j + 1 : Nat) : Int) - 1)) = M.getD j 0 := by rw [hnt]; congr 1; omega
      (cbv; (try simp only [nc] at *); (try refine Chk.mk (okc) ?_))
      refine ⟨fun hb' => ?_, fun hb' => ?_⟩
      · have hlt : M.getD (j + 1) 0 < M.getD j 0 := by
          rw [← e1, ← e2]
          simpa using hb'
        rw [sink, if_pos hlt] at hs
        (cbv; (try simp only [nc] at *); (try refine Chk.mk (okc) ?_))
        refine ⟨(j, (M.set (j + 1) (M.getD j 0)).set j (M.getD (j + 1) 0)), ⟨by dsimp only; omega, by simpa using hM, hs⟩, by show j + 0 < j + 1 + 0; omega, To.of [] ?_⟩
        cbv
        refine ⟨⟨.refl _, .refl _, .refl _, .refl _, .int (by simp only [nc]; omega), trivial⟩, .arr rfl fun k hk => ?_, trivial⟩
        have key : (bif decide ((k : Int) = 0 + (((j + 1 : Nat) : Int) - 1)) then nt Int 0 M (0 + ((j + 1 : Nat) : Int)) else (bif decide ((k : Int) = 0 + ((j + 1 : Nat) : Int)) then nt Int 0 M (0 + (((j + 1 : Nat) : Int) - 1)) else nt Int 0 M (k : Int))) = nt Int 0 ((M.set (j + 1) (M.getD j 0)).set j (M.getD (j + 1) 0)) (k : Int) := by
          rw [e1, e2, hnt, hnt]
          simp only [Int.toNat_natCast, List.getD_eq_getElem?_getD, List.getElem?_set, List.length_set]
          by_cases h1 : k = j
          · subst h1
            rw [decide_eq_true (by omega)]
            simp
            rw [if_pos (by omega)]
            rfl
          · rw [decide_eq_false (by omega), if_neg (by omega)]
            by_cases h2 : k = j + 1
            · subst h2
              rw [decide_eq_true (by omega)]
              simp
              rw [if_pos (by omega)]
              rfl
            · rw [decide_eq_false (by omega), if_neg (by omega)]
              rfl
        show [AV.int .i64 fun _ => _] = [AV.int .i64 fun _ => _]
        exact congrArg (fun x : Int => [AV.int .i64 fun _ => x]) key
      · have hlt : ¬ M.getD (j + 1) 0 < M.getD j 0 := by
          rw [← e1, ← e2]
          simpa using hb'
        rw [sink, if_neg hlt] at hs
        (cbv; (try simp only [nc] at *); (try refine Chk.mk (okc) ?_))
        refine hQ _ _ _ ?_
        (cbv; (try simp only [nc] at *); (try refine Chk.mk (okc) ?_))
        refine ⟨(i + 1, M), ⟨by dsimp only; omega, by dsimp only; omega, hM, by dsimp only; rw [hp, hs, show l.length - (i + 1) = q by omega]⟩, by show l.length - (i + 1) + 0 < l.length - i + 0; omega, To.of [] ?_⟩
        cbv
        exact ⟨⟨.refl _, .refl _, .refl _, .int rfl, trivial⟩, .refl _, trivial⟩
  · simp only [decide_eq_false_iff_not] at hb
    have hz : l.length - i = 0 := by omega
    rw [hz, isortGo] at hp
    (cbv; try simp only [nc] at *)
    refine ⟨.undef, [.arr 1 (fun _ => (l.length : Int)) (lstR encI 0 (isort l))], To.of [] ⟨trivial, ?_, trivial⟩, rfl, rfl⟩
    rw [hR, hp]
    exact .refl _

theorem c123 (l : List Int) (c lim : Int) (h1 : 1 ≤ l.length) (h2 : l.length ≤ 12) : SC (fun _ => Try.prog) 123 [.msl 0 1 (fun _ => 0) (fun _ => (l.length : Int)) (fun _ => c), .int .i64 fun _ => 0, .int .i64 fun _ => (l.length : Int), .int .i64 fun _ => lim] [.arr 1 (fun _ => (l.length : Int)) (lstR encI 0 l)]
    fun v h => v = .tup [] ∧ h = [.arr 1 (fun _ => (l.length : Int)) (lstR encI 0 (isort l))] := by
  refine con Try.func123 (body := bodyOf Try.f123) rfl (by decide +kernel) ?_
  cbv
  refine loopQ fun Q hQ => ?_
  refine loopA [0, 1, 2, 3] (fun _ : Unit => mkS 134 [(0, .msl 0 1 (fun _ => 0) (fun _ => (l.length : Int)) (fun _ => c)), (1, .int .i64 fun _ => 0), (2, .int .i64 fun _ => (l.length : Int)), (3, .int .i64 fun _ => lim)])
    (fun _ => [.arr 1 (fun _ => (l.length : Int)) (lstR encI 0 l)]) (fun _ => True) (fun _ => 0) () 1 (fun _ => rfl) trivial (To.of [] ?_) ?_
  · cbv
    exact ⟨⟨.refl _, .refl _, .refl _, .refl _, trivial⟩, .refl _, trivial⟩
  intro _ _
  (cbv; (try simp only [nc] at *); (try refine Chk.mk (okc) ?_))
  refine Br.isT (by rw [decide_eq_true_eq]; omega) ?_
  (cbv; (try simp only [nc] at *); (try refine Chk.mk (okc) ?_))
  refine callL [0] (c126 l c h1 h2) (by decide) (by simp) rfl rfl fun r h₂ hp => ?_
  obtain ⟨rfl, rfl⟩ := hp
  cbv
  refine hQ _ _ _ ?_
  cbv

theorem c115m (l : List Int) (c : Int) (h1 : 1 ≤ l.length) (h2 : l.length ≤ 12) : SC (fun _ => Try.prog) 115 [.msl 0 1 (fun _ => 0) (fun _ => (l.length : Int)) (fun _ => c)] [.arr 1 (fun _ => (l.length : Int)) (lstR encI 0 l)]
    fun v h => v = .tup [] ∧ h = [.arr 1 (fun _ => (l.length : Int)) (lstR encI 0 (isort l))] := by
  refine con Try.func115 (body := bodyOf Try.f115) rfl (by decide +kernel) ?_
  (cbv; (try simp only [nc] at *); (try refine Chk.mk (okc) ?_))
  have hw : IntKind.u64.wrap (l.length : Int) = l.length := by
    simp only [IntKind.wrap, IntKind.signed, IntKind.bits]
    simp
    omega
  refine call0 (c124 (IntKind.u64.wrap (l.length : Int)) (by omega) (by omega)) rfl fun r h₂ hp => ?_
  obtain ⟨⟨x, _, _, rfl⟩, rfl⟩ := hp
  cbv
  refine callL [0] (c123 l c x h1 h2) (by decide) (by simp) rfl rfl fun r h₂ hp => ?_
  obtain ⟨rfl, rfl⟩ := hp
  cbv

/-- slices.Sort of an array that has grown. -/
theorem c115 (l : List Int) (n : Unit → Int) (hn : n () = (l.length : Int)) (h1 : 1 ≤ l.length) (h2 : l.length ≤ 12) : SC (fun _ => Try.prog) 115 [.gsl 0 n] [.gar 1 (fun _ => (l.length : Int)) (lstR encI 0 l)]
    fun v h => v = .tup [] ∧ h = [.fro 1 (fun _ => (l.length : Int)) (lstR encI 0 (isort l))] :=
  SC.inPlace hn (by show (0 : Int) < (l.length : Int); omega) rfl rfl fun c _ => (c115m l c h1 h2).mono fun r h hp => by
    obtain ⟨rfl, rfl⟩ := hp
    exact ⟨_, [], rfl, rfl, rfl, rfl⟩
end Go.Proofs.Ytlcgliadpalgfaa.Vm

/- Contracts: hours that are skipped or doubled. -/
namespace Go.Proofs.Ytlcgliadpalgfaa.Vm
open Go Go.Proofs Sp
set_option maxRecDepth 100000
set_option maxHeartbeats 800000

def encSpan (x : Sp.Span) : List AV := [.int .i64 fun _ => x.fr, .int .i64 fun _ => x.to_]

theorem sink_all {P : Int → Prop} (h0 : P 0) : ∀ (j : Nat) (M : List Int), (∀ x ∈ M, P x) → ∀ x ∈ sink j M, P x
  | 0, M, h => h
  | j + 1, M, h => by
    unfold sink
    have hg : ∀ k, P (M.getD k 0) := fun k => by
      rw [List.getD_eq_getElem?_getD]
      cases hk : M[k]? with
      | none => exact h0
      | some x => exact h x (List.mem_of_getElem? hk)
    split
    · refine sink_all h0 j _ fun x hx => ?_
      rcases List.mem_or_eq_of_mem_set hx with hx | rfl
      · rcases List.mem_or_eq_of_mem_set hx with hx | rfl
        · exact h x hx
        · exact hg _
      · exact hg _
    · exact h
theorem isort_all {P : Int → Prop} (h0 : P 0) (M : List Int) (h : ∀ x ∈ M, P x) : ∀ x ∈ isort M, P x := by
  have key : ∀ (k i : Nat) (M : List Int), (∀ x ∈ M, P x) → ∀ x ∈ isortGo k i M, P x := by
    intro k
    induction k with
    | zero => intro i M h; exact h
    | succ k ih => intro i M h; exact ih (i + 1) _ (sink_all h0 i M h)
  exact key _ _ M h
theorem sink_length : ∀ (j : Nat) (M : List Int), (sink j M).length = M.length
  | 0, M => rfl
  | j + 1, M => by
    unfold sink
    split
    · rw [sink_length]; simp
    · rfl
theorem isort_length (M : List Int) : (isort M).length = M.length := by
  have key : ∀ (k i : Nat) (M : List Int), (isortGo k i M).length = M.length := by
    intro k
    induction k with
    | zero => intro i M; rfl
    | succ k ih => intro i M; rw [isortGo, ih, sink_length]
  exact key _ _ M

/-- The pieces of a valid zone. -/
theorem pieces_bd {z : Zone} (h : checkZone z = 0) : (pieces z).length ≤ 4 ∧ ∀ p ∈ pieces z, 0 ≤ p.fr ∧ p.fr ≤ 43200 ∧ 0 ≤ p.bef ∧ p.bef ≤ 1099511627776 ∧ -1000000 ≤ p.ahd ∧ p.ahd ≤ 1000000 := by
  have hs := small_of h
  have hl := pcsGo_len z.chs 0 z.base
  have h3 : z.chs.length ≤ 3 := by
    unfold checkZone at h
    split at h
    · cases h
    · split at h
      · cases h
      · omega
  have hat : ∀ c ∈ z.chs, 0 ≤ c.at_ ∧ c.at_ ≤ 43200 := by
    unfold checkZone at h
    split at h
    · cases h
    · split at h
      · cases h
      · have key : ∀ (l : List Chg) (p : Option Int), chkChs p l = 0 → ∀ c ∈ l, 0 ≤ c.at_ ∧ c.at_ ≤ 43200 := by
          intro l
          induction l with
          | nil => intro p _ c hc; cases hc
          | cons a l ih =>
            intro p hp c hc
            rw [chkChs_cons] at hp
            split at hp
            · cases hp
            rename_i h3
            split at hp
            · cases hp
            split at hp
            · cases hp
            rcases List.mem_cons.1 hc with rfl | hc
            · simp [inB] at h3
              omega
            · exact ih _ hp c hc
        exact key _ _ h
  refine ⟨by unfold pieces; omega, ?_⟩
  have key : ∀ (l : List Chg) (fr a : Int), (∀ c ∈ l, 0 ≤ c.at_ ∧ c.at_ ≤ 43200) → 0 ≤ fr ∧ fr ≤ 43200 → ∀ p ∈ pcsGo fr a l, 0 ≤ p.fr ∧ p.fr ≤ 43200 ∧ 0 ≤ p.bef ∧ p.bef ≤ 1099511627776 := by
    intro l
    induction l with
    | nil => intro fr a _ hf p hp; simp [pcsGo, openT] at hp; subst hp; simp; omega
    | cons c l ih =>
      intro fr a hc hf p hp
      have h1 := hc c (List.mem_cons_self ..)
      simp only [pcsGo] at hp
      split at hp
      · rcases List.mem_cons.1 hp with rfl | hp
        · simp; omega
        · exact ih _ _ (fun x hx => hc x (List.mem_cons_of_mem _ hx)) h1 p hp
      · exact ih _ _ (fun x hx => hc x (List.mem_cons_of_mem _ hx)) h1 p hp
  intro p hp
  have h1 := key z.chs 0 z.base hat (by omega) p hp
  have h2 := (pieces_small hs).2.2 p hp
  omega

theorem snocR {nt : (α : Type) → α → List α → Int → α} (hnt : ∀ (α : Type) (d : α) (l : List α) (i : Int), nt α d l i = l.getD i.toNat d) {α : Type} {enc : α → List AV} {d : α} {E X : List α} {n0 : Unit → Int} {g : (Unit → Int) → List AV} (h0 : n0 () = (E.length : Int)) (hg : ∀ k : Nat, k < X.length → g (fun _ => (k : Int)) = enc (X.getD k d)) :
    ∀ i : Nat, (i : Int) < (E.length : Int) + (X.length : Int) → snocF n0 (fun e => enc (nt α d E (e ()))) g (fun _ => (i : Int)) = enc (nt α d (E ++ X) (i : Int)) := fun i hi => by
  rw [nt_app hnt]
  show (if (i : Int) < n0 () then enc (nt α d E (i : Int)) else g (fun _ => (i : Int) - n0 ())) = _
  by_cases h : i < E.length
  · rw [if_pos (by omega), if_pos h]
  · rw [if_neg (by omega), if_neg h]
    have e : (fun _ : Unit => ((i : Int) - n0 ())) = fun _ => ((i - E.length : Nat) : Int) := funext fun _ => by omega
    rw [e, hg _ (by omega), hnt, Int.toNat_natCast]

theorem last_of {nt : (α : Type) → α → List α → Int → α} (hnt : ∀ (α : Type) (d : α) (l : List α) (i : Int), nt α d l i = l.getD i.toNat d) {α : Type} {d : α} {l : List α} (h : 0 < l.length) : l.getLast? = some (nt α d l ((l.length : Int) - 1)) := by
  have e : ((l.length : Int) - 1).toNat = l.length - 1 := by omega
  rw [hnt, e, List.getLast?_eq_getElem?, List.getD_eq_getElem?_getD, List.getElem?_eq_getElem (by omega)]
  rfl

/-- One more element behind a slice that has been cut by one. -/
theorem snocCut {nt : (α : Type) → α → List α → Int → α} (hnt : ∀ (α : Type) (d : α) (l : List α) (i : Int), nt α d l i = l.getD i.toNat d) {α : Type} {enc : α → List AV} {d : α} {l : List α} {x : α} {n0 : Unit → Int} {g : (Unit → Int) → List AV} (h : 0 < l.length) (h0 : n0 () = (l.length : Int) - 1) (hg : g (fun _ => 0) = enc x) :
    ∀ i : Nat, (i : Int) < (l.length : Int) → snocF n0 (fun e => enc (nt α d l (e ()))) g (fun _ => (i : Int)) = enc (nt α d (l.dropLast ++ [x]) (i : Int)) := fun i hi => by
  rw [nt_app hnt, List.length_dropLast]
  show (if (i : Int) < n0 () then enc (nt α d l (i : Int)) else g (fun _ => (i : Int) - n0 ())) = _
  by_cases hlt : i < l.length - 1
  · rw [if_pos (by omega), if_pos hlt, hnt, hnt]
    congr 1
    simp only [Int.toNat_natCast, List.getD_eq_getElem?_getD]
    rw [List.getElem?_dropLast, if_pos hlt]
  · rw [if_neg (by omega), if_neg hlt]
    have e : (fun _ : Unit => ((i : Int) - n0 ())) = fun _ => 0 := funext fun _ => by omega
    rw [e, hg, hnt, show i - (l.length - 1) = 0 from by omega]
    rfl

theorem c82 (z : Zone) (hz : checkZone z = 0) (f : FuncId) (q : Int → Bool) (hq : ∀ n : Int, SC (fun _ => Try.prog) f [.int .i64 fun _ => n] [] fun v h => v = .bool (fun _ => q n) ∧ h = []) :
    SC (fun _ => Try.prog) 82 [zoneA z, .fn f [] []] [] fun v h => v = lst 2 encSpan default (spans z q) ∧ h = [] := by
  obtain ⟨nt, hnt⟩ := nth_ex
  have hR : ∀ L : List Int, lstR encI 0 L = fun e => encI (nt Int 0 L (e ())) := fun L => by funext e; show encI _ = _; rw [hnt]
  refine SC.less (conF false true Try.func82 (body := bodyOf Try.f82) rfl (by decide +kernel) ?_)
  unfold zoneA
  cbv
  refine call0 (c90 z (small_of hz)) rfl fun r h₂ hp => ?_
  obtain ⟨rfl, rfl⟩ := hp
  obtain ⟨hl1, hl3⟩ := pieces_bd hz
  have hl2 := (pieces_small (small_of hz)).2.1
  unfold spans
  rw [lst_nt hnt]
  generalize pieces z = l at *
  cbv
  refine loopQ fun Q hQ => ?_
  refine loopF false true [1, 5, 6, 20, 21, 22] (fun (⟨i, E⟩ : Nat × List Int) => mkS 133 [(1, .fn f [] []), (5, .isl 3 (fun _ => (l.length : Int)) (fun e => encPc (nt Pc default l (e ()))) .none), (6, .gsl 1 fun _ => (E.length : Int)), (20, .isl 3 (fun _ => (l.length : Int)) (fun e => encPc (nt Pc default l (e ()))) .none), (21, .int .i64 fun _ => (l.length : Int)), (22, .int .i64 fun _ => (i : Int))])
    (fun ⟨i, E⟩ => [.cells [.undef, .undef], .gar 1 (fun _ => (E.length : Int)) fun e => encI (nt Int 0 E (e ()))])
    (fun ⟨i, E⟩ => i ≤ l.length ∧ ends l = E ++ ends (l.drop i) ∧ E.length = 2 * i) (fun i => l.length - i.1 + 0) (0, []) 2 (fun _ => rfl) ⟨Nat.zero_le _, by simp, by simp⟩ (To.of [(1, true)] ?_) ?_
  · cbv
    exact ⟨⟨.refl _, .refl _, .nilGar (by decide) (by decide) rfl, .refl _, .refl _, .int rfl, trivial⟩, .cells trivial, .gar rfl (fun i hi => absurd hi (by show ¬ ((i : Int) < 0); omega)), trivial⟩
  intro x hx
  obtain ⟨i, E⟩ := x
  have hi : i ≤ l.length := hx.1
  have hp : ends l = E ++ ends (l.drop i) := hx.2.1
  have hE : E.length = 2 * i := hx.2.2
  clear hx
  (cbv; (try simp only [nc] at *); (try refine Chk.mk (okc) ?_))
  refine ⟨fun hb => ?_, fun hb => ?_⟩
  · simp only [decide_eq_true_eq] at hb
    have hil : i < l.length := by omega
    have hd := nt_drop (d := default) hnt hil
    have hm := hl3 _ (nt_mem (d := default) hnt hil)
    (cbv; try simp only [nc] at *)
    obtain ⟨p, hc⟩ : ∃ p, nt Pc default l (i : Int) = p := ⟨_, rfl⟩
    rw [hc] at hd hm
    simp only [hc]
    refine ⟨okc, ⟨(i + 1, E ++ [p.fr + p.ahd, p.bef + p.ahd]), ⟨by omega, by dsimp only; rw [hp, hd]; simp [ends], by simp; omega⟩, by show l.length - (i + 1) + 0 < l.length - i + 0; omega, To.of [] ?_⟩⟩
    cbv
    refine ⟨⟨.refl _, .refl _, .gsl (by simp), .refl _, .refl _, .int rfl, trivial⟩, .refl _, .gar (by simp) fun k hk => snocR hnt (X := [p.fr + p.ahd, p.bef + p.ahd]) rfl (fun k hk => ?_) k (by simpa using hk), trivial⟩
    match k, hk with
    | 0, _ => rfl
    | 1, _ => rfl
  · simp only [decide_eq_false_iff_not] at hb
    have hdr : l.drop i = [] := List.drop_eq_nil_of_le (by omega)
    have hp : ends l = E := by rw [hp, hdr]; exact List.append_nil _
    have hE2 : 2 ≤ E.length ∧ E.length ≤ 8 := by omega
    subst hp
    (cbv; try simp only [nc] at *)
    refine hQ _ _ _ ?_
    (cbv; try simp only [nc] at *)
    clear hQ
    have h115 := c115 (ends l) (fun _ => ((ends l).length : Int)) rfl (by omega) (by omega)
    rw [hR, hR] at h115
    refine callL [1] h115 (by decide) (by simp) rfl rfl fun r h₂ hp => ?_
    obtain ⟨rfl, rfl⟩ := hp
    have hlen : (isort (ends l)).length = (ends l).length := isort_length _
    have hbd : ∀ x ∈ isort (ends l), -2000000 ≤ x ∧ x ≤ 1100000000000 := isort_all (by omega) _ fun x hx => by
      simp only [ends, List.mem_flatMap] at hx
      obtain ⟨p, hp, hx⟩ := hx
      have := hl3 p hp
      simp at hx
      omega
    have hsp : spansGo l q [] (isort (ends l)) = spansGo l q [] ((isort (ends l)).drop 0) := rfl
    generalize isort (ends l) = S at *
    generalize (ends l).length = N at *
    subst hlen
    (cbv; (try simp only [nc] at *); (try refine Chk.mk (okc) ?_))
    refine loopQ fun Q hQ => ?_
    refine loopF false true [1, 5, 6, 9, 46, 47, 48] (fun (⟨i, out⟩ : Nat × List Sp.Span) => mkS 133 [(1, .fn f [] []), (5, .isl 3 (fun _ => (l.length : Int)) (fun e => encPc (nt Pc default l (e ()))) .none),
        (6, .isl 1 (fun _ => (S.length : Int)) (fun e => encI (nt Int 0 S (e ()))) .none), (9, .isl 2 (fun _ => (out.length : Int)) (fun e => encSpan (nt Sp.Span default out (e ()))) .none),
        (46, .isl 1 (fun _ => (S.length : Int) - 1) (fun e => encI (nt Int 0 S (e ()))) .none), (47, .int .i64 fun _ => (S.length : Int) - 1), (48, .int .i64 fun _ => (i : Int))])
      (fun _ => [.cells [.undef, .undef], .fro 1 (fun _ => (S.length : Int)) fun e => encI (nt Int 0 S (e ()))])
      (fun ⟨i, out⟩ => i + 1 ≤ S.length ∧ spansGo l q [] S = spansGo l q out (S.drop i) ∧ out.length ≤ i) (fun i => S.length - i.1 + 0) (0, []) 2 (fun _ => rfl) ⟨by omega, rfl, by simp⟩ (To.of [] ?_) ?_
    · cbv
      exact ⟨⟨.refl _, .refl _, .gd (by decide) (.refl _), .empty rfl, .refl _, .refl _, .int rfl, trivial⟩, .cells trivial, .refl _, trivial⟩
    clear h115 hp hE hdr hb hi hsp
    intro x hx
    obtain ⟨i, out⟩ := x
    have hi : i + 1 ≤ S.length := hx.1
    have hp : spansGo l q [] S = spansGo l q out (S.drop i) := hx.2.1
    have ho : out.length ≤ i := hx.2.2
    clear hx
    (cbv; (try simp only [nc] at *); (try refine Chk.mk (okc) ?_))
    refine ⟨fun hb => ?_, fun hb => ?_⟩
    · simp only [decide_eq_true_eq] at hb
      have hil : i < S.length := by omega
      have hil' : i + 1 < S.length := by omega
      have hd := nt_drop (d := (0 : Int)) hnt hil
      have hd' := nt_drop (d := (0 : Int)) hnt hil'
      have hm := hbd _ (nt_mem (d := (0 : Int)) hnt hil)
      have hm' := hbd _ (nt_mem (d := (0 : Int)) hnt hil')
      (cbv; (try simp only [nc] at *); (try refine Chk.mk (okc) ?_))
      obtain ⟨lo, hlo⟩ : ∃ p, nt Int 0 S (i : Int) = p := ⟨_, rfl⟩
      obtain ⟨hi', hhi⟩ : ∃ p, nt Int 0 S ((i : Int) + 1) = p := ⟨_, rfl⟩
      have hhi2 : nt Int 0 S ((i + 1 : Nat) : Int) = hi' := hhi
      rw [hlo] at hd hm
      rw [hhi2] at hd' hm'
      rw [hd, hd', spansGo] at hp
      simp only [hlo, hhi]
      refine loopQ fun Q₂ hQ₂ => ?_
      refine loopF false true [1, 5, 6, 9, 10, 11, 12, 13, 46, 47, 48, 58, 59, 60] (fun (⟨k, n⟩ : Nat × Int) => mkS 133 [(1, .fn f [] []), (5, .isl 3 (fun _ => (l.length : Int)) (fun e => encPc (nt Pc default l (e ()))) .none),
        (6, .isl 1 (fun _ => (S.length : Int)) (fun e => encI (nt Int 0 S (e ()))) .none), (9, .isl 2 (fun _ => (out.length : Int)) (fun e => encSpan (nt Sp.Span default out (e ()))) .none),
        (10, .int .i64 fun _ => (i : Int)), (11, .int .i64 fun _ => lo), (12, .int .i64 fun _ => hi'), (13, .int .i64 fun _ => n),
        (46, .isl 1 (fun _ => (S.length : Int) - 1) (fun e => encI (nt Int 0 S (e ()))) .none), (47, .int .i64 fun _ => (S.length : Int) - 1), (48, .int .i64 fun _ => (i : Int)),
        (58, .isl 3 (fun _ => (l.length : Int)) (fun e => encPc (nt Pc default l (e ()))) .none), (59, .int .i64 fun _ => (l.length : Int)), (60, .int .i64 fun _ => (k : Int))])
        (fun _ => [.cells [.undef, .undef], .fro 1 (fun _ => (S.length : Int)) fun e => encI (nt Int 0 S (e ()))])
        (fun ⟨k, n⟩ => k ≤ l.length ∧ times l lo = n + times (l.drop k) lo ∧ 0 ≤ n ∧ n ≤ k) (fun i => l.length - i.1 + 0) (0, 0) 2 (fun _ => rfl) ⟨Nat.zero_le _, by simp, by simp, by simp⟩ (To.of [] ?_) ?_
      · cbv
        exact ⟨⟨.refl _, .refl _, .refl _, .refl _, .refl _, .refl _, .refl _, .refl _, .refl _, .refl _, .refl _, .refl _, .refl _, .int rfl, trivial⟩, .refl _, .refl _, trivial⟩
      intro x hx
      obtain ⟨k, n⟩ := x
      have hk : k ≤ l.length := hx.1
      have ht : times l lo = n + times (l.drop k) lo := hx.2.1
      have hn : 0 ≤ n ∧ n ≤ k := hx.2.2
      clear hx
      (cbv; (try simp only [nc] at *); (try refine Chk.mk (okc) ?_))
      refine ⟨fun hb => ?_, fun hb => ?_⟩
      · simp only [decide_eq_true_eq] at hb
        have hkl : k < l.length := by omega
        have hdk := nt_drop (d := default) hnt hkl
        have hmk := hl3 _ (nt_mem (d := default) hnt hkl)
        (cbv; try simp only [nc] at *)
        obtain ⟨p, hc⟩ : ∃ p, nt Pc default l (k : Int) = p := ⟨_, rfl⟩
        rw [hc] at hdk hmk
        rw [hdk, times] at ht
        simp only [hc]
        have hite : (bif decide (p.fr + p.ahd ≤ lo) then decide (lo < p.bef + p.ahd) else false) = decide (p.fr + p.ahd ≤ lo ∧ lo < p.bef + p.ahd) := by
          rw [Bool.decide_and]; cases decide (p.fr + p.ahd ≤ lo) <;> rfl
        rw [hite]
        refine Chk.mk (okc) ⟨fun hb => ?_, fun hb => ?_⟩
        · simp only [decide_eq_true_eq] at hb
          rw [if_pos hb] at ht
          (cbv; (try simp only [nc] at *); (try refine Chk.mk (okc) ?_))
          refine ⟨(k + 1, n + 1), ⟨by dsimp only; omega, by dsimp only; omega, by dsimp only; omega, by dsimp only; omega⟩, by show l.length - (k + 1) + 0 < l.length - k + 0; omega, To.of [] ?_⟩
          cbv
          exact ⟨⟨.refl _, .refl _, .refl _, .refl _, .refl _, .refl _, .refl _, .refl _, .refl _, .refl _, .refl _, .refl _, .refl _, .int rfl, trivial⟩, .refl _, .refl _, trivial⟩
        · simp only [decide_eq_false_iff_not] at hb
          rw [if_neg hb] at ht
          (cbv; (try simp only [nc] at *); (try refine Chk.mk (okc) ?_))
          refine ⟨(k + 1, n), ⟨by dsimp only; omega, by dsimp only; omega, by dsimp only; omega, by dsimp only; omega⟩, by show l.length - (k + 1) + 0 < l.length - k + 0; omega, To.of [] ?_⟩
          cbv
          exact ⟨⟨.refl _, .refl _, .refl _, .refl _, .refl _, .refl _, .refl _, .refl _, .refl _, .refl _, .refl _, .refl _, .refl _, .int rfl, trivial⟩, .refl _, .refl _, trivial⟩
      · simp only [decide_eq_false_iff_not] at hb
        have hdk : l.drop k = [] := List.drop_eq_nil_of_le (by omega)
        rw [hdk, times, Int.add_zero] at ht
        (cbv; try simp only [nc] at *)
        refine hQ₂ _ _ _ ?_
        clear hQ₂
        subst ht
        (cbv; (try simp only [nc] at *); (try refine Chk.mk (okc) ?_))
        refine ⟨fun hb => ?_, fun hb => ?_⟩
        · -- not the same: the answer is asked for
          simp only [Bool.not_eq_true'] at hb
          have hne : ¬ hi' = lo := by simpa using hb
          (cbv; (try simp only [nc] at *); (try refine Chk.mk (okc) ?_))
          refine call0 (hq _) rfl fun r h₂ hp' => ?_
          obtain ⟨rfl, rfl⟩ := hp'
          (cbv; (try simp only [nc] at *); (try refine Chk.mk (okc) ?_))
          refine ⟨fun hb => ?_, fun hb => ?_⟩
          · have hqf : q (times l lo) = false := by simpa [hne] using hb
            (cbv; (try simp only [nc] at *); (try refine Chk.mk (okc) ?_))
            refine ⟨(i + 1, out), ⟨by dsimp only; omega, by dsimp only; rw [hp, hd', spanStep, if_pos (.inr hqf)], by dsimp only; omega⟩, by show S.length - (i + 1) + 0 < S.length - i + 0; omega, To.of [] ?_⟩
            cbv
            exact ⟨⟨.refl _, .refl _, .refl _, .refl _, .refl _, .refl _, .int rfl, trivial⟩, .refl _, .refl _, trivial⟩
          · have hqt : q (times l lo) = true := by simpa [hne] using hb
            rw [spanStep, if_neg (by simp [hne, hqt])] at hp
            (cbv; (try simp only [nc] at *); (try refine Chk.mk (okc) ?_))
            refine ⟨fun hb' => ?_, fun hb' => ?_⟩
            · have hpos : 0 < out.length := by
                rcases Nat.eq_zero_or_pos out.length with h0 | h0
                · rw [h0] at hb'; cases hb'
                · exact h0
              have hto : (nt Sp.Span default out ((out.length : Int) - 1)).to_ = lo - 1 := by
                rw [decide_eq_true (show (0 : Int) < (out.length : Int) by omega)] at hb'
                simpa using hb'
              rw [last_of (d := default) hnt hpos] at hp
              simp only [hto, if_true] at hp
              (cbv; (try simp only [nc] at *); (try refine Chk.mk (okc) ?_))
              refine ⟨(i + 1, out.dropLast ++ [⟨(nt Sp.Span default out ((out.length : Int) - 1)).fr, hi' - 1⟩]), ⟨by dsimp only; omega, by dsimp only; rw [hp, hd'], by simp; omega⟩, by show S.length - (i + 1) + 0 < S.length - i + 0; omega, To.of [] ?_⟩
              cbv
              exact ⟨⟨.refl _, .refl _, .refl _, .none (by simp only [nc, List.length_append, List.length_dropLast, List.length_cons, List.length_nil]; omega) (fun k hk => snocCut hnt hpos rfl rfl k (by simp only [nc, List.length_cons, List.length_nil] at hk; omega)), .refl _, .refl _, .int rfl, trivial⟩, .refl _, .refl _, trivial⟩
            · have hstep : (match out.getLast? with
                | some x => if x.to_ = lo - 1 then out.dropLast ++ [⟨x.fr, hi' - 1⟩] else out ++ [⟨lo, hi' - 1⟩]
                | none => out ++ [⟨lo, hi' - 1⟩]) = out ++ [(⟨lo, hi' - 1⟩ : Sp.Span)] := by
                rcases Nat.eq_zero_or_pos out.length with h0 | h0
                · rw [List.eq_nil_of_length_eq_zero h0]; rfl
                · rw [last_of (d := default) hnt h0]
                  rw [decide_eq_true (show (0 : Int) < (out.length : Int) by omega)] at hb'
                  simp only
                  rw [if_neg (by simpa using hb')]
              have hp : spansGo l q [] S = spansGo l q (out ++ [(⟨lo, hi' - 1⟩ : Sp.Span)]) (hi' :: List.drop (i + 1 + 1) S) := by rw [← hstep]; exact hp
              (cbv; (try simp only [nc] at *); (try refine Chk.mk (okc) ?_))
              refine ⟨(i + 1, out ++ [⟨lo, hi' - 1⟩]), ⟨by dsimp only; omega, by dsimp only; rw [hp, hd'], by simp; omega⟩, by show S.length - (i + 1) + 0 < S.length - i + 0; omega, To.of [] ?_⟩
              cbv
              exact ⟨⟨.refl _, .refl _, .refl _, .none (by simp) (fun k hk => snoc_eq hnt (l := out) rfl rfl rfl k (by simp only [nc, List.length_cons, List.length_nil] at hk; omega)), .refl _, .refl _, .int rfl, trivial⟩, .refl _, .refl _, trivial⟩
        · have heq : hi' = lo := by simpa using hb
          (cbv; (try simp only [nc] at *); (try refine Chk.mk (okc) ?_))
          refine Br.isT (by decide) ?_
          (cbv; (try simp only [nc] at *); (try refine Chk.mk (okc) ?_))
          refine ⟨(i + 1, out), ⟨by dsimp only; omega, by dsimp only; rw [hp, hd', spanStep, if_pos (.inl heq)], by dsimp only; omega⟩, by show S.length - (i + 1) + 0 < S.length - i + 0; omega, To.of [] ?_⟩
          cbv
          exact ⟨⟨.refl _, .refl _, .refl _, .refl _, .refl _, .refl _, .int rfl, trivial⟩, .refl _, .refl _, trivial⟩
    · simp only [decide_eq_false_iff_not] at hb
      have hlast : S.length - i = 1 := by omega
      have hdl : ∃ x, S.drop i = [x] := List.length_eq_one_iff.1 (by rw [List.length_drop]; exact hlast)
      (cbv; try simp only [nc] at *)
      obtain ⟨x, hdx⟩ := hdl
      rw [hdx, spansGo_one] at hp
      refine hQ _ _ _ ?_
      clear hQ
      (cbv; (try simp only [nc] at *); (try refine Chk.mk (okc) ?_))
      refine ⟨lst 2 encSpan default out, [], To.of [] ⟨⟨.lst hnt rfl, trivial⟩, trivial⟩, by rw [hp], rfl⟩

theorem c83 (n : Int) : SC (fun _ => Try.prog) 83 [.int .i64 fun _ => n] [] fun v h => v = .bool (fun _ => decide (n = 0)) ∧ h = [] := by
  refine con Try.func83 (body := bodyOf Try.f83) rfl (by decide +kernel) ?_
  cbv
  exact ⟨rfl, trivial⟩
theorem c85 (n : Int) : SC (fun _ => Try.prog) 85 [.int .i64 fun _ => n] [] fun v h => v = .bool (fun _ => decide (1 < n)) ∧ h = [] := by
  refine con Try.func85 (body := bodyOf Try.f85) rfl (by decide +kernel) ?_
  cbv

theorem c31 (z : Zone) (hlen : z.chs.length ≤ 1000000) : SC (fun _ => Try.prog) 31 [zoneA z] [] fun v h => v = .tup [lst 2 encSpan default (Skipped z).1, .int .i64 fun _ => (Skipped z).2] ∧ h = [] := by
  refine SC.less (con Try.func31 (body := bodyOf Try.f31) rfl (by decide +kernel) ?_)
  unfold zoneA Skipped
  cbv
  refine call0 (c79 z hlen) rfl fun r h₂ hp => ?_
  obtain ⟨rfl, rfl⟩ := hp
  have hz : checkZone z = 0 → checkZone z = 0 := id
  generalize he : checkZone z = e at *
  cbv
  refine ⟨fun hb => ?_, fun hb => ?_⟩
  · simp only [bne_iff_ne, ne_eq] at hb
    cbv
    refine ⟨.tup [lst 2 encSpan default [], .int .i64 fun _ => e], [], To.of [] ⟨⟨.tup ⟨.empty rfl, .refl _, trivial⟩, trivial⟩, trivial⟩, by simp [hb], rfl⟩
  simp only [bne_eq_false_iff_eq] at hb
  subst hb
  cbv
  refine call0 (c82 z he 83 _ c83) rfl fun r h₂ hp => ?_
  obtain ⟨rfl, rfl⟩ := hp
  generalize spans z _ = l
  cbv
  exact ⟨.tup [lst 2 encSpan default l, .int .i64 fun _ => 0], [], To.of [] ⟨⟨.tup ⟨.refl _, .refl _, trivial⟩, trivial⟩, trivial⟩, by simp, rfl⟩

theorem c33 (z : Zone) (hlen : z.chs.length ≤ 1000000) : SC (fun _ => Try.prog) 33 [zoneA z] [] fun v h => v = .tup [lst 2 encSpan default (Doubled z).1, .int .i64 fun _ => (Doubled z).2] ∧ h = [] := by
  refine SC.less (con Try.func33 (body := bodyOf Try.f33) rfl (by decide +kernel) ?_)
  unfold zoneA Doubled
  cbv
  refine call0 (c79 z hlen) rfl fun r h₂ hp => ?_
  obtain ⟨rfl, rfl⟩ := hp
  generalize he : checkZone z = e at *
  cbv
  refine ⟨fun hb => ?_, fun hb => ?_⟩
  · simp only [bne_iff_ne, ne_eq] at hb
    cbv
    refine ⟨.tup [lst 2 encSpan default [], .int .i64 fun _ => e], [], To.of [] ⟨⟨.tup ⟨.empty rfl, .refl _, trivial⟩, trivial⟩, trivial⟩, by simp [hb], rfl⟩
  simp only [bne_eq_false_iff_eq] at hb
  subst hb
  cbv
  refine call0 (c82 z he 85 _ c85) rfl fun r h₂ hp => ?_
  obtain ⟨rfl, rfl⟩ := hp
  generalize spans z _ = l
  cbv
  exact ⟨.tup [lst 2 encSpan default l, .int .i64 fun _ => 0], [], To.of [] ⟨⟨.tup ⟨.refl _, .refl _, trivial⟩, trivial⟩, trivial⟩, by simp, rfl⟩
end Go.Proofs.Ytlcgliadpalgfaa.Vm

/- The abstract machine at this program, run at given values. -/
namespace Go.Proofs.Ytlcgliadpalgfaa.Vm
open Go Go.Proofs Sp
set_option maxRecDepth 100000

theorem names_ok : Try.prog.funcs.toList.all (fun fn => !(fn.name == "runtime.NumGoroutine")) = true := by decide +kernel

/-- The numbers of rows of one number. -/
def decI (F : (Unit → Int) → List AV) : Nat → Nat → Option (List Int)
  | _, 0 => some []
  | i, k + 1 => (match F (fun _ => (i : Int)) with
    | [.int .i64 g] => (match decI F (i + 1) k with
      | some l => some (g () :: l)
      | none => none)
    | _ => none)

theorem decI_ok {F : (Unit → Int) → List AV} : ∀ {k i : Nat} {l : List Int}, decI F i k = some l → l.length = k ∧ ∀ j, j < k → F (fun _ => ((i + j : Nat) : Int)) = encI (l.getD j 0)
  | 0, i, l, h => by
    simp only [decI, Option.some.injEq] at h
    subst h
    exact ⟨rfl, fun j hj => by omega⟩
  | k + 1, i, l, h => by
    unfold decI at h
    split at h
    case h_2 => cases h
    rename_i g hg
    split at h
    case h_2 => cases h
    rename_i l' hl'
    simp only [Option.some.injEq] at h
    subst h
    obtain ⟨h1, h2⟩ := decI_ok hl'
    refine ⟨by simp [h1], fun j hj => ?_⟩
    cases j with
    | zero =>
      rw [Nat.add_zero, hg]
      show [AV.int .i64 g] = [AV.int .i64 fun _ => g ()]
      rfl
    | succ j =>
      have := h2 j (by omega)
      rw [show i + (j + 1) = i + 1 + j from by omega, this]
      rfl

/-- slices.Sort of an array that has grown. -/
def sortO (f : FuncId) (xs : List AV) (h : List Blk) : Option (AV × List Blk) := if eqN f 115 then (match xs with
    | [.gsl id n'] => (match h[id]? with
      | some (.gar 1 n F) => if n' () = n () ∧ 1 ≤ n () ∧ n () ≤ 12 then (match decI F 0 (n ()).toNat with
        | some l => some (.tup [], h.set id (.fro 1 (fun _ => (l.length : Int)) (lstR encI 0 (isort l))))
        | none => none) else none
      | _ => none)
    | _ => none) else none

theorem sortO_ok {f : FuncId} {xs : List AV} {h : List Blk} {r : AV} {h' : List Blk} (hO : sortO f xs h = some (r, h')) : SC (fun _ => Try.prog) f xs h fun r₂ h₂ => r₂ = r ∧ h₂ = h' := by
  unfold sortO at hO
  split at hO
  case isFalse => cases hO
  rename_i hf
  have hf := eqN_ok hf
  subst hf
  split at hO
  case h_2 => cases hO
  rename_i id n'
  split at hO
  case h_2 => cases hO
  rename_i n F hi
  split at hO
  case isFalse => cases hO
  rename_i hn
  obtain ⟨hn1, hn2, hn3⟩ := hn
  split at hO
  case h_2 => cases hO
  rename_i l hl
  simp only [Option.some.injEq, Prod.mk.injEq] at hO
  obtain ⟨rfl, rfl⟩ := hO
  obtain ⟨hl1, hl2⟩ := decI_ok hl
  have hlen : (l.length : Int) = n () := by omega
  have hlt : id < h.length := (List.getElem?_eq_some_iff.1 hi).1
  have H := c115 l n' (by omega) (by omega) (by omega)
  have hsel : sel false [id] h = [.gar 1 n F] := by simp [sel, selGo, hi, subB]
  refine SC.frame [id] (by simp) (by simpa using hlt) (Q := fun r h₂ => r = .tup [] ∧ h₂ = [.fro 1 (fun _ => (l.length : Int)) (lstR encI 0 (isort l))]) ?_ fun r h₂ hp => ?_
  · rw [hsel]
    have hx : [AV.gsl id n'].map (tell false [id] h 5) = [.gsl 0 n'] := by simp [tell, posGo, eqN]
    rw [hx]
    refine SC.to (xs₂ := [.gsl 0 n']) (h₂ := [.gar 1 (fun _ => (l.length : Int)) (lstR encI 0 l)]) (To.of [] ⟨⟨.refl _, trivial⟩, .gar hlen.symm (fun i hi' => ?_), trivial⟩) H
    have := hl2 i (by omega)
    rw [Nat.zero_add] at this
    rw [this]
    simp [lstR]
  · obtain ⟨rfl, rfl⟩ := hp
    exact ⟨rfl, by simp [back, backGo, phi, renB]⟩

theorem runs {O : FuncId → List AV → List Blk → Option (AV × List Blk)} (cfg : FuncId → Bool × Bool) (hO : ∀ f xs h r h', O f xs h = some (r, h') → SC (fun _ => Try.prog) f xs h fun r₂ h₂ => r₂ = r ∧ h₂ = h') (n : Nat) {f : FuncId} {xs : List AV} {h : List Blk} {q : AV → List Blk → Bool} {Post : AV → List Blk → Prop}
    (hr : callB ⟨fun f => Try.prog.funcs[f]?, fun f => tbF (cfg f).1 (cfg f).2, O⟩ n f xs h q = true) (hq : ∀ r h, q r h = true → Post r h) : SC (fun _ => Try.prog) f xs h Post :=
  SC.ofRun (V := ⟨fun f => Try.prog.funcs[f]?, fun f => tbF (cfg f).1 (cfg f).2, O⟩) ⟨fun f fn h => ⟨h, by
    have := List.all_eq_true.1 names_ok fn (Array.mem_toList_iff.2 (Array.mem_of_getElem? h))
    simpa using this⟩, fun f => hTF _ _, hO⟩ hm hr hq
end Go.Proofs.Ytlcgliadpalgfaa.Vm

/- The chapter's examples, run: facts of calls at given values. -/
namespace Go.Proofs.Ytlcgliadpalgfaa.Vm
open Go Go.Proofs Sp
set_option maxRecDepth 100000

def gT (f : FuncId) : Tb := { tb with kp := false, rs := true, gh := bif eqN f 93 then [(5, 3)] else [] }
theorem gT_ok (f : FuncId) : (gT f).Of ((fun _ => Try.prog : Unit → Program) ()) := ⟨tbTi_ok, tbUn_ok, tbEq_ok⟩

/-- A call at given values, and its result. -/
structure Fact where
  f : FuncId
  xs : List AV
  r : AV

structure Fact.Ok (a : Fact) : Prop where
  sc : SC (fun _ => Try.prog) a.f a.xs [] fun r h => r = a.r ∧ h = []
  hx : ∀ h, a.xs.map (tell false [] h 5) = a.xs
  hr : ∀ m, ren (phi [] m) 5 a.r = a.r

def factO : List Fact → FuncId → List AV → List Blk → Option (AV × List Blk)
  | [], _, _, _ => none
  | a :: l, f, xs, h => (match eqN f a.f && all2 (eqAV 8) xs a.xs with
    | true => some (a.r, h)
    | false => factO l f xs h)
def orO (l : List Fact) (f : FuncId) (xs : List AV) (h : List Blk) : Option (AV × List Blk) := match factO l f xs h with
  | some x => some x
  | none => sortO f xs h

theorem To.imp {xs ys : List AV} {h : List Blk} (he : all2 (eqAV 8) xs ys = true) : To xs h ys h := fun _ R t H hs => by
  obtain ⟨e1, e2⟩ := all2_get he
  exact ⟨R, rfl, H, Ext.refl _ _, RC.le.refl _, hs.1.trans e1, fun i b hi => let ⟨c, h1, h2⟩ := e2 i b hi; (eqAV_ok 8 h2).f _ _ (hs.2 i c h1)⟩

theorem factO_ok : ∀ {l : List Fact}, (∀ a ∈ l, a.Ok) → ∀ {f : FuncId} {xs : List AV} {h : List Blk} {r : AV} {h' : List Blk}, factO l f xs h = some (r, h') → SC (fun _ => Try.prog) f xs h fun r₂ h₂ => r₂ = r ∧ h₂ = h'
  | [], _, f, xs, h, r, h', hO => by cases hO
  | a :: l, hl, f, xs, h, r, h', hO => by
    unfold factO at hO
    split at hO
    · rename_i hc
      simp only [Bool.and_eq_true] at hc
      obtain ⟨h1, h2⟩ := hc
      have h1 := eqN_ok h1
      subst h1
      simp only [Option.some.injEq, Prod.mk.injEq] at hO
      obtain ⟨rfl, rfl⟩ := hO
      obtain ⟨k1, k2, k3⟩ := hl a (List.mem_cons_self ..)
      refine SC.to (To.imp h2) (call0 k1 (k2 h) fun r₂ h₂ hp => ?_)
      obtain ⟨rfl, rfl⟩ := hp
      exact ⟨k3 _, by simp [back, backGo]⟩
    · exact factO_ok (fun x hx => hl x (List.mem_cons_of_mem _ hx)) hO

theorem orO_ok {l : List Fact} (hl : ∀ a ∈ l, a.Ok) (f : FuncId) (xs : List AV) (h : List Blk) (r : AV) (h' : List Blk) (hO : orO l f xs h = some (r, h')) : SC (fun _ => Try.prog) f xs h fun r₂ h₂ => r₂ = r ∧ h₂ = h' := by
  unfold orO at hO
  split at hO
  · rename_i x hx
    cases hO
    exact factO_ok hl hx
  · exact sortO_ok hO

theorem runF {l : List Fact} (hl : ∀ a ∈ l, a.Ok) (n : Nat) {f : FuncId} {xs : List AV} {q : AV → List Blk → Bool} {Post : AV → List Blk → Prop}
    (hr : callB ⟨fun f => Try.prog.funcs[f]?, gT, orO l⟩ n f xs [] q = true) (hq : ∀ r h, q r h = true → Post r h) : SC (fun _ => Try.prog) f xs [] Post :=
  SC.ofRun (V := ⟨fun f => Try.prog.funcs[f]?, gT, orO l⟩) ⟨fun f fn h => ⟨h, by
    have := List.all_eq_true.1 names_ok fn (Array.mem_toList_iff.2 (Array.mem_of_getElem? h))
    simpa using this⟩, gT_ok, orO_ok hl⟩ hm hr hq

theorem fact (l : List Fact) (hl : ∀ a ∈ l, a.Ok) (a : Fact) (hx : ∀ h, a.xs.map (tell false [] h 5) = a.xs) (hr : ∀ m, ren (phi [] m) 5 a.r = a.r)
    (hrun : callB ⟨fun f => Try.prog.funcs[f]?, gT, orO l⟩ 4000 a.f a.xs [] (fun r h => h.isEmpty && all2 (eqAV 8) [r] [a.r]) = true) : a.Ok :=
  ⟨SC.less (runF hl 4000 hrun fun r h hq => by
    simp only [Bool.and_eq_true, List.isEmpty_iff] at hq
    obtain ⟨rfl, h2⟩ := hq
    exact ⟨a.r, [], To.imp h2, rfl, rfl⟩), hx, hr⟩

theorem noF : ∀ a ∈ ([] : List Fact), a.Ok := fun a h => by cases h
theorem consF {a : Fact} {l : List Fact} (h : a.Ok) (hl : ∀ a ∈ l, a.Ok) : ∀ b ∈ a :: l, b.Ok := fun b hb => by
  rcases List.mem_cons.1 hb with rfl | hb
  · exact h
  · exact hl b hb

def sl (s : Nat) (rows : List (List AV)) : AV := .isl s (fun _ => (rows.length : Int)) (fun e => rows.getD (e ()).toNat (rows.headD [])) .none
def forthA : AV := .agg [iA 0, sl 2 [[iA 1560, iA 60]]]
def backA : AV := .agg [iA 60, sl 2 [[iA 3000, iA (-60)]]]
def row (l : List Int) : List AV := l.map iA
def old0 : List AV := [iA 7, iA 127, sl 4 [row [0, 0, 0, 60], row [1, 1, 200, 210], row [2, 1, 300, 0]]]
def new0 : List AV := [iA 7, iA 127, sl 4 [row [0, 0, 0, 90], row [2, 1, 280, 0]]]
def new1 : List AV := [iA 9, iA 127, sl 4 [row [1, 1, 0, 400], row [2, 1, 450, 0]]]
def bookX : AV := .agg [sl 2 [[iA 0, sl 2 [[iA 1560, iA 60]]], [iA 60, sl 2 [[iA 3000, iA (-60)]]]], sl 3 [old0], sl 3 [new0, new1], iA 1, iA 2]
def legsX : AV := sl 3 [row [7, 0, 1], row [9, 1, 2]]
def runA (t : List AV) (day : Int) (l : List (List AV)) : AV := .agg (t ++ [iA day, sl 3 l])

def fCk : Fact := ⟨28, [bookX], iA 0⟩
def fR0 : Fact := ⟨77, [bookX, .agg old0, iA 0], runA old0 0 [row [0, 60, 60], row [1, 140, 150], row [2, 240, 240]]⟩
def fR1 : Fact := ⟨77, [bookX, .agg new0, iA 1], runA new0 1 [row [0, 1530, 1530], row [2, 1660, 1660]]⟩
def fR2 : Fact := ⟨77, [bookX, .agg new1, iA 1], runA new1 1 [row [1, 1780, 1780], row [2, 1830, 1830]]⟩
def fR3 : Fact := ⟨77, [bookX, .agg new0, iA 2], runA new0 2 [row [0, 2910, 2910], row [2, 3160, 3160]]⟩
def fR4 : Fact := ⟨77, [bookX, .agg new1, iA 2], runA new1 2 [row [1, 3280, 3280], row [2, 3330, 3330]]⟩
theorem fR0_ok : fR0.Ok := fact [] noF _ (fun _ => rfl) (fun _ => rfl) (by kernel_rfl)
theorem fR1_ok : fR1.Ok := fact [] noF _ (fun _ => rfl) (fun _ => rfl) (by kernel_rfl)
theorem fR2_ok : fR2.Ok := fact [] noF _ (fun _ => rfl) (fun _ => rfl) (by kernel_rfl)
theorem fR3_ok : fR3.Ok := fact [] noF _ (fun _ => rfl) (fun _ => rfl) (by kernel_rfl)
theorem fR4_ok : fR4.Ok := fact [] noF _ (fun _ => rfl) (fun _ => rfl) (by kernel_rfl)
theorem fCk_ok : fCk.Ok := fact [] noF _ (fun _ => rfl) (fun _ => rfl) (by kernel_rfl)
def runsF : List Fact := [fR0, fR1, fR2, fR3, fR4]
theorem runsF_ok : ∀ a ∈ runsF, a.Ok := consF fR0_ok (consF fR1_ok (consF fR2_ok (consF fR3_ok (consF fR4_ok noF))))
def fL0 : Fact := ⟨93, [bookX, .agg (row [7, 0, 1])], sl 3 [row [0, 60, 140]]⟩
def fL1 : Fact := ⟨93, [bookX, .agg (row [9, 1, 2])], sl 3 [row [1, 1780, 1830], row [2, 3280, 3330]]⟩
theorem fL0_ok : fL0.Ok := fact runsF runsF_ok _ (fun _ => rfl) (fun _ => rfl) (by kernel_rfl)
theorem fL1_ok : fL1.Ok := fact runsF runsF_ok _ (fun _ => rfl) (fun _ => rfl) (by kernel_rfl)
end Go.Proofs.Ytlcgliadpalgfaa.Vm

/- The chapter's examples, run: they have their results. -/
namespace Go.Proofs.Ytlcgliadpalgfaa.Vm
open Go Go.Proofs Sp
set_option maxRecDepth 100000

def okA : AV := iA 0
def fT : Fact := ⟨68, [bookX, legsX, iA 0], .tup [sl 3 [row [0, 60, 140], row [1, 1780, 1830]], .bool fun _ => true]⟩
theorem fT_ok : fT.Ok := fact [fL0, fL1] (consF fL0_ok (consF fL1_ok noF)) _ (fun _ => rfl) (fun _ => rfl) (by kernel_rfl)
def fTrip : Fact := ⟨19, [bookX, legsX, iA 0], .tup [sl 3 [row [0, 60, 140], row [1, 1780, 1830]], iA 0]⟩
theorem fTrip_ok : fTrip.Ok := fact [fT, fCk] (consF fT_ok (consF fCk_ok noF)) _ (fun _ => rfl) (fun _ => rfl) (by kernel_rfl)
def fRun : Fact := ⟨26, [bookX, iA 7, iA 2], .tup [sl 3 [row [0, 2910, 2910], row [2, 3160, 3160]], iA 0]⟩
theorem fRun_ok : fRun.Ok := fact [fR3, fCk] (consF fR3_ok (consF fCk_ok noF)) _ (fun _ => rfl) (fun _ => rfl) (by kernel_rfl)
def fSk : Fact := ⟨31, [forthA], .tup [sl 2 [row [1560, 1619]], iA 0]⟩
theorem fSk_ok : fSk.Ok := fact [] noF _ (fun _ => rfl) (fun _ => rfl) (by kernel_rfl)
def fWhen : Fact := ⟨44, [backA, iA 2, iA 130], .tup [sl 1 [row [2950], row [3010]], iA 0]⟩
theorem fWhen_ok : fWhen.Ok := fact [] noF _ (fun _ => rfl) (fun _ => rfl) (by kernel_rfl)
def fHour : Fact := ⟨46, [forthA, iA 1, iA 130, iA 0], .tup [iA 1560, iA 0]⟩
theorem fHour_ok : fHour.Ok := fact [] noF _ (fun _ => rfl) (fun _ => rfl) (by kernel_rfl)
def bT : AV := .bool fun _ => true
def lit (s : Nat) (rows : List (List AV)) : AV := .isl s (fun _ => (rows.length : Int)) (fun e => rows.getD (e ()).toNat (rows.headD [])) .exact
def e39 : Fact := ⟨39, [sl 1 [row [2950], row [3010]], lit 1 [row [2950], row [3010]]], bT⟩
theorem e39_ok : e39.Ok := fact [] noF _ (fun _ => rfl) (fun _ => rfl) (by kernel_rfl)
def e35 : Fact := ⟨35, [sl 2 [row [1560, 1619]], lit 2 [row [1560, 1619]]], bT⟩
theorem e35_ok : e35.Ok := fact [] noF _ (fun _ => rfl) (fun _ => rfl) (by kernel_rfl)
def e27 : Fact := ⟨27, [sl 3 [row [0, 2910, 2910], row [2, 3160, 3160]], lit 3 [row [0, 2910, 2910], row [2, 3160, 3160]]], bT⟩
theorem e27_ok : e27.Ok := fact [] noF _ (fun _ => rfl) (fun _ => rfl) (by kernel_rfl)
def e65 : Fact := ⟨65, [sl 3 [row [0, 60, 140], row [1, 1780, 1830]], lit 3 [row [0, 60, 140], row [1, 1780, 1830]]], bT⟩
theorem e65_ok : e65.Ok := fact [] noF _ (fun _ => rfl) (fun _ => rfl) (by kernel_rfl)
end Go.Proofs.Ytlcgliadpalgfaa.Vm

/- The chapter's examples: the function ticking returns true. -/
namespace Go.Proofs.Ytlcgliadpalgfaa.Vm
open Go Go.Proofs Sp
set_option maxRecDepth 100000
set_option maxHeartbeats 4000000

def f61 : Fact := ⟨61, [], backA⟩
theorem f61_ok : f61.Ok := fact [] noF _ (fun _ => rfl) (fun _ => rfl) (by kernel_rfl)
def f62 : Fact := ⟨62, [], forthA⟩
theorem f62_ok : f62.Ok := fact [] noF _ (fun _ => rfl) (fun _ => rfl) (by kernel_rfl)
def f63 : Fact := ⟨63, [], bookX⟩
theorem f63_ok : f63.Ok := fact [] noF _ (fun _ => rfl) (fun _ => rfl) (by kernel_rfl)
def f64 : Fact := ⟨64, [], legsX⟩
theorem f64_ok : f64.Ok := fact [] noF _ (fun _ => rfl) (fun _ => rfl) (by kernel_rfl)
end Go.Proofs.Ytlcgliadpalgfaa.Vm

/- The chapter's examples: the function ticking returns true. -/
namespace Go.Proofs.Ytlcgliadpalgfaa.Vm
open Go Go.Proofs Sp
set_option maxRecDepth 100000
set_option maxHeartbeats 4000000
theorem c18 : SC (fun _ => Try.prog) 18 [] [] fun r h => r = .bool (fun _ => true) ∧ h = [] := by
  obtain ⟨n1, F1, e1⟩ : ∃ n F, sl 1 [row [2950], row [3010]] = .isl 1 n F .none := ⟨_, _, rfl⟩
  obtain ⟨n2, F2, e2⟩ : ∃ n F, sl 2 [row [1560, 1619]] = .isl 2 n F .none := ⟨_, _, rfl⟩
  obtain ⟨n3, F3, e3⟩ : ∃ n F, sl 3 [row [0, 2910, 2910], row [2, 3160, 3160]] = .isl 3 n F .none := ⟨_, _, rfl⟩
  obtain ⟨n4, F4, e4⟩ : ∃ n F, sl 3 [row [0, 60, 140], row [1, 1780, 1830]] = .isl 3 n F .none := ⟨_, _, rfl⟩
  have k44 := fWhen_ok.sc
  have k46 := fHour_ok.sc
  have k31 := fSk_ok.sc
  have k26 := fRun_ok.sc
  have k19 := fTrip_ok.sc
  have k39 := e39_ok.sc
  have k35 := e35_ok.sc
  have k27 := e27_ok.sc
  have k65 := e65_ok.sc
  simp only [fWhen, fHour, fSk, fRun, fTrip, e39, e35, e27, e65, e1, e2, e3, e4] at k44 k46 k31 k26 k19 k39 k35 k27 k65
  refine con Try.func18 (body := bodyOf Try.f18) rfl (by decide +kernel) ?_
  cbv
  refine call0 f61_ok.sc rfl fun r h2 hp => ?_
  obtain ⟨rfl, rfl⟩ := hp
  cbv
  refine call0 k44 rfl fun r h2 hp => ?_
  obtain ⟨rfl, rfl⟩ := hp
  cbv
  refine call0 f62_ok.sc rfl fun r h2 hp => ?_
  obtain ⟨rfl, rfl⟩ := hp
  cbv
  refine call0 k46 rfl fun r h2 hp => ?_
  obtain ⟨rfl, rfl⟩ := hp
  cbv
  refine call0 f62_ok.sc rfl fun r h2 hp => ?_
  obtain ⟨rfl, rfl⟩ := hp
  cbv
  refine call0 k31 rfl fun r h2 hp => ?_
  obtain ⟨rfl, rfl⟩ := hp
  cbv
  refine call0 f63_ok.sc rfl fun r h2 hp => ?_
  obtain ⟨rfl, rfl⟩ := hp
  cbv
  refine call0 k26 rfl fun r h2 hp => ?_
  obtain ⟨rfl, rfl⟩ := hp
  cbv
  refine call0 f63_ok.sc rfl fun r h2 hp => ?_
  obtain ⟨rfl, rfl⟩ := hp
  cbv
  refine call0 f64_ok.sc rfl fun r h2 hp => ?_
  obtain ⟨rfl, rfl⟩ := hp
  cbv
  refine call0 k19 rfl fun r h2 hp => ?_
  obtain ⟨rfl, rfl⟩ := hp
  cbv
  simp only [beq_self_eq_true, cond_true, cond_false, decide_true, imp_self, and_self]
  refine Chk.mk (okC_ok rfl) (Br.isT rfl ?_)
  cbv
  refine Chk.mk (okC_ok rfl) (call0 k39 rfl fun r h2 hp => ?_)
  obtain ⟨rfl, rfl⟩ := hp
  cbv
  simp only [beq_self_eq_true, cond_true, cond_false, decide_true, imp_self, and_self]
  refine Chk.mk (okC_ok rfl) (Br.isT rfl ?_)
  cbv
  simp only [beq_self_eq_true, cond_true, cond_false, decide_true, imp_self, and_self]
  refine Chk.mk (okC_ok rfl) (call0 k35 rfl fun r h2 hp => ?_)
  obtain ⟨rfl, rfl⟩ := hp
  cbv
  simp only [beq_self_eq_true, cond_true, cond_false, decide_true, imp_self, and_self]
  refine Chk.mk (okC_ok rfl) (Br.isT rfl ?_)
  cbv
  simp only [beq_self_eq_true, cond_true, cond_false, decide_true, imp_self, and_self]
  refine Chk.mk (okC_ok rfl) (call0 k27 rfl fun r h2 hp => ?_)
  obtain ⟨rfl, rfl⟩ := hp
  cbv
  simp only [beq_self_eq_true, cond_true, cond_false, decide_true, imp_self, and_self]
  refine Chk.mk (okC_ok rfl) (Br.isT rfl ?_)
  cbv
  simp only [beq_self_eq_true, cond_true, cond_false, decide_true, imp_self, and_self]
  refine Chk.mk (okC_ok rfl) (call0 k65 rfl fun r h2 hp => ?_)
  obtain ⟨rfl, rfl⟩ := hp
  cbv
  simp only [beq_self_eq_true, cond_true, cond_false, decide_true, imp_self, and_self]
end Go.Proofs.Ytlcgliadpalgfaa.Vm

/- The statement ClockFirst: before Hour a clock does not read so late an hour from after on, and at it it does. -/
namespace Go.Proofs.Ytlcgliadpalgfaa.Vm
open Go Go.Proofs Sp
set_option maxRecDepth 100000
set_option maxHeartbeats 800000

theorem made_valid {k : Int} {z : Zone} (h : ZMade k z) (hk : k ≤ 3) : checkZone z = 0 := by
  have hb := h.base
  have hl := h.len
  unfold checkZone
  rw [if_neg (by simp [inB]; omega), if_neg (by omega)]
  have key : ∀ (l : List Chg) (p : Option Int), (∀ c ∈ l, 0 ≤ c.at_ ∧ c.at_ ≤ 43200 ∧ ByOk c.by_) → l.Pairwise (fun a b => a.at_ < b.at_) → (∀ a, p = some a → ∀ c ∈ l, a < c.at_) → chkChs p l = 0 := by
    intro l
    induction l with
    | nil => intro p _ _ _; exact chkChs_nil p
    | cons c l ih =>
      intro p h1 h2 h3
      obtain ⟨b1, b2, b3⟩ := h1 c (List.mem_cons_self ..)
      have hle : leP p c.at_ = false := by
        cases p with
        | none => rfl
        | some a => have := h3 a rfl c (List.mem_cons_self ..); simp [leP]; omega
      rw [chkChs_cons, if_neg (by simp [inB]; omega), hle]
      unfold ByOk at b3
      have h4 : (!inB c.by_ (-180) 180 || decide (c.by_ = 0)) = false := by
        have g1 : inB c.by_ (-180) 180 = true := by simp [inB]; omega
        have g2 : decide (c.by_ = 0) = false := by simp; omega
        rw [g1, g2]; rfl
      rw [h4]
      simp only [Bool.false_eq_true, if_false]
      exact ih _ (fun x hx => h1 x (List.mem_cons_of_mem _ hx)) (List.pairwise_cons.1 h2).2 (fun a ha x hx => by cases ha; exact (List.pairwise_cons.1 h2).1 x hx)
  refine key _ _ (fun c hc => ?_) h.asc (fun a ha => by cases ha)
  have := h.at_ c hc
  exact ⟨this.1, by omega, h.by_ c hc⟩

theorem made_af {k : Int} {z : Zone} (h : ZMade k z) (hk : k ≤ 3) (t : Int) : -390 ≤ af z.base z.chs t ∧ af z.base z.chs t ≤ 300 := by
  have hb := h.base
  have hl := h.len
  have := af_bd z.chs z.base t 90 60 (fun c hc => by have := h.by_ c hc; unfold ByOk at this; omega) (by omega) (by omega)
  omega

theorem Hour_eq {z : Zone} (hz : checkZone z = 0) {d m a : Int} (hd : -1 ≤ d ∧ d ≤ 31) (hm : 0 ≤ m ∧ m < 1440) (ha : 0 ≤ a ∧ a ≤ 43200) : Hour z d m a = (hour (pieces z) (1440 * d + m) a, 0) := by
  have h1 : checkHour z d m = 0 := by
    unfold checkHour
    rw [if_neg (by omega), if_neg (by simp [inB]; omega)]
  unfold Hour
  rw [if_neg (by omega), if_neg (by simp [inB]; omega)]
theorem When_eq {z : Zone} (hz : checkZone z = 0) {d m : Int} (hd : -1 ≤ d ∧ d ≤ 31) (hm : 0 ≤ m ∧ m < 1440) : When z d m = (when (pieces z) (1440 * d + m), 0) := by
  have h1 : checkHour z d m = 0 := by
    unfold checkHour
    rw [if_neg (by omega), if_neg (by simp [inB]; omega)]
  unfold When
  rw [if_neg (by omega)]

theorem c9 (l : List Int) (hl : (l.length : Int) ≤ 9223372036854775807) : SC (fun _ => Try.prog) 9 [lst 1 encI 0 l] [] fun r h => r = .bool (fun _ => true) := by
  refine con Try.func9 (body := bodyOf Try.f9) rfl (by decide +kernel) ?_
  (cbv; (try simp only [nc] at *); (try refine Chk.mk (okc) ?_))
  refine call0 (c14 l hl) rfl fun r h₂ hp => ?_
  obtain ⟨s, rfl, rfl⟩ := hp
  (cbv; (try simp only [nc] at *); (try refine Chk.mk (okc) ?_))
  refine callL [0] (c29 s 3 (by omega)) (by decide) (by simp) rfl rfl fun r h₂ hp => ?_
  obtain ⟨z, s1, hz, rfl, rfl⟩ := hp
  have hv := made_valid hz (by omega)
  have hbase := hz.base
  have haf := made_af hz (by omega)
  (cbv; (try simp only [nc] at *); (try refine Chk.mk (okc) ?_))
  refine callL [0] (c17 s1 5000 (by omega)) (by decide) (by simp) rfl rfl fun r h₂ hp => ?_
  obtain ⟨a, s2, ha, rfl, rfl⟩ := hp
  (cbv; (try simp only [nc] at *); (try refine Chk.mk (okc) ?_))
  refine callL [0] (c22 s2 (-200) 200 (by omega) (by omega)) (by decide) (by simp) rfl rfl fun r h₂ hp => ?_
  obtain ⟨x, s3, hx, rfl, rfl⟩ := hp
  (cbv; (try simp only [nc] at *); (try refine Chk.mk (okc) ?_))
  refine Br.isF (by simp; omega) ?_
  (cbv; (try simp only [nc] at *); (try refine Chk.mk (okc) ?_))
  refine call0 (c43 (a + z.base + x) (by omega) (by omega)) rfl fun r h₂ hp => ?_
  obtain ⟨rfl, rfl⟩ := hp
  (cbv; (try simp only [nc] at *); (try refine Chk.mk (okc) ?_))
  have hH := Hour_eq hv (d := (a + z.base + x + 1440) / 1440 - 1) (m := (a + z.base + x + 1440) % 1440) (a := a) (by omega) (by omega) (by omega)
  have h46 := c46 z ((a + z.base + x + 1440) / 1440 - 1) ((a + z.base + x + 1440) % 1440) a (by have := (asc_of hv).2.2.1; omega)
  rw [hH, show 1440 * ((a + z.base + x + 1440) / 1440 - 1) + (a + z.base + x + 1440) % 1440 = a + z.base + x by omega] at h46
  obtain ⟨g1, g2, g3⟩ := hour_eq hv (r := a + z.base + x) (after := a) (by omega) (by omega)
  generalize hour (pieces z) (a + z.base + x) a = t at *
  refine call0 h46 rfl fun r h₂ hp => ?_
  obtain ⟨rfl, rfl⟩ := hp
  have hle : t ≤ a + 2000 := by
    by_cases hc : t ≤ a + 2000
    · exact hc
    · have := g3 (a + 1000) (by omega) (by omega)
      have := haf (a + 1000)
      omega
  (cbv; (try simp only [nc] at *); (try refine Chk.mk (okc) ?_))
  refine Br.isF (by simp; omega) ?_
  (cbv; (try simp only [nc] at *); (try refine Chk.mk (okc) ?_))
  refine loopA [4, 5, 6, 9, 11] (fun k : Int => mkS 80 [(4, .ptr 1 0), (5, .int .i64 fun _ => a), (6, .int .i64 fun _ => a + z.base + x), (9, .int .i64 fun _ => t), (11, .int .i64 fun _ => k)])
    (fun k => [bagB s3, .cells [.int .i64 fun _ => z.base, lst 2 encChg default z.chs]]) (fun k => a ≤ k ∧ k ≤ t + 1) (fun k => (t + 1 - k).toNat + 0) a 2 (fun _ => rfl) ⟨by omega, by omega⟩ (To.of [] ?_) ?_
  · cbv
    exact ⟨⟨.refl _, .refl _, .refl _, .refl _, .refl _, trivial⟩, .refl _, .refl _, trivial⟩
  rintro k ⟨hk1, hk2⟩
  (cbv; (try simp only [nc] at *); (try refine Chk.mk (okc) ?_))
  refine ⟨fun hb => ?_, fun hb => ?_⟩
  · simp only [decide_eq_true_eq] at hb
    (cbv; (try simp only [nc] at *); (try refine Chk.mk (okc) ?_))
    have hak := ahead_eq hv (t := k) (by omega)
    have := haf k
    refine call0 (c42 z k hv (by omega) (by omega)) rfl fun r h₂ hp => ?_
    obtain ⟨rfl, rfl⟩ := hp
    rw [hak]
    generalize hA : af z.base z.chs k = A at *
    (cbv; (try simp only [nc] at *); (try refine Chk.mk (okc) ?_))
    refine Br.isF ?_ ?_
    · by_cases hkt : k = t
      · subst hkt
        rw [hA] at g2
        simp; omega
      · have h3 := g3 k hk1 (by omega)
        rw [hA] at h3
        have e1 : decide (a + z.base + x ≤ k + A) = false := decide_eq_false (by omega)
        have e2 : (k == t) = false := by simpa using hkt
        simp [e1, e2]
    · (cbv; (try simp only [nc] at *); (try refine Chk.mk (okc) ?_))
      refine ⟨k + 1, ⟨by omega, by omega⟩, by show (t + 1 - (k + 1)).toNat + 0 < (t + 1 - k).toNat + 0; omega, To.of [] ?_⟩
      cbv
      exact ⟨⟨.refl _, .refl _, .refl _, .refl _, .refl _, trivial⟩, .refl _, .refl _, trivial⟩
  · (cbv; (try simp only [nc] at *); (try refine Chk.mk (okc) ?_))
    refine call0 c18 rfl fun r h₂ hp => ?_
    obtain ⟨rfl, rfl⟩ := hp
    (cbv; (try simp only [nc] at *); (try refine Chk.mk (okc) ?_))
end Go.Proofs.Ytlcgliadpalgfaa.Vm

/- Plain: books that are made of numbers are valid. -/
namespace Go.Proofs.Ytlcgliadpalgfaa.Vm
open Sp

theorem firstErr_zero {f : Nat → Int} : ∀ {k i : Nat}, (∀ j, i ≤ j → j < i + k → f j = 0) → firstErr f i k = 0
  | 0, _, _ => rfl
  | k + 1, i, h => by
    unfold firstErr
    rw [if_neg (fun hne => hne (h i (Nat.le_refl _) (by omega)))]
    exact firstErr_zero fun j h1 h2 => h j (by omega) (by omega)

theorem inB_of {n a b : Int} (h1 : a ≤ n) (h2 : n ≤ b) : inB n a b = true := by simp [inB, h1, h2]
theorem counted_of {n a b : Int} (h1 : a ≤ n) (h2 : n ≤ b) : counted n a b = 0 := by
  unfold counted
  rw [if_neg (by omega), if_neg (by omega)]

theorem made_stops {zones number : Int} {t : Train} (h : TMade zones 4 number t) : chkStops zones t.stops = 0 := by
  refine firstErr_zero fun j _ hj => ?_
  have hj : j < t.stops.length := by omega
  have hm : t.stops.getD j default ∈ t.stops := by rw [List.getD_eq_getElem?_getD, List.getElem?_eq_getElem hj]; exact List.getElem_mem _
  obtain ⟨h1, h2, h3, h4, h5⟩ := h.stop _ hm
  unfold chkStopAt checkStop
  rw [inB_of h1.1 (by omega)]
  have hany : (t.stops.take j).any (fun x => decide (x.station = (t.stops.getD j default).station)) = false := by
    rw [List.any_eq_false]
    intro x hx
    obtain ⟨i, hi, rfl⟩ := List.mem_iff_getElem.1 hx
    have hi' : i < j := by simp at hi; omega
    have := List.pairwise_iff_getElem.1 h.nodup i j (by omega) hj hi'
    rw [List.getD_eq_getElem?_getD, List.getElem?_eq_getElem hj]
    simpa using this
  rw [hany, inB_of h2.1 (by omega), inB_of h3 (by omega), inB_of (by omega : (0 : Int) ≤ _) h5]
  have hd : decide ((t.stops.getD j default).depart < (t.stops.getD j default).arrive) = false := decide_eq_false (by omega)
  rw [hd]
  simp

theorem made_trains {zones n : Int} {l : List Train} (h : LMade zones n l) (hn : n = l.length) (hl : l.length ≤ 4) : chkTrains zones l = 0 := by
  unfold chkTrains
  have e : counted l.length 0 4 = 0 := counted_of (by omega) (by omega)
  rw [e, if_neg (fun h => h rfl)]
  refine firstErr_zero fun j _ hj => ?_
  have hj : j < l.length := by omega
  have hg : l[j]? = some (l.getD j default) := by rw [List.getD_eq_getElem?_getD, List.getElem?_eq_getElem hj]; rfl
  have ht := h.all j _ hg
  have hlen := ht.len
  unfold chkTrainAt
  rw [inB_of (by rw [ht.number]; omega) (by rw [ht.number]; omega)]
  have hany : (l.take j).any (fun x => decide (x.number = (l.getD j default).number)) = false := by
    rw [List.any_eq_false]
    intro x hx
    obtain ⟨i, hi, rfl⟩ := List.mem_iff_getElem.1 hx
    have hi' : i < j := by simp at hi; omega
    have hx := h.all i _ (List.getElem?_eq_getElem (by omega))
    rw [ht.number, List.getElem_take, hx.number]
    simp
    omega
  rw [hany, inB_of ht.days.1 ht.days.2, counted_of (by omega) (by omega)]
  simp only [Bool.not_true, Bool.false_eq_true, if_false, ne_eq, not_true_eq_false]
  exact made_stops ht

theorem made_check {trains days : Int} {b : Book} (h : BMade trains days b) (ht : trains ≤ 4) (hd : days ≤ 13) : Check b = 0 := by
  obtain ⟨h1, h2, h3, h4, h5, h6, h7, h8⟩ := h
  unfold Check
  rw [counted_of (by omega) (by omega), firstErr_zero (fun j _ hj => made_valid (h2 _ (by rw [List.getD_eq_getElem?_getD, List.getElem?_eq_getElem (by omega)]; exact List.getElem_mem _)) (by omega)), made_trains h5 rfl (by omega), made_trains h6 rfl (by omega), inB_of h7.1 (by omega), inB_of h8.1 h8.2]
  simp

theorem made_fit {trains days : Int} {b : Book} (h : BMade trains days b) (ht : trains ≤ 4) (hd : days ≤ 13) : BookFit b := by
  have hc := book_ok (made_check h ht hd)
  exact ⟨by have := hc.zlen; omega, by have := hc.olen; omega, by have := hc.nlen; omega, fun z hz => by have := (asc_of (hc.zones z hz)).2.2.1; omega, ⟨fun t ht => by have := (hc.old t ht).len; omega, fun t ht => by have := (hc.new t ht).len; omega⟩⟩

/-- An hour's instant is not late. -/
theorem hour_le {z : Zone} (hz : checkZone z = 0) (haf : ∀ t, -390 ≤ af z.base z.chs t ∧ af z.base z.chs t ≤ 300) {r after : Int} (hr : r ≤ 1000000) (ha : 0 ≤ after ∧ after ≤ 1000000) :
    hour (pieces z) r after ≤ max after (r + 391) := by
  obtain ⟨g1, g2, g3⟩ := hour_eq hz hr ha
  by_cases h : hour (pieces z) r after ≤ max after (r + 391)
  · exact h
  · have := g3 (hour (pieces z) r after - 1) (by omega) (by omega)
    have := haf (hour (pieces z) r after - 1)
    omega
end Go.Proofs.Ytlcgliadpalgfaa.Vm

/- Plain: printed hours are kept. -/
namespace Go.Proofs.Ytlcgliadpalgfaa.Vm
open Sp

/-- Whether an event that is due at a reading can be at an instant, if the one before was at another one. -/
structure KeptAt (z : Zone) (due before at_ : Int) : Prop where
  lo : before ≤ at_
  hi : 0 ≤ at_ ∧ at_ ≤ 24000
  r : due ≤ at_ + af z.base z.chs at_
  f : at_ = before ∨ at_ - 1 + af z.base z.chs (at_ - 1) < due

def KeptL (zs : List Zone) (day : Int) (many : Nat) : Nat → Int → List Stop → List Sp.Call → Prop
  | _, _, [], C => C = []
  | _, _, _ :: _, [] => False
  | i, now, s :: r, c :: C => c.station = s.station ∧ (i = 0 → c.arrive = c.depart) ∧ (0 < i → KeptAt (zs.getD s.zone.toNat default) (1440 * day + s.arrive) now c.arrive) ∧
      (i + 1 < many → KeptAt (zs.getD s.zone.toNat default) (1440 * day + s.depart) (if i = 0 then 0 else c.arrive) c.depart) ∧ (¬ i + 1 < many → c.depart = c.arrive) ∧ KeptL zs day many (i + 1) c.depart r C

theorem keptAt_hour {z : Zone} (hz : ZMade 2 z) {due before : Int} (hd : due ≤ 23100) (hb : 0 ≤ before ∧ before ≤ 24000) : KeptAt z due before (hour (pieces z) due before) := by
  have hv := made_valid hz (by omega)
  have haf := made_af hz (by omega)
  obtain ⟨g1, g2, g3⟩ := hour_eq hv (r := due) (after := before) (by omega) (by omega)
  have hle := hour_le hv haf (r := due) (after := before) (by omega) (by omega)
  refine ⟨g1, by omega, g2, ?_⟩
  by_cases h : hour (pieces z) due before = before
  · exact .inl h
  · exact .inr (g3 _ (by omega) (by omega))

theorem kept_calls {zs : List Zone} (hz : ∀ z ∈ zs, ZMade 2 z) {day : Int} (hd : 0 ≤ day ∧ day ≤ 13) {many : Nat} (hm : 2 ≤ many) : ∀ (S : List Stop) (i : Nat) (now : Int), (∀ s ∈ S, StopOk zs.length s) → i + S.length = many → (i = 0 → now = 0) → 0 ≤ now ∧ now ≤ 24000 → KeptL zs day many i now S (callsGo zs day many i now S)
  | [], i, now, _, _, _, _ => rfl
  | s :: r, i, now, hS, hi, h0, hn => by
    have hs := hS s (List.mem_cons_self ..)
    have hzm : ZMade 2 (zs.getD s.zone.toNat default) := hz _ (by
      have := hs.zone
      rw [List.getD_eq_getElem?_getD, List.getElem?_eq_getElem (by omega)]; exact List.getElem_mem _)
    have ha := hs.arrive
    have hdp := hs.depart
    have ih := fun now' hn' => kept_calls hz hd hm r (i + 1) now' (fun x hx => hS x (List.mem_cons_of_mem _ hx)) (by simp only [List.length_cons] at hi; omega) (fun h => by omega) hn'
    unfold callsGo
    by_cases hi0 : i = 0
    · have hnow := h0 hi0
      subst hi0 hnow
      rw [if_pos rfl]
      have hk := keptAt_hour hzm (due := 1440 * day + s.depart) (before := 0) (by omega) (by omega)
      simp only [KeptL]
      rw [if_pos (by omega)]
      exact ⟨trivial, fun _ => trivial, fun h => by omega, fun _ => by simpa using hk, fun h => by omega, ih _ hk.hi⟩
    · rw [if_neg hi0]
      have hka := keptAt_hour hzm (due := 1440 * day + s.arrive) (before := now) (by omega) hn
      simp only [KeptL]
      by_cases hl : i + 1 < many
      · rw [if_pos hl, if_neg hi0]
        have hkd := keptAt_hour hzm (due := 1440 * day + s.depart) (by omega) hka.hi
        exact ⟨trivial, fun h => absurd h hi0, fun _ => hka, fun _ => hkd, fun h => absurd hl h, ih _ hkd.hi⟩
      · rw [if_neg hl]
        exact ⟨trivial, fun h => absurd h hi0, fun _ => hka, fun h => absurd h hl, fun _ => rfl, ih _ hka.hi⟩
end Go.Proofs.Ytlcgliadpalgfaa.Vm

/- The statement ClockKept: printed hours are kept. -/
namespace Go.Proofs.Ytlcgliadpalgfaa.Vm
open Go Go.Proofs Sp
set_option maxRecDepth 100000
set_option maxHeartbeats 1600000

theorem callsGo_length {zs : List Zone} {day : Int} {many : Nat} : ∀ (S : List Stop) (i : Nat) (now : Int), (callsGo zs day many i now S).length = S.length
  | [], _, _ => rfl
  | s :: r, i, now => by
    unfold callsGo
    split
    · simp only [List.length_cons, callsGo_length r]
    · simp only [List.length_cons, callsGo_length r]

theorem nb5 {a b : Bool} (h1 : a = true) (h2 : b = true) : (bif a then b else false) = true := by rw [h1, h2]; rfl
theorem nb6 {a b : Bool} (h1 : a = false) (h2 : b = false) : (bif a then true else b) = false := by rw [h1, h2]; rfl

theorem c48 (z : Zone) (due before at_ : Int) (hz : ZMade 2 z) (hb : 0 ≤ before) (hk : KeptAt z due before at_) : SC (fun _ => Try.prog) 48 [zoneA z, .int .i64 fun _ => due, .int .i64 fun _ => before, .int .i64 fun _ => at_] [] fun v h => v = .bool (fun _ => true) ∧ h = [] := by
  obtain ⟨nt, hnt⟩ := nth_ex
  have hv := made_valid hz (by omega)
  have haf := made_af hz (by omega)
  have hh := hk.hi
  have k1 := c42 z at_ hv (by omega) (by rw [ahead_eq hv (by omega)]; have := haf at_; omega)
  have k2 := fun h : 1 ≤ at_ => c42 z (at_ - 1) hv (by omega) (by rw [ahead_eq hv (by omega)]; have := haf (at_ - 1); omega)
  rw [ahead_eq hv (by omega)] at k1
  have k2 := fun h : 1 ≤ at_ => (ahead_eq hv (t := at_ - 1) (by omega)) ▸ k2 h
  have h1 := hk.lo
  have h2 := hk.r
  have h3 := hk.f
  have b1 := haf at_
  have b2 := haf (at_ - 1)
  generalize af z.base z.chs at_ = A at *
  generalize af z.base z.chs (at_ - 1) = B at *
  refine con Try.func48 (body := bodyOf Try.f48) rfl (by decide +kernel) ?_
  unfold zoneA
  (cbv; (try simp only [nc] at *); (try refine Chk.mk (okc) ?_))
  refine call0 (k1) (by first | rfl | (simp only [zoneA, bookA, lst_nt hnt]; rfl)) fun r h₂ hp => ?_
  (try simp only [zoneA, bookA, lst_nt hnt] at hp)
  obtain ⟨rfl, rfl⟩ := hp
  (cbv; (try simp only [nc] at *); (try refine Chk.mk (okc) ?_))
  refine Br.isF (by simp; omega) ?_
  (cbv; (try simp only [nc] at *); (try refine Chk.mk (okc) ?_))
  refine ⟨fun hb => ?_, fun hb => ?_⟩
  · (cbv; (try simp only [nc] at *); (try refine Chk.mk (okc) ?_))
    (try first | exact ⟨rfl, trivial⟩ | exact ⟨trivial, trivial⟩)
  · simp only [beq_eq_false_iff_ne, ne_eq] at hb
    (cbv; (try simp only [nc] at *); (try refine Chk.mk (okc) ?_))
    have h4 : at_ - 1 + B < due := by omega
    refine call0 (k2 (by omega)) (by first | rfl | (simp only [zoneA, bookA, lst_nt hnt]; rfl)) fun r h₂ hp => ?_
    (try simp only [zoneA, bookA, lst_nt hnt] at hp)
    obtain ⟨rfl, rfl⟩ := hp
    (cbv; (try simp only [nc] at *); (try refine Chk.mk (okc) ?_))
    simp [h4]

theorem c47 (b : Book) (n day : Int) (hl : (table b day).length ≤ 1000) : SC (fun _ => Try.prog) 47 [bookA b, .int .i64 fun _ => n, .int .i64 fun _ => day] [] fun v h => ∃ (t : Train) (some : Bool), v = .tup [.agg (encTrain t), .bool fun _ => some] ∧ h = [] ∧ (some = true → 0 ≤ place (table b day) n ∧ t = (table b day).getD (place (table b day) n).toNat default) ∧ (some = false → place (table b day) n = -1) := by
  obtain ⟨nt, hnt⟩ := nth_ex
  unfold bookA
  simp only [lst_nt hnt]
  refine SC.less (conX false false [4] Try.func47 (body := bodyOf Try.f47) rfl (by decide +kernel) ?_)
  unfold table at *
  (cbv; (try simp only [nc] at *); (try refine Chk.mk (okc) ?_))
  refine cutS false false [] [1, 6, 8] (fun _ : Unit => [(8, .isl 3 (fun _ => ((if day < b.night then b.old else b.new).length : Int)) (fun e => encTrain (nt Train default (if day < b.night then b.old else b.new) (e ()))) .none)]) (fun _ => []) (fun _ => True) ?_ ?_
  · (cbv; (try simp only [nc] at *); (try refine Chk.mk (okc) ?_))
    refine ⟨fun hb => ?_, fun hb => ?_⟩
    · simp only [decide_eq_true_eq] at hb
      simp only [if_pos hb]
      (cbv; (try simp only [nc] at *); (try refine Chk.mk (okc) ?_))
      refine ⟨(), trivial, ?_⟩
      (refine To.of [] ?_; cbv; (try simp only [nc]); (repeat' (first | exact trivial | exact WkN.refl _ | exact WkB.refl _ | refine ⟨?_, ?_⟩ | refine WkB.cells ?_ | refine WkN.agg ?_ | refine WkN.tup ?_)); (all_goals (first | exact okt | skip)))
    · simp only [decide_eq_false_iff_not] at hb
      simp only [if_neg hb]
      (cbv; (try simp only [nc] at *); (try refine Chk.mk (okc) ?_))
      refine ⟨(), trivial, ?_⟩
      (refine To.of [] ?_; cbv; (try simp only [nc]); (repeat' (first | exact trivial | exact WkN.refl _ | exact WkB.refl _ | refine ⟨?_, ?_⟩ | refine WkB.cells ?_ | refine WkN.agg ?_ | refine WkN.tup ?_)); (all_goals (first | exact okt | skip)))
  · intro _ _
    generalize (if day < b.night then b.old else b.new) = l at *
    (cbv; (try simp only [nc] at *); (try refine Chk.mk (okc) ?_))
    refine loopS false false [] [1, 6, 8, 9] [] (fun (i : Nat) => [(9, .int .i64 fun _ => i)]) (fun _ => []) (fun i => i ≤ l.length ∧ place l n = indexFrom (fun t => decide (t.number = n)) i (l.drop i)) (fun i => l.length - i + 0) 0 ⟨Nat.zero_le _, by simp [place]⟩ ?_ ?_
    · (refine To.of [] ?_; cbv; (try simp only [nc]); (repeat' (first | exact trivial | exact WkN.refl _ | exact WkB.refl _ | refine ⟨?_, ?_⟩ | refine WkB.cells ?_ | refine WkN.agg ?_ | refine WkN.tup ?_)); (all_goals (first | exact okt | skip)))
    rintro i ⟨hi, hp⟩
    (cbv; (try simp only [nc] at *); (try refine Chk.mk (okc) ?_))
    refine ⟨fun hb => ?_, fun hb => ?_⟩
    · simp only [decide_eq_true_eq] at hb
      have hd := nt_drop (d := default) hnt (l := l) (i := i) (by omega)
      rw [hd, indexFrom] at hp
      (cbv; (try simp only [nc] at *); (try refine Chk.mk (okc) ?_))
      refine ⟨fun hb => ?_, fun hb => ?_⟩
      · rw [if_pos (by simpa using hb)] at hp
        (cbv; (try simp only [nc] at *); (try refine Chk.mk (okc) ?_))
        refine ⟨.tup [.agg (encTrain (nt Train default l i)), .bool fun _ => true], [], ?_, nt Train default l i, true, rfl, rfl, fun _ => ⟨by omega, by rw [hp, hnt]⟩, fun h => by cases h⟩
        unfold encTrain
        (refine To.of [] ?_; cbv; (try simp only [nc]); (repeat' (first | exact trivial | exact WkN.refl _ | exact WkB.refl _ | refine ⟨?_, ?_⟩ | refine WkB.cells ?_ | refine WkN.agg ?_ | refine WkN.tup ?_)); (all_goals (first | exact okt | skip)))
      · rw [if_neg (by simpa using hb)] at hp
        (cbv; (try simp only [nc] at *); (try refine Chk.mk (okc) ?_))
        refine ⟨i + 1, ⟨by omega, hp⟩, by show l.length - (i + 1) + 0 < l.length - i + 0; omega, ?_⟩
        (refine To.of [] ?_; cbv; (try simp only [nc]); (repeat' (first | exact trivial | exact WkN.refl _ | exact WkB.refl _ | refine ⟨?_, ?_⟩ | refine WkB.cells ?_ | refine WkN.agg ?_ | refine WkN.tup ?_)); (all_goals (first | exact okt | skip)))
    · simp only [decide_eq_false_iff_not] at hb
      rw [List.drop_eq_nil_of_le (by omega), indexFrom] at hp
      (cbv; (try simp only [nc] at *); (try refine Chk.mk (okc) ?_))
      refine ⟨.tup [.agg (encTrain default), .bool fun _ => false], [], ?_, default, false, rfl, rfl, (fun h => by cases h), fun _ => hp⟩
      unfold encTrain
      (refine To.of [] ?_; cbv; (try simp only [nc]); (repeat' (first | exact trivial | exact WkN.refl _ | exact WkB.refl _ | refine ⟨?_, ?_⟩ | refine WkB.cells ?_ | refine WkN.agg ?_ | refine WkN.tup ?_)); (all_goals (first | exact okt | skip)))

theorem c10 (l : List Int) (hl : (l.length : Int) ≤ 9223372036854775807) : SC (fun _ => Try.prog) 10 [lst 1 encI 0 l] [] fun r h => r = .bool (fun _ => true) := by
  obtain ⟨nt, hnt⟩ := nth_ex
  refine con Try.func10 (body := bodyOf Try.f10) rfl (by decide +kernel) ?_
  (cbv; (try simp only [nc] at *); (try refine Chk.mk (okc) ?_))
  refine call0 (c14 l hl) (by first | rfl | (simp only [zoneA, bookA, lst_nt hnt]; rfl)) fun r h₂ hp => ?_
  (try simp only [zoneA, bookA, lst_nt hnt] at hp)
  obtain ⟨s, rfl, rfl⟩ := hp
  (cbv; (try simp only [nc] at *); (try refine Chk.mk (okc) ?_))
  refine callL [0] (c15 s 3 3 (by omega) (by omega)) (by decide) (by simp) (by first | rfl | (simp only [zoneA, bookA, lst_nt hnt]; rfl)) (by first | rfl | (simp only [zoneA, bookA, lst_nt hnt]; rfl)) fun r h₂ hp => ?_
  (try simp only [zoneA, bookA, lst_nt hnt] at hp)
  obtain ⟨b, s', hb, rfl, rfl⟩ := hp
  have hchk := made_check hb (by omega) (by omega)
  have hok := book_ok hchk
  have hfit := made_fit hb (by omega) (by omega)
  have hlast := hok.last
  (cbv; (try simp only [nc] at *); (try refine Chk.mk (okc) ?_))
  refine loopS false false [] [3, 4] [] (fun (day : Int) => [(4, .int .i64 fun _ => day)]) (fun _ => []) (fun day => 0 ≤ day ∧ day ≤ b.last + 1) (fun day => (b.last + 1 - day).toNat + 0) 0 ⟨by omega, by omega⟩ ?_ ?_
  · (refine To.of [] ?_; cbv; (try simp only [nc]); (repeat' (first | exact trivial | exact WkN.refl _ | exact WkB.refl _ | refine ⟨?_, ?_⟩ | refine WkB.cells ?_ | refine WkN.agg ?_ | refine WkN.tup ?_)); (all_goals (first | exact okt | skip)))
  intro day hday
  (cbv; (try simp only [nc] at *); (try refine Chk.mk (okc) ?_))
  refine ⟨fun hb0 => ?_, fun hb0 => ?_⟩
  · simp only [decide_eq_true_eq] at hb0
    have htab := table_ok hok day
    (cbv; (try simp only [nc] at *); (try refine Chk.mk (okc) ?_))
    refine loopQ fun Q hQ => ?_
    refine loopS false false [] [3, 4, 5] [] (fun (n : Int) => [(5, .int .i64 fun _ => n)]) (fun _ => []) (fun n => 1 ≤ n ∧ n ≤ 4) (fun n => (4 - n).toNat + 0) 1 ⟨by omega, by omega⟩ ?_ ?_
    · (refine To.of [] ?_; cbv; (try simp only [nc]); (repeat' (first | exact trivial | exact WkN.refl _ | exact WkB.refl _ | refine ⟨?_, ?_⟩ | refine WkB.cells ?_ | refine WkN.agg ?_ | refine WkN.tup ?_)); (all_goals (first | exact okt | skip)))
    intro n hn
    (cbv; (try simp only [nc] at *); (try refine Chk.mk (okc) ?_))
    refine ⟨fun hb1 => ?_, fun hb1 => ?_⟩
    · simp only [decide_eq_true_eq] at hb1
      have k26 := c26 b n day hfit
      unfold Run at k26
      rw [hchk, if_neg (fun h => h rfl), inB_of hday.1 (by omega)] at k26
      simp only [Bool.not_true, Bool.false_eq_true, if_false] at k26
      (cbv; (try simp only [nc] at *); (try refine Chk.mk (okc) ?_))
      refine call0 (c47 b n day (by omega)) (by first | rfl | (simp only [zoneA, bookA, lst_nt hnt]; rfl)) fun r h₂ hp => ?_
      obtain ⟨t, some, he, rfl, hs1, hs2⟩ := hp
      unfold encTrain at he
      rw [lst_nt hnt] at he
      subst he
      (cbv; (try simp only [nc] at *); (try refine Chk.mk (okc) ?_))
      have hpl : place (table b day) n < (table b day).length ∧ (place (table b day) n = -1 ∨ 0 ≤ place (table b day) n) := by have := indexFrom_lt (q := fun t : Train => decide (t.number = n)) (l := table b day) (i := 0) (by omega); unfold place; omega
      generalize table b day = tb at *
      generalize place tb n = p at *
      cases some with
      | false =>
        rw [if_pos (by have := hs2 rfl; omega)] at k26
        refine call0 (k26) (by first | rfl | (simp only [zoneA, bookA, lst_nt hnt]; rfl)) fun r h₂ hp => ?_
        (try simp only [zoneA, bookA, lst_nt hnt] at hp)
        obtain ⟨rfl, rfl⟩ := hp
        (cbv; (try simp only [nc] at *); (try refine Chk.mk (okc) ?_))
        refine Br.isT rfl ?_
        (cbv; (try simp only [nc] at *); (try refine Chk.mk (okc) ?_))
        refine Br.isF rfl ?_
        (cbv; (try simp only [nc] at *); (try refine Chk.mk (okc) ?_))
        refine ⟨n + 1, ⟨by omega, by omega⟩, by show (4 - (n + 1)).toNat + 0 < (4 - n).toNat + 0; omega, ?_⟩
        (refine To.of [] ?_; cbv; (try simp only [nc]); (repeat' (first | exact trivial | exact WkN.refl _ | exact WkB.refl _ | refine ⟨?_, ?_⟩ | refine WkB.cells ?_ | refine WkN.agg ?_ | refine WkN.tup ?_)); (all_goals (first | exact okt | skip)))
      | true =>
        obtain ⟨hp0, ht⟩ := hs1 rfl
        rw [if_neg (by omega), ← ht] at k26
        have hT : TrainOk b.zones.length t := by
          rw [ht]
          exact htab.2 _ (by rw [List.getD_eq_getElem?_getD, List.getElem?_eq_getElem (by omega)]; exact List.getElem_mem _)
        by_cases hst : starts t day = true
        · rw [hst] at k26
          simp only [Bool.not_true, Bool.false_eq_true, if_false] at k26
          have hK := kept_calls hb.zones (day := day) (by omega) (many := t.stops.length) hT.len.1 t.stops 0 0 hT.stops (by simp) (fun _ => rfl) (by omega)
          have hcl : (calls b.zones t day).length = t.stops.length := callsGo_length _ _ _
          change KeptL _ _ _ _ _ _ (calls b.zones t day) at hK
          generalize calls b.zones t day = C at *
          have hzt : ∀ s ∈ t.stops, (0 ≤ s.zone ∧ s.zone < b.zones.length) ∧ (0 ≤ s.arrive ∧ s.arrive ≤ 4319) ∧ 0 ≤ s.depart ∧ s.depart ≤ 4319 := fun s hs => by obtain ⟨_, h1, h2, h3⟩ := hT.stops s hs; omega
          have hlen := hT.len
          refine call0 (k26) (by first | rfl | (simp only [zoneA, bookA, lst_nt hnt]; rfl)) fun r h₂ hp => ?_
          (try simp only [zoneA, bookA, lst_nt hnt] at hp)
          obtain ⟨rfl, rfl⟩ := hp
          (cbv; (try simp only [nc] at *); (try refine Chk.mk (okc) ?_))
          refine Br.isF rfl ?_
          (cbv; (try simp only [nc] at *); (try refine Chk.mk (okc) ?_))
          refine Br.isF (by simp [hcl]) ?_
          (cbv; (try simp only [nc] at *); (try refine Chk.mk (okc) ?_))
          refine loopQ fun Q' hQ' => ?_
          refine loopS false false [] [3, 4, 5, 6, 8, 10, 11] [] (fun (⟨i, now⟩ : Nat × Int) => [(10, .int .i64 fun _ => now), (11, .int .i64 fun _ => i)]) (fun _ => [])
            (fun ⟨i, now⟩ => i ≤ C.length ∧ 0 ≤ now ∧ KeptL b.zones day t.stops.length i now (t.stops.drop i) (C.drop i)) (fun i => C.length - i.1 + 0) (0, 0) ⟨Nat.zero_le _, Int.le_refl _, by simpa using hK⟩ ?_ ?_
          · (refine To.of [] ?_; cbv; (try simp only [nc]); (repeat' (first | exact trivial | exact WkN.refl _ | exact WkB.refl _ | refine ⟨?_, ?_⟩ | refine WkB.cells ?_ | refine WkN.agg ?_ | refine WkN.tup ?_)); (all_goals (first | exact okt | skip)))
          rintro ⟨i, now⟩ ⟨hi, hnow, hp⟩
          (cbv; (try simp only [nc] at *); (try refine Chk.mk (okc) ?_))
          refine ⟨fun hb2 => ?_, fun hb2 => ?_⟩
          · simp only [decide_eq_true_eq] at hb2
            rw [nt_drop (d := default) hnt (l := t.stops) (i := i) (by omega), nt_drop (d := default) hnt (l := C) (i := i) (by omega)] at hp
            have hs := hzt _ (nt_mem (d := default) hnt (l := t.stops) (i := i) (by omega))
            simp only [KeptL] at hp
            have p1 := hp.1
            have p2 := hp.2.1
            have p3 := hp.2.2.1
            have p4 := hp.2.2.2.1
            have p5 := hp.2.2.2.2.1
            have p6 := hp.2.2.2.2.2
            clear hp
            have hzn : nt Zone default b.zones (nt Stop default t.stops (i : Int)).zone = b.zones.getD (nt Stop default t.stops (i : Int)).zone.toNat default := hnt ..
            have hzm : ZMade 2 (nt Zone default b.zones (nt Stop default t.stops (i : Int)).zone) := hb.zones _ (by
              rw [hzn, List.getD_eq_getElem?_getD, List.getElem?_eq_getElem (by omega)]; exact List.getElem_mem _)
            rw [← hzn] at p3 p4
            (cbv; try simp only [nc] at *)
            refine Chk.mk (okd) (Br.isF ?_ ?_)
            · by_cases h0 : i = 0
              · simp [p1, p2 h0]
              · simp [p1, h0]
                by_cases hl : i + 1 < t.stops.length
                · intro h; omega
                · intro h; exact p5 hl
            generalize nt Stop default t.stops (i : Int) = s at *
            (cbv; (try simp only [nc] at *); (try refine Chk.mk (okc) ?_))
            have hcl2 : (C.length : Int) = t.stops.length := by omega
            rcases Nat.eq_zero_or_pos i with h0 | h0
            · refine Br.isF (by first | rfl | (rw [h0]; rfl)) ?_
              (cbv; (try simp only [nc] at *); (try refine Chk.mk (okc) ?_))
              refine Br.isF (by first | rfl | (rw [h0]; rfl)) ?_
              (cbv; (try simp only [nc] at *); (try refine Chk.mk (okc) ?_))
              refine Br.isT (by first | rfl | (rw [h0]; rfl)) ?_
              (cbv; (try simp only [nc] at *); (try refine Chk.mk (okc) ?_))
              refine Br.isT (by rw [decide_eq_true_eq]; omega) ?_
              (cbv; (try simp only [nc] at *); (try refine Chk.mk (okc) ?_))
              have q4 := p4 (by omega)
              rw [if_pos h0] at q4
              refine call0 (c48 (nt Zone default b.zones s.zone) (1440 * day + s.depart) 0 (nt Sp.Call default C (i : Int)).depart hzm (by omega) q4) (by first | rfl | (simp only [zoneA, bookA, lst_nt hnt]; rfl)) fun r h₂ hp => ?_
              (try simp only [zoneA, bookA, lst_nt hnt] at hp)
              obtain ⟨rfl, rfl⟩ := hp
              (cbv; (try simp only [nc] at *); (try refine Chk.mk (okc) ?_))
              refine Br.isF (by rw [decide_eq_true (by omega)]; rfl) ?_
              (cbv; (try simp only [nc] at *); (try refine Chk.mk (okc) ?_))
              refine ⟨(i + 1, (nt Sp.Call default C (i : Int)).depart), ⟨by omega, q4.hi.1, p6⟩, by show C.length - (i + 1) + 0 < C.length - i + 0; omega, ?_⟩
              (refine To.of [] ?_; cbv; (try simp only [nc]); (repeat' (first | exact trivial | exact WkN.refl _ | exact WkB.refl _ | refine ⟨?_, ?_⟩ | refine WkB.cells ?_ | refine WkN.agg ?_ | refine WkN.tup ?_)); (all_goals (first | exact okt | skip)))
            · refine Br.isT (by rw [decide_eq_true_eq]; omega) ?_
              (cbv; (try simp only [nc] at *); (try refine Chk.mk (okc) ?_))
              have q3 := p3 h0
              refine call0 (c48 (nt Zone default b.zones s.zone) (1440 * day + s.arrive) now (nt Sp.Call default C (i : Int)).arrive hzm hnow q3) (by first | rfl | (simp only [zoneA, bookA, lst_nt hnt]; rfl)) fun r h₂ hp => ?_
              (try simp only [zoneA, bookA, lst_nt hnt] at hp)
              obtain ⟨rfl, rfl⟩ := hp
              (cbv; (try simp only [nc] at *); (try refine Chk.mk (okc) ?_))
              refine Br.isF (by rw [decide_eq_true (show (0 : Int) < (i : Int) by omega)]; rfl) ?_
              have hmx : (if now < (nt Sp.Call default C (i : Int)).arrive then (nt Sp.Call default C (i : Int)).arrive else now) = (nt Sp.Call default C (i : Int)).arrive := by have := q3.lo; split <;> omega
              (cbv; (try simp only [nc] at *); (try refine Chk.mk (okc) ?_))
              refine Br.isF (by simp; omega) ?_
              (cbv; (try simp only [nc] at *); (try refine Chk.mk (okc) ?_))
              rw [hmx]
              have hca := q3.hi
              refine ⟨fun hb3 => ?_, fun hb3 => ?_⟩
              · simp only [decide_eq_true_eq] at hb3
                have q4 := p4 (by omega)
                rw [if_neg (by omega)] at q4
                (cbv; (try simp only [nc] at *); (try refine Chk.mk (okc) ?_))
                refine call0 (c48 (nt Zone default b.zones s.zone) (1440 * day + s.depart) (nt Sp.Call default C (i : Int)).arrive (nt Sp.Call default C (i : Int)).depart hzm hca.1 q4) (by first | rfl | (simp only [zoneA, bookA, lst_nt hnt]; rfl)) fun r h₂ hp => ?_
                (try simp only [zoneA, bookA, lst_nt hnt] at hp)
                obtain ⟨rfl, rfl⟩ := hp
                (cbv; (try simp only [nc] at *); (try refine Chk.mk (okc) ?_))
                refine Br.isF (by rw [decide_eq_true (by omega)]; rfl) ?_
                (cbv; (try simp only [nc] at *); (try refine Chk.mk (okc) ?_))
                refine ⟨(i + 1, (nt Sp.Call default C (i : Int)).depart), ⟨by omega, q4.hi.1, p6⟩, by show C.length - (i + 1) + 0 < C.length - i + 0; omega, ?_⟩
                (refine To.of [] ?_; cbv; (try simp only [nc]); (repeat' (first | exact trivial | exact WkN.refl _ | exact WkB.refl _ | refine ⟨?_, ?_⟩ | refine WkB.cells ?_ | refine WkN.agg ?_ | refine WkN.tup ?_)); (all_goals (first | exact okt | skip)))
              · simp only [decide_eq_false_iff_not] at hb3
                have q5 := p5 (by omega)
                (cbv; try simp only [nc] at *)
                refine Chk.mk (okd) ?_
                refine Br.isF (by first | rfl | (rw [decide_eq_false (by omega)]; rfl)) ?_
                (cbv; (try simp only [nc] at *); (try refine Chk.mk (okc) ?_))
                refine ⟨(i + 1, (nt Sp.Call default C (i : Int)).depart), ⟨by omega, by rw [q5]; exact hca.1, p6⟩, by show C.length - (i + 1) + 0 < C.length - i + 0; omega, ?_⟩
                (refine To.of [] ?_; cbv; (try simp only [nc]); (repeat' (first | exact trivial | exact WkN.refl _ | exact WkB.refl _ | refine ⟨?_, ?_⟩ | refine WkB.cells ?_ | refine WkN.agg ?_ | refine WkN.tup ?_)); (all_goals (first | exact okt | skip)))
          · simp only [decide_eq_false_iff_not] at hb2
            (cbv; (try simp only [nc] at *); (try refine Chk.mk (okc) ?_))
            refine hQ' _ _ _ ?_
            clear hQ'
            (cbv; (try simp only [nc] at *); (try refine Chk.mk (okc) ?_))
            refine ⟨n + 1, ⟨by omega, by omega⟩, by show (4 - (n + 1)).toNat + 0 < (4 - n).toNat + 0; omega, ?_⟩
            (refine To.of [] ?_; cbv; (try simp only [nc]); (repeat' (first | exact trivial | exact WkN.refl _ | exact WkB.refl _ | refine ⟨?_, ?_⟩ | refine WkB.cells ?_ | refine WkN.agg ?_ | refine WkN.tup ?_)); (all_goals (first | exact okt | skip)))
        · have hst : starts t day = false := by simpa using hst
          rw [hst] at k26
          simp only [Bool.not_false, if_true] at k26
          refine call0 (k26) (by first | rfl | (simp only [zoneA, bookA, lst_nt hnt]; rfl)) fun r h₂ hp => ?_
          (try simp only [zoneA, bookA, lst_nt hnt] at hp)
          obtain ⟨rfl, rfl⟩ := hp
          (cbv; (try simp only [nc] at *); (try refine Chk.mk (okc) ?_))
          refine Br.isT rfl ?_
          (cbv; (try simp only [nc] at *); (try refine Chk.mk (okc) ?_))
          refine Br.isF rfl ?_
          (cbv; (try simp only [nc] at *); (try refine Chk.mk (okc) ?_))
          refine ⟨n + 1, ⟨by omega, by omega⟩, by show (4 - (n + 1)).toNat + 0 < (4 - n).toNat + 0; omega, ?_⟩
          (refine To.of [] ?_; cbv; (try simp only [nc]); (repeat' (first | exact trivial | exact WkN.refl _ | exact WkB.refl _ | refine ⟨?_, ?_⟩ | refine WkB.cells ?_ | refine WkN.agg ?_ | refine WkN.tup ?_)); (all_goals (first | exact okt | skip)))
    · simp only [decide_eq_false_iff_not] at hb1
      (cbv; (try simp only [nc] at *); (try refine Chk.mk (okc) ?_))
      refine hQ _ _ _ ?_
      clear hQ
      (cbv; (try simp only [nc] at *); (try refine Chk.mk (okc) ?_))
      refine ⟨day + 1, ⟨by omega, by omega⟩, by show (b.last + 1 - (day + 1)).toNat + 0 < (b.last + 1 - day).toNat + 0; omega, ?_⟩
      (refine To.of [] ?_; cbv; (try simp only [nc]); (repeat' (first | exact trivial | exact WkN.refl _ | exact WkB.refl _ | refine ⟨?_, ?_⟩ | refine WkB.cells ?_ | refine WkN.agg ?_ | refine WkN.tup ?_)); (all_goals (first | exact okt | skip)))
  · (cbv; (try simp only [nc] at *); (try refine Chk.mk (okc) ?_))
    refine call0 (c18) (by first | rfl | (simp only [zoneA, bookA, lst_nt hnt]; rfl)) fun r h₂ hp => ?_
    (try simp only [zoneA, bookA, lst_nt hnt] at hp)
    obtain ⟨rfl, rfl⟩ := hp
    (cbv; (try simp only [nc] at *); (try refine Chk.mk (okc) ?_))
end Go.Proofs.Ytlcgliadpalgfaa.Vm

/- Contracts: the reference's zones: checks, and by how much a clock is ahead. -/
namespace Go.Proofs.Ytlcgliadpalgfaa.Vm
open Go Go.Proofs Sp
set_option maxRecDepth 100000
set_option maxHeartbeats 1600000

theorem c72 (n a b : Int) : SC (fun _ => Try.prog) 72 [.int .i64 fun _ => n, .int .i64 fun _ => a, .int .i64 fun _ => b] [] fun r h => r = .bool (fun _ => inB n a b) ∧ h = [] := by
  refine con Try.func72 (body := bodyOf Try.f72) rfl (by decide +kernel) ?_
  cbv
  try simp only [nc] at *
  refine ⟨by simp [allc0, allc1, allcE, allcI, Cn.p], ?_, trivial⟩
  congr 1; funext _; unfold inB; cases decide (a ≤ n) <;> rfl

theorem c70 (z : Zone) (hlen : z.chs.length ≤ 1000000) : SC (fun _ => Try.prog) 70 [zoneA z] [] fun v h => v = .int .i64 (fun _ => checkZone z) ∧ h = [] := by
  obtain ⟨nt, hnt⟩ := nth_ex
  unfold zoneA checkZone
  rw [lst_nt hnt]
  refine con Try.func70 (body := bodyOf Try.f70) rfl (by decide +kernel) ?_
  (cbv; (try simp only [nc] at *); (try refine Chk.mk (okc) ?_))
  refine call0 (c72 z.base (-720) 720) (by first | rfl | (simp only [zoneA, lst_nt hnt]; rfl)) fun r h₂ hp => ?_
  (try simp only [zoneA, lst_nt hnt] at hp)
  obtain ⟨rfl, rfl⟩ := hp
  (cbv; (try simp only [nc] at *); (try refine Chk.mk (okc) ?_))
  refine ⟨fun h1 => ?_, fun h1 => ?_⟩
  · rw [if_pos h1]
    (cbv; (try simp only [nc] at *); (try refine Chk.mk (okc) ?_))
    (try first | exact ⟨rfl, trivial⟩ | exact ⟨trivial, trivial⟩)
  rw [if_neg (by rw [h1]; exact Bool.false_ne_true)]
  refine ⟨fun h2 => ?_, fun h2 => ?_⟩
  · simp only [decide_eq_true_eq] at h2
    rw [if_pos (by omega)]
    (cbv; (try simp only [nc] at *); (try refine Chk.mk (okc) ?_))
    (try first | exact ⟨rfl, trivial⟩ | exact ⟨trivial, trivial⟩)
  simp only [decide_eq_false_iff_not] at h2
  rw [if_neg (by omega)]
  generalize hC : chkChs none z.chs = C at *
  (cbv; (try simp only [nc] at *); (try refine Chk.mk (okc) ?_))
  refine loopS false false [] [1, 3] [] (fun (i : Nat) => [(3, .int .i64 fun _ => (i : Int))]) (fun _ => []) (fun i => i ≤ z.chs.length ∧ chkChs (if i = 0 then none else some (nt Chg default z.chs ((i : Int) - 1)).at_) (z.chs.drop i) = C) (fun i => z.chs.length - i + 0) 0 ⟨Nat.zero_le _, by simpa using hC⟩ ?_ ?_
  · (refine To.of [] ?_; cbv; (try simp only [nc]); (repeat' (first | exact trivial | exact WkN.refl _ | exact WkB.refl _ | refine ⟨?_, ?_⟩ | refine WkB.cells ?_ | refine WkN.agg ?_ | refine WkN.tup ?_)); (all_goals (first | exact okt | skip)))
  rintro i ⟨hi, hp⟩
  (cbv; (try simp only [nc] at *); (try refine Chk.mk (okc) ?_))
  refine ⟨fun hb => ?_, fun hb => ?_⟩
  · simp only [decide_eq_true_eq] at hb
    have hil : i < z.chs.length := by omega
    rw [nt_drop (d := default) hnt hil, chkChs_cons] at hp
    have hnx : (if i + 1 = 0 then none else some (nt Chg default z.chs (((i + 1 : Nat) : Int) - 1)).at_) = some (nt Chg default z.chs (i : Int)).at_ := by
      rw [if_neg (by omega)]; congr 3; omega
    generalize hc : nt Chg default z.chs (i : Int) = c at *
    have hlow : (bif decide (0 < (i : Int)) then decide (c.at_ ≤ (nt Chg default z.chs ((i : Int) - 1)).at_) else false) = leP (if i = 0 then none else some (nt Chg default z.chs ((i : Int) - 1)).at_) c.at_ := by
      by_cases h0 : i = 0
      · subst h0; rfl
      · rw [if_neg h0, decide_eq_true (show 0 < (i : Int) by omega)]; rfl
    rw [← hlow] at hp
    have k1 := c72 c.at_ 0 43200
    have k2 := c72 c.by_ (-180) 180
    generalize inB c.at_ 0 43200 = b1 at *
    generalize inB c.by_ (-180) 180 = b2 at *
    (cbv; try simp only [nc] at *)
    simp only [hc]
    refine Chk.mk (okc) ?_
    refine call0 (k1) (by first | rfl | (simp only [zoneA, lst_nt hnt]; rfl)) fun r h₂ hp => ?_
    (try simp only [zoneA, lst_nt hnt] at hp)
    obtain ⟨rfl, rfl⟩ := hp
    (cbv; (try simp only [nc] at *); (try refine Chk.mk (okc) ?_))
    refine ⟨fun h3 => ?_, fun h3 => ?_⟩
    · rw [if_pos h3] at hp
      rw [← hp]
      (cbv; (try simp only [nc] at *); (try refine Chk.mk (okc) ?_))
      (try first | exact ⟨rfl, trivial⟩ | exact ⟨trivial, trivial⟩)
    rw [if_neg (by rw [h3]; exact Bool.false_ne_true)] at hp
    (cbv; (try simp only [nc] at *); (try refine Chk.mk (okc) ?_))
    refine ⟨fun h4 => ?_, fun h4 => ?_⟩
    · rw [if_pos h4] at hp
      rw [← hp]
      (cbv; (try simp only [nc] at *); (try refine Chk.mk (okc) ?_))
      (try first | exact ⟨rfl, trivial⟩ | exact ⟨trivial, trivial⟩)
    rw [if_neg (by rw [h4]; exact Bool.false_ne_true)] at hp
    (cbv; (try simp only [nc] at *); (try refine Chk.mk (okc) ?_))
    refine call0 (k2) (by first | rfl | (simp only [zoneA, lst_nt hnt]; rfl)) fun r h₂ hp => ?_
    (try simp only [zoneA, lst_nt hnt] at hp)
    obtain ⟨rfl, rfl⟩ := hp
    (cbv; (try simp only [nc] at *); (try refine Chk.mk (okc) ?_))
    refine ⟨fun h5 => ?_, fun h5 => ?_⟩
    · have h5' : (!b2 || decide (c.by_ = 0)) = true := by
        cases b2
        · rfl
        · simpa using h5
      rw [if_pos h5'] at hp
      rw [← hp]
      (cbv; (try simp only [nc] at *); (try refine Chk.mk (okc) ?_))
      (try first | exact ⟨rfl, trivial⟩ | exact ⟨trivial, trivial⟩)
    · have h5' : ¬ (!b2 || decide (c.by_ = 0)) = true := by
        cases b2
        · simp at h5
        · simpa using h5
      rw [if_neg h5'] at hp
      (cbv; (try simp only [nc] at *); (try refine Chk.mk (okc) ?_))
      refine ⟨i + 1, ⟨by omega, by rw [hnx]; exact hp⟩, by show z.chs.length - (i + 1) + 0 < z.chs.length - i + 0; omega, ?_⟩
      (refine To.of [] ?_; cbv; (try simp only [nc]); (repeat' (first | exact trivial | exact WkN.refl _ | exact WkB.refl _ | refine ⟨?_, ?_⟩ | refine WkB.cells ?_ | refine WkN.agg ?_ | refine WkN.tup ?_)); (all_goals (first | exact okt | skip)))
  · have hie : z.chs.length ≤ i := by simp only [decide_eq_false_iff_not] at hb; omega
    rw [List.drop_eq_nil_of_le hie, chkChs_nil] at hp
    rw [← hp]
    (cbv; (try simp only [nc] at *); (try refine Chk.mk (okc) ?_))
    (try first | exact ⟨rfl, trivial⟩ | exact ⟨trivial, trivial⟩)
end Go.Proofs.Ytlcgliadpalgfaa.Vm

/- Contracts: the reference's clocks. -/
namespace Go.Proofs.Ytlcgliadpalgfaa.Vm
open Go Go.Proofs Sp
set_option maxRecDepth 100000
set_option maxHeartbeats 1600000

/-- By how much a clock is ahead, all changes looked at. -/
def raGo : Int → List Chg → Int → Int
  | a, [], _ => a
  | a, c :: r, k => raGo (if c.at_ ≤ k then a + c.by_ else a) r k
theorem raGo_no {k : Int} : ∀ {l : List Chg} {a lo : Int}, Asc lo l → k < lo → raGo a l k = a
  | [], _, _, _, _ => rfl
  | c :: r, a, lo, h, hk => by
    unfold raGo
    rw [if_neg (by have := h.1; omega)]
    exact raGo_no h.2 (by have := h.1; omega)
theorem raGo_af {k : Int} : ∀ {l : List Chg} {a lo : Int}, Asc lo l → raGo a l k = af a l k
  | [], _, _, _ => rfl
  | c :: r, a, lo, h => by
    unfold raGo af
    by_cases hc : c.at_ ≤ k
    · rw [if_pos hc, if_pos hc]; exact raGo_af h.2
    · rw [if_neg hc, if_neg hc]; exact raGo_no h.2 (by omega)

theorem c97 (z : Zone) (t : Int) (hz : checkZone z = 0) : SC (fun _ => Try.prog) 97 [zoneA z, .int .i64 fun _ => t] [] fun v h => v = .int .i64 (fun _ => af z.base z.chs t) ∧ h = [] := by
  obtain ⟨nt, hnt⟩ := nth_ex
  obtain ⟨ha, hb, hl, h1, h2⟩ := asc_of hz
  rw [← raGo_af (a := z.base) (k := t) ha]
  generalize hR : raGo z.base z.chs t = R at *
  refine con Try.func97 (body := bodyOf Try.f97) rfl (by decide +kernel) ?_
  unfold zoneA
  simp only [lst_nt hnt]
  (cbv; (try simp only [nc] at *); (try refine Chk.mk (okc) ?_))
  refine loopS false false [] [1, 2, 5, 6] [] (fun (⟨i, n⟩ : Nat × Int) => [(5, .int .i64 fun _ => n), (6, .int .i64 fun _ => (i : Int))]) (fun _ => []) (fun ⟨i, n⟩ => i ≤ z.chs.length ∧ (-720 - 180 * (i : Int) ≤ n ∧ n ≤ 720 + 180 * (i : Int)) ∧ raGo n (z.chs.drop i) t = R) (fun i => z.chs.length - i.1 + 0) (0, z.base) ⟨Nat.zero_le _, by simp; omega, by simpa using hR⟩ ?_ ?_
  · (refine To.of [] ?_; cbv; (try simp only [nc]); (repeat' (first | exact trivial | exact WkN.refl _ | exact WkB.refl _ | refine ⟨?_, ?_⟩ | refine WkB.cells ?_ | refine WkN.agg ?_ | refine WkN.tup ?_)); (all_goals (first | exact okt | skip)))
  rintro ⟨i, n⟩ ⟨hi, hn, hp⟩
  have hi : i ≤ z.chs.length := hi
  have hn : -720 - 180 * (i : Int) ≤ n ∧ n ≤ 720 + 180 * (i : Int) := hn
  (cbv; (try simp only [nc] at *); (try refine Chk.mk (okc) ?_))
  refine ⟨fun hb1 => ?_, fun hb1 => ?_⟩
  · simp only [decide_eq_true_eq] at hb1
    have hil : i < z.chs.length := by omega
    rw [nt_drop (d := default) hnt hil] at hp
    have hc := hb _ (nt_mem (d := default) hnt (l := z.chs) (i := i) hil)
    have hp : raGo (if (nt Chg default z.chs (i : Int)).at_ ≤ t then n + (nt Chg default z.chs (i : Int)).by_ else n) (z.chs.drop (i + 1)) t = R := hp
    generalize hx : nt Chg default z.chs (i : Int) = c at *
    (cbv; try simp only [nc] at *)
    simp only [hx]
    refine Chk.mk (okc) ?_
    refine ⟨fun h3 => ?_, fun h3 => ?_⟩
    · rw [if_pos (by simpa using h3)] at hp
      (cbv; try simp only [nc] at *)
      simp only [hx]
      refine Chk.mk (okc) ?_
      refine ⟨(i + 1, n + c.by_), ⟨by show i + 1 ≤ z.chs.length; omega, by dsimp only; omega, hp⟩, by show z.chs.length - (i + 1) + 0 < z.chs.length - i + 0; omega, ?_⟩
      (refine To.of [] ?_; cbv; (try simp only [nc]); (repeat' (first | exact trivial | exact WkN.refl _ | exact WkB.refl _ | refine ⟨?_, ?_⟩ | refine WkB.cells ?_ | refine WkN.agg ?_ | refine WkN.tup ?_)); (all_goals (first | exact okt | skip)))
    · rw [if_neg (by simpa using h3)] at hp
      (cbv; (try simp only [nc] at *); (try refine Chk.mk (okc) ?_))
      refine ⟨(i + 1, n), ⟨by show i + 1 ≤ z.chs.length; omega, by dsimp only; omega, hp⟩, by show z.chs.length - (i + 1) + 0 < z.chs.length - i + 0; omega, ?_⟩
      (refine To.of [] ?_; cbv; (try simp only [nc]); (repeat' (first | exact trivial | exact WkN.refl _ | exact WkB.refl _ | refine ⟨?_, ?_⟩ | refine WkB.cells ?_ | refine WkN.agg ?_ | refine WkN.tup ?_)); (all_goals (first | exact okt | skip)))
  · have hie : z.chs.length ≤ i := by simp only [decide_eq_false_iff_not] at hb1; omega
    rw [List.drop_eq_nil_of_le hie] at hp
    have hp : n = R := hp
    rw [← hp]
    (cbv; (try simp only [nc] at *); (try refine Chk.mk (okc) ?_))
    (try first | exact ⟨rfl, trivial⟩ | exact ⟨trivial, trivial⟩)

theorem instant_ok {z : Zone} {t : Int} (h : checkInstant z t = 0) : checkZone z = 0 ∧ 0 ≤ t ∧ t ≤ 43200 := by
  unfold checkInstant at h
  split at h
  · rename_i h1; exact absurd h h1
  rename_i h1
  split at h
  · cases h
  rename_i h2
  have := inB_ok (by simpa using h2 : inB t 0 43200 = true)
  exact ⟨Decidable.of_not_not h1, this⟩
theorem af_small {z : Zone} (h : checkZone z = 0) {t : Int} : -1260 ≤ af z.base z.chs t ∧ af z.base z.chs t ≤ 1260 := by
  obtain ⟨_, hb, hl, h1, h2⟩ := asc_of h
  have := af_bd z.chs z.base t 180 180 (fun c hc => by have := hb c hc; omega) (by omega) (by omega)
  omega

theorem c96 (z : Zone) (t : Int) (hlen : z.chs.length ≤ 1000) : SC (fun _ => Try.prog) 96 [zoneA z, .int .i64 fun _ => t] [] fun v h => v = .int .i64 (fun _ => checkInstant z t) ∧ h = [] := by
  obtain ⟨nt, hnt⟩ := nth_ex
  have k1 := c70 z (by omega)
  have k2 := c72 t 0 43200
  unfold checkInstant
  generalize checkZone z = C at *
  generalize inB t 0 43200 = b at *
  refine con Try.func96 (body := bodyOf Try.f96) rfl (by decide +kernel) ?_
  unfold zoneA at *
  simp only [lst_nt hnt] at *
  (cbv; (try simp only [nc] at *); (try refine Chk.mk (okc) ?_))
  refine call0 (k1) (by first | rfl | (simp only [zoneA, lst_nt hnt]; rfl)) fun r h₂ hp => ?_
  (try simp only [zoneA, lst_nt hnt] at hp)
  obtain ⟨rfl, rfl⟩ := hp
  (cbv; (try simp only [nc] at *); (try refine Chk.mk (okc) ?_))
  refine ⟨fun h1 => ?_, fun h1 => ?_⟩
  · rw [if_pos (by simpa using h1)]
    (cbv; (try simp only [nc] at *); (try refine Chk.mk (okc) ?_))
    (try first | exact ⟨rfl, trivial⟩ | exact ⟨trivial, trivial⟩)
  rw [if_neg (by simpa using h1)]
  (cbv; (try simp only [nc] at *); (try refine Chk.mk (okc) ?_))
  refine call0 (k2) (by first | rfl | (simp only [zoneA, lst_nt hnt]; rfl)) fun r h₂ hp => ?_
  (try simp only [zoneA, lst_nt hnt] at hp)
  obtain ⟨rfl, rfl⟩ := hp
  (cbv; (try simp only [nc] at *); (try refine Chk.mk (okc) ?_))
  refine ⟨fun h2 => ?_, fun h2 => ?_⟩
  · rw [if_pos h2]
    (cbv; (try simp only [nc] at *); (try refine Chk.mk (okc) ?_))
    (try first | exact ⟨rfl, trivial⟩ | exact ⟨trivial, trivial⟩)
  · rw [if_neg (by rw [h2]; exact Bool.false_ne_true)]
    (cbv; (try simp only [nc] at *); (try refine Chk.mk (okc) ?_))
    (try first | exact ⟨rfl, trivial⟩ | exact ⟨trivial, trivial⟩)

theorem c100 (z : Zone) (d m : Int) (hlen : z.chs.length ≤ 1000) : SC (fun _ => Try.prog) 100 [zoneA z, .int .i64 fun _ => d, .int .i64 fun _ => m] [] fun v h => v = .int .i64 (fun _ => checkHour z d m) ∧ h = [] := by
  obtain ⟨nt, hnt⟩ := nth_ex
  have k1 := c70 z (by omega)
  have k2 := c72 d (-1) 31
  have k3 := c72 m 0 1439
  unfold checkHour
  generalize checkZone z = C at *
  generalize inB d (-1) 31 = b1 at *
  generalize inB m 0 1439 = b2 at *
  refine con Try.func100 (body := bodyOf Try.f100) rfl (by decide +kernel) ?_
  unfold zoneA at *
  simp only [lst_nt hnt] at *
  (cbv; (try simp only [nc] at *); (try refine Chk.mk (okc) ?_))
  refine call0 (k1) (by first | rfl | (simp only [zoneA, lst_nt hnt]; rfl)) fun r h₂ hp => ?_
  (try simp only [zoneA, lst_nt hnt] at hp)
  obtain ⟨rfl, rfl⟩ := hp
  (cbv; (try simp only [nc] at *); (try refine Chk.mk (okc) ?_))
  refine ⟨fun h1 => ?_, fun h1 => ?_⟩
  · rw [if_pos (by simpa using h1)]
    (cbv; (try simp only [nc] at *); (try refine Chk.mk (okc) ?_))
    (try first | exact ⟨rfl, trivial⟩ | exact ⟨trivial, trivial⟩)
  rw [if_neg (by simpa using h1)]
  (cbv; (try simp only [nc] at *); (try refine Chk.mk (okc) ?_))
  refine call0 (k2) (by first | rfl | (simp only [zoneA, lst_nt hnt]; rfl)) fun r h₂ hp => ?_
  (try simp only [zoneA, lst_nt hnt] at hp)
  obtain ⟨rfl, rfl⟩ := hp
  cases b1 with
  | false =>
    (cbv; (try simp only [nc] at *); (try refine Chk.mk (okc) ?_))
    refine Br.isF rfl ?_
    (cbv; (try simp only [nc] at *); (try refine Chk.mk (okc) ?_))
    refine Br.isT rfl ?_
    (cbv; (try simp only [nc] at *); (try refine Chk.mk (okc) ?_))
    (try first | exact ⟨rfl, trivial⟩ | exact ⟨trivial, trivial⟩)
  | true =>
    (cbv; (try simp only [nc] at *); (try refine Chk.mk (okc) ?_))
    refine Br.isT rfl ?_
    (cbv; (try simp only [nc] at *); (try refine Chk.mk (okc) ?_))
    refine call0 (k3) (by first | rfl | (simp only [zoneA, lst_nt hnt]; rfl)) fun r h₂ hp => ?_
    (try simp only [zoneA, lst_nt hnt] at hp)
    obtain ⟨rfl, rfl⟩ := hp
    (cbv; (try simp only [nc] at *); (try refine Chk.mk (okc) ?_))
    cases b2 with
    | false =>
      refine Br.isT rfl ?_
      (cbv; (try simp only [nc] at *); (try refine Chk.mk (okc) ?_))
      (try first | exact ⟨rfl, trivial⟩ | exact ⟨trivial, trivial⟩)
    | true =>
      refine Br.isF rfl ?_
      (cbv; (try simp only [nc] at *); (try refine Chk.mk (okc) ?_))
      (try first | exact ⟨rfl, trivial⟩ | exact ⟨trivial, trivial⟩)

theorem c52 (z : Zone) (t : Int) (hlen : z.chs.length ≤ 1000) : SC (fun _ => Try.prog) 52 [zoneA z, .int .i64 fun _ => t] [] fun v h => v = .tup [.int .i64 fun _ => (Ahead z t).1, .int .i64 fun _ => (Ahead z t).2] ∧ h = [] := by
  obtain ⟨nt, hnt⟩ := nth_ex
  have k1 := c96 z t hlen
  have k2 := fun h : checkInstant z t = 0 => (c97 z t (instant_ok h).1)
  have k3 := fun h : checkInstant z t = 0 => (ahead_eq (instant_ok h).1 (instant_ok h).2.1)
  unfold Ahead
  generalize checkInstant z t = C at *
  refine con Try.func52 (body := bodyOf Try.f52) rfl (by decide +kernel) ?_
  unfold zoneA at *
  simp only [lst_nt hnt] at *
  (cbv; (try simp only [nc] at *); (try refine Chk.mk (okc) ?_))
  refine call0 (k1) (by first | rfl | (simp only [zoneA, lst_nt hnt]; rfl)) fun r h₂ hp => ?_
  (try simp only [zoneA, lst_nt hnt] at hp)
  obtain ⟨rfl, rfl⟩ := hp
  (cbv; (try simp only [nc] at *); (try refine Chk.mk (okc) ?_))
  refine ⟨fun h1 => ?_, fun h1 => ?_⟩
  · rw [if_pos (by simpa using h1)]
    (cbv; (try simp only [nc] at *); (try refine Chk.mk (okc) ?_))
    (try first | exact ⟨rfl, trivial⟩ | exact ⟨trivial, trivial⟩)
  have h1 : C = 0 := by simpa using h1
  have k2 := k2 h1
  rw [if_neg (fun h => h h1), k3 h1]
  generalize af z.base z.chs t = A at *
  (cbv; (try simp only [nc] at *); (try refine Chk.mk (okc) ?_))
  refine call0 (k2) (by first | rfl | (simp only [zoneA, lst_nt hnt]; rfl)) fun r h₂ hp => ?_
  (try simp only [zoneA, lst_nt hnt] at hp)
  obtain ⟨rfl, rfl⟩ := hp
  (cbv; (try simp only [nc] at *); (try refine Chk.mk (okc) ?_))
  (try first | exact ⟨rfl, trivial⟩ | exact ⟨trivial, trivial⟩)

theorem c54 (z : Zone) (t : Int) (hlen : z.chs.length ≤ 1000) : SC (fun _ => Try.prog) 54 [zoneA z, .int .i64 fun _ => t] [] fun v h => v = .tup [.int .i64 fun _ => (Reads z t).1, .int .i64 fun _ => (Reads z t).2.1, .int .i64 fun _ => (Reads z t).2.2] ∧ h = [] := by
  obtain ⟨nt, hnt⟩ := nth_ex
  have k1 := c96 z t hlen
  have k2 := fun h : checkInstant z t = 0 => (c97 z t (instant_ok h).1)
  have k3 := fun h : checkInstant z t = 0 => (ahead_eq (instant_ok h).1 (instant_ok h).2.1)
  have k4 := fun h : checkInstant z t = 0 => (instant_ok h).2
  have k5 := fun h : checkInstant z t = 0 => af_small (instant_ok h).1 (t := t)
  unfold Reads
  generalize checkInstant z t = C at *
  refine SC.less (con Try.func54 (body := bodyOf Try.f54) rfl (by decide +kernel) ?_)
  unfold zoneA at *
  simp only [lst_nt hnt] at *
  (cbv; (try simp only [nc] at *); (try refine Chk.mk (okc) ?_))
  refine call0 (k1) (by first | rfl | (simp only [zoneA, lst_nt hnt]; rfl)) fun r h₂ hp => ?_
  (try simp only [zoneA, lst_nt hnt] at hp)
  obtain ⟨rfl, rfl⟩ := hp
  (cbv; (try simp only [nc] at *); (try refine Chk.mk (okc) ?_))
  refine ⟨fun h1 => ?_, fun h1 => ?_⟩
  · rw [if_pos (by simpa using h1)]
    (cbv; (try simp only [nc] at *); (try refine Chk.mk (okc) ?_))
    refine ⟨_, [], ?_, rfl, rfl⟩
    (refine To.of [] ?_; cbv; (try simp only [nc]); (repeat' (first | exact trivial | exact WkN.refl _ | exact WkB.refl _ | refine ⟨?_, ?_⟩ | refine WkB.cells ?_ | refine WkN.agg ?_ | refine WkN.tup ?_)); (all_goals (first | exact okt | skip)))
  have h1 : C = 0 := by simpa using h1
  have k2 := k2 h1
  have k4 := k4 h1
  have k5 := k5 h1
  rw [if_neg (fun h => h h1), k3 h1]
  generalize af z.base z.chs t = A at *
  (cbv; (try simp only [nc] at *); (try refine Chk.mk (okc) ?_))
  refine call0 (k2) (by first | rfl | (simp only [zoneA, lst_nt hnt]; rfl)) fun r h₂ hp => ?_
  (try simp only [zoneA, lst_nt hnt] at hp)
  obtain ⟨rfl, rfl⟩ := hp
  (cbv; (try simp only [nc] at *); (try refine Chk.mk (okc) ?_))
  refine loopS false false [] [8, 9] [] (fun (⟨d, n⟩ : Int × Int) => [(8, .int .i64 fun _ => n), (9, .int .i64 fun _ => d)]) (fun _ => []) (fun ⟨d, n⟩ => (-10000 ≤ n ∧ n ≤ 100000) ∧ (-100 ≤ d ∧ d ≤ 0) ∧ n + 1440 * d = t + A) (fun i => (100 + i.1).toNat + 0) (0, t + A) ⟨by omega, by omega, by omega⟩ ?_ ?_
  · (refine To.of [] ?_; cbv; (try simp only [nc]); (repeat' (first | exact trivial | exact WkN.refl _ | exact WkB.refl _ | refine ⟨?_, ?_⟩ | refine WkB.cells ?_ | refine WkN.agg ?_ | refine WkN.tup ?_)); (all_goals (first | exact okt | skip)))
  rintro ⟨d, n⟩ ⟨hn, hd, he⟩
  have hn : -10000 ≤ n ∧ n ≤ 100000 := hn
  have hd : -100 ≤ d ∧ d ≤ 0 := hd
  have he : n + 1440 * d = t + A := he
  (cbv; (try simp only [nc] at *); (try refine Chk.mk (okc) ?_))
  refine ⟨fun h2 => ?_, fun h2 => ?_⟩
  · simp only [decide_eq_true_eq] at h2
    (cbv; (try simp only [nc] at *); (try refine Chk.mk (okc) ?_))
    refine ⟨(d - 1, n + 1440), ⟨by dsimp only; omega, by dsimp only; omega, by dsimp only; omega⟩, by dsimp only; omega, ?_⟩
    (refine To.of [] ?_; cbv; (try simp only [nc]); (repeat' (first | exact trivial | exact WkN.refl _ | exact WkB.refl _ | refine ⟨?_, ?_⟩ | refine WkB.cells ?_ | refine WkN.agg ?_ | refine WkN.tup ?_)); (all_goals (first | exact okt | skip)))
  · simp only [decide_eq_false_iff_not] at h2
    (cbv; try simp only [nc] at *)
    simp only [Int.tdiv_eq_ediv_of_nonneg (show 0 ≤ n by omega), Int.tmod_eq_emod_of_nonneg (show 0 ≤ n by omega)]
    refine Chk.mk (okc) ?_
    refine ⟨_, [], ?_, rfl, rfl⟩
    (refine To.of [] ?_; cbv; (try simp only [nc]); (repeat' (first | exact trivial | exact WkN.refl _ | exact WkB.refl _ | refine ⟨?_, ?_⟩ | refine WkB.cells ?_ | refine WkN.agg ?_ | refine WkN.tup ?_)); (all_goals (first | exact okt | skip)))
end Go.Proofs.Ytlcgliadpalgfaa.Vm

/- Contracts: the reference's stretches. -/
namespace Go.Proofs.Ytlcgliadpalgfaa.Vm
open Go Go.Proofs Sp
set_option maxRecDepth 100000
set_option maxHeartbeats 1600000

/-- A stretch, as the reference has it. -/
def cl (p : Pc) : Pc := if p.bef = openT then ⟨p.fr, -1, p.ahd⟩ else p
def strs (z : Zone) : List Pc := (pieces z).map cl
def sumBy (a : Int) (l : List Chg) : Int := l.foldl (fun a c => a + c.by_) a
theorem af_app : ∀ (l1 l2 : List Chg) (a k : Int), (∀ c ∈ l1, c.at_ ≤ k) → af a (l1 ++ l2) k = af (sumBy a l1) l2 k
  | [], _, _, _, _ => rfl
  | c :: r, l2, a, k, h => by
    have e : af a (c :: r ++ l2) k = if c.at_ ≤ k then af (a + c.by_) (r ++ l2) k else a := rfl
    rw [e, if_pos (h c (List.mem_cons_self ..)), af_app r l2 _ _ (fun x hx => h x (List.mem_cons_of_mem _ hx))]
    rfl
theorem sumBy_snoc (a : Int) (l : List Chg) (c : Chg) : sumBy a (l ++ [c]) = sumBy a l + c.by_ := by unfold sumBy; rw [List.foldl_append]; rfl

/-- Where the reference stands ahead of change i. -/
structure StrAt (z : Zone) (i : Nat) (f : Int) (out : List Pc) : Prop where
  le : i ≤ z.chs.length
  eq : strs z = out ++ (pcsGo f (sumBy z.base (z.chs.take i)) (z.chs.drop i)).map cl
  lo : ∀ c ∈ z.chs.take i, c.at_ ≤ f
  fr : 0 ≤ f ∧ f ≤ 43200
  asc : Asc (if i = 0 then f else f + 1) (z.chs.drop i)
  zero : i = 0 → f = 0
  len : out.length ≤ i

theorem str_start {z : Zone} (h : checkZone z = 0) : StrAt z 0 0 [] := by
  obtain ⟨ha, hb, hl, h1, h2⟩ := asc_of h
  exact ⟨Nat.zero_le _, rfl, by simp, by omega, by simpa using ha, fun _ => rfl, by simp⟩

/-- By how much it is ahead there, if the next change is later. -/
theorem StrAt.ahd {z : Zone} {i : Nat} {f : Int} {out : List Pc} (h : StrAt z i f out) (hn : ∀ c ∈ (z.chs.drop i).head?, f < c.at_) : af z.base z.chs f = sumBy z.base (z.chs.take i) := by
  have e : z.chs = z.chs.take i ++ z.chs.drop i := (List.take_append_drop ..).symm
  rw [e, af_app _ _ _ _ h.lo, ← e]
  cases hd : z.chs.drop i with
  | nil => rfl
  | cons c r =>
    rw [hd] at hn
    have hc := hn c rfl
    unfold af
    rw [if_neg (by omega)]

theorem StrAt.step {z : Zone} {i : Nat} {f : Int} {out : List Pc} {c : Chg} (hz : checkZone z = 0) (h : StrAt z i f out) (hi : i < z.chs.length) (hc : z.chs.drop i = c :: z.chs.drop (i + 1)) (ht : z.chs.take (i + 1) = z.chs.take i ++ [c]) :
    (c.at_ = 0 → StrAt z (i + 1) c.at_ out) ∧ (c.at_ ≠ 0 → af z.base z.chs f = sumBy z.base (z.chs.take i) ∧ StrAt z (i + 1) c.at_ (out ++ [⟨f, c.at_, sumBy z.base (z.chs.take i)⟩])) := by
  obtain ⟨ha, hb, hl, h1, h2⟩ := asc_of hz
  have hcm : c ∈ z.chs := List.mem_of_mem_drop (i := i) (by rw [hc]; exact List.mem_cons_self ..)
  have hcb := hb c hcm
  have hasc := h.asc
  rw [hc] at hasc
  obtain ⟨hlo, hrest⟩ := hasc
  have hfr := h.fr
  have hle : f ≤ c.at_ := by split at hlo <;> omega
  have hsum : sumBy z.base (z.chs.take (i + 1)) = sumBy z.base (z.chs.take i) + c.by_ := by rw [ht, sumBy_snoc]
  have hlo2 : ∀ x ∈ z.chs.take (i + 1), x.at_ ≤ c.at_ := fun x hx => by
    rw [ht] at hx
    rcases List.mem_append.1 hx with hx | hx
    · have := h.lo x hx; omega
    · simp at hx; rw [hx]; exact Int.le_refl _
  have hasc2 : Asc (if i + 1 = 0 then c.at_ else c.at_ + 1) (z.chs.drop (i + 1)) := by rw [if_neg (by omega)]; exact hrest
  have heq := h.eq
  rw [hc] at heq
  have hlen := h.len
  refine ⟨fun h0 => ?_, fun h0 => ?_⟩
  · have hf0 : f = 0 := by omega
    refine ⟨hi, ?_, hlo2, by omega, hasc2, fun h => by omega, by omega⟩
    rw [heq, hsum]
    congr 1
    have e : pcsGo f (sumBy z.base (z.chs.take i)) (c :: z.chs.drop (i + 1)) = pcsGo c.at_ (sumBy z.base (z.chs.take i) + c.by_) (z.chs.drop (i + 1)) := if_neg (by omega)
    rw [e]
  · have hlt : f < c.at_ := by
      by_cases hi0 : i = 0
      · have := h.zero hi0; omega
      · rw [if_neg hi0] at hlo; omega
    refine ⟨h.ahd (by rw [hc]; intro x hx; simp at hx; rw [← hx]; exact hlt), hi, ?_, hlo2, by omega, hasc2, fun h => by omega, by simp; omega⟩
    have e : pcsGo f (sumBy z.base (z.chs.take i)) (c :: z.chs.drop (i + 1)) = ⟨f, c.at_, sumBy z.base (z.chs.take i)⟩ :: pcsGo c.at_ (sumBy z.base (z.chs.take i) + c.by_) (z.chs.drop (i + 1)) := if_pos hlt
    have e2 : cl ⟨f, c.at_, sumBy z.base (z.chs.take i)⟩ = ⟨f, c.at_, sumBy z.base (z.chs.take i)⟩ := if_neg (by unfold openT; show ¬ c.at_ = _; omega)
    rw [heq, e, List.map_cons, e2, hsum, List.append_assoc]
    rfl

theorem StrAt.last {z : Zone} {f : Int} {out : List Pc} (h : StrAt z z.chs.length f out) : af z.base z.chs f = sumBy z.base z.chs ∧ strs z = out ++ [⟨f, -1, sumBy z.base z.chs⟩] := by
  have h1 := h.ahd (by rw [List.drop_length]; intro c hc; cases hc)
  have h2 := h.eq
  rw [List.take_length] at h1 h2
  rw [List.drop_length] at h2
  exact ⟨h1, h2⟩

theorem c101 (z : Zone) (hz : checkZone z = 0) : SC (fun _ => Try.prog) 101 [zoneA z] [] fun v h => v = lst 3 encPc default (strs z) ∧ h = [] := by
  obtain ⟨nt, hnt⟩ := nth_ex
  obtain ⟨ha, hb, hl, h1, h2⟩ := asc_of hz
  have k97 := fun t => c97 z t hz
  have hst := str_start hz
  generalize hS : strs z = S at *
  refine SC.less (con Try.func101 (body := bodyOf Try.f101) rfl (by decide +kernel) ?_)
  unfold zoneA at *
  simp only [lst_nt hnt] at *
  (cbv; (try simp only [nc] at *); (try refine Chk.mk (okc) ?_))
  refine loopS false false [] [1, 3, 4, 5] [.tok 3 fun _ => 0] (fun (⟨i, f, out⟩ : Nat × Int × List Pc) => [(3, .isl 3 (fun _ => (out.length : Int)) (fun e => encPc (nt Pc default out (e ()))) (.own 1)), (4, .int .i64 fun _ => f), (5, .int .i64 fun _ => (i : Int))])
    (fun ⟨i, f, out⟩ => [(1, .tok 3 fun _ => (out.length : Int))]) (fun ⟨i, f, out⟩ => StrAt z i f out ∨ (i = z.chs.length + 1 ∧ out = S)) (fun i => z.chs.length + 1 - i.1 + 0) (0, 0, []) (.inl hst) ?_ ?_
  · (refine To.of [(3,false)] ?_; cbv; (try simp only [nc]); (repeat' (first | exact trivial | exact WkN.refl _ | exact WkB.refl _ | refine ⟨?_, ?_⟩ | refine WkB.cells ?_ | refine WkN.agg ?_ | refine WkN.tup ?_)); (all_goals (first | exact okt | skip)))
  rintro ⟨i, f, out⟩ hp
  have hp : StrAt z i f out ∨ (i = z.chs.length + 1 ∧ out = S) := hp
  have hol : out.length ≤ 100 ∨ out = S := by
    rcases hp with h | ⟨_, h⟩
    · have := h.len; have := h.le; omega
    · exact .inr h
  (cbv; (try simp only [nc] at *); (try refine Chk.mk (okc) ?_))
  refine ⟨fun hb1 => ?_, fun hb1 => ?_⟩
  · simp only [decide_eq_true_eq] at hb1
    have hs : StrAt z i f out := by
      rcases hp with h | ⟨h, _⟩
      · exact h
      · omega
    have hle := hs.le
    have hlen := hs.len
    have k97 := k97 f
    (cbv; (try simp only [nc] at *); (try refine Chk.mk (okc) ?_))
    refine ⟨fun hb2 => ?_, fun hb2 => ?_⟩
    · simp only [decide_eq_true_eq] at hb2
      have hil : i < z.chs.length := by omega
      have hst2 := hs.step hz hil (nt_drop (d := default) hnt hil) (nt_take (d := default) hnt hil)
      generalize hc : nt Chg default z.chs (i : Int) = c at *
      (cbv; try simp only [nc] at *)
      simp only [hc]
      refine Chk.mk (okc) ?_
      refine ⟨fun hb3 => ?_, fun hb3 => ?_⟩
      · have h0 : c.at_ ≠ 0 := by simpa using hb3
        obtain ⟨g1, g2⟩ := hst2.2 h0
        rw [g1] at k97
        generalize sumBy z.base (z.chs.take i) = A at *
        (cbv; (try simp only [nc] at *); (try refine Chk.mk (okc) ?_))
        refine call0 (k97) (by first | rfl | (simp only [zoneA, lst_nt hnt]; rfl)) fun r h₂ hp => ?_
        (try simp only [zoneA, lst_nt hnt] at hp)
        obtain ⟨rfl, rfl⟩ := hp
        (cbv; (try simp only [nc] at *); (try refine Chk.mk (okc) ?_))
        refine ⟨(i + 1, c.at_, out ++ [⟨f, c.at_, A⟩]), .inl g2, by show z.chs.length + 1 - (i + 1) + 0 < z.chs.length + 1 - i + 0; omega, ?_⟩
        (refine To.of [] ?_; cbv; (try simp only [nc]); (repeat' (first | exact trivial | exact WkN.refl _ | exact WkB.refl _ | refine ⟨?_, ?_⟩ | refine WkB.cells ?_ | refine WkN.agg ?_ | refine WkN.tup ?_)); (all_goals (first | exact okt | skip)))
      · have h0 : c.at_ = 0 := by simpa using hb3
        have g2 := hst2.1 h0
        (cbv; (try simp only [nc] at *); (try refine Chk.mk (okc) ?_))
        refine ⟨(i + 1, c.at_, out), .inl g2, by show z.chs.length + 1 - (i + 1) + 0 < z.chs.length + 1 - i + 0; omega, ?_⟩
        (refine To.of [] ?_; cbv; (try simp only [nc]); (repeat' (first | exact trivial | exact WkN.refl _ | exact WkB.refl _ | refine ⟨?_, ?_⟩ | refine WkB.cells ?_ | refine WkN.agg ?_ | refine WkN.tup ?_)); (all_goals (first | exact okt | skip)))
    · simp only [decide_eq_false_iff_not] at hb2
      have hie : i = z.chs.length := by omega
      obtain ⟨g1, g2⟩ := (hie ▸ hs : StrAt z z.chs.length f out).last
      rw [g1] at k97
      rw [hS] at g2
      generalize sumBy z.base z.chs = A at *
      (cbv; (try simp only [nc] at *); (try refine Chk.mk (okc) ?_))
      refine Br.isT rfl ?_
      (cbv; (try simp only [nc] at *); (try refine Chk.mk (okc) ?_))
      refine call0 (k97) (by first | rfl | (simp only [zoneA, lst_nt hnt]; rfl)) fun r h₂ hp => ?_
      (try simp only [zoneA, lst_nt hnt] at hp)
      obtain ⟨rfl, rfl⟩ := hp
      (cbv; (try simp only [nc] at *); (try refine Chk.mk (okc) ?_))
      refine ⟨(i + 1, -1, out ++ [⟨f, -1, A⟩]), .inr ⟨by rw [hie], g2.symm⟩, by show z.chs.length + 1 - (i + 1) + 0 < z.chs.length + 1 - i + 0; omega, ?_⟩
      (refine To.of [] ?_; cbv; (try simp only [nc]); (repeat' (first | exact trivial | exact WkN.refl _ | exact WkB.refl _ | refine ⟨?_, ?_⟩ | refine WkB.cells ?_ | refine WkN.agg ?_ | refine WkN.tup ?_)); (all_goals (first | exact okt | skip)))
  · simp only [decide_eq_false_iff_not] at hb1
    have ho : out = S := by
      rcases hp with h | ⟨_, h⟩
      · have := h.le; omega
      · exact h
    rw [← ho]
    (cbv; (try simp only [nc] at *); (try refine Chk.mk (okc) ?_))
    refine ⟨_, [], ?_, rfl, rfl⟩
    (refine To.of [] ?_; cbv; (try simp only [nc]); (repeat' (first | exact trivial | exact WkN.refl _ | exact WkB.refl _ | refine ⟨?_, ?_⟩ | refine WkB.cells ?_ | refine WkN.agg ?_ | refine WkN.tup ?_)); (all_goals (first | exact okt | skip)))

theorem c102 (p : Pc) (r : Int) (h1 : -100000000 ≤ p.ahd ∧ p.ahd ≤ 100000000) (h2 : -100000000 ≤ r ∧ r ≤ 100000000) : SC (fun _ => Try.prog) 102 [.agg (encPc p), .int .i64 fun _ => r] [] fun v h => v = .bool (fun _ => decide (p.fr ≤ r - p.ahd) && (decide (p.bef < 0) || decide (r - p.ahd < p.bef))) ∧ h = [] := by
  refine con Try.func102 (body := bodyOf Try.f102) rfl (by decide +kernel) ?_
  (cbv; try simp only [nc] at *)
  refine Chk.mk ?_ ?_
  · simp only [nc, allc0, allc1, allcE, allcI, Cn.p, and_true, true_and, decide_eq_true_eq, imp_self, List.length_cons, List.length_nil]
    exact ⟨⟨by omega, by omega⟩, fun h1 h2 => by rw [decide_eq_true h1, h2]; rfl⟩
  refine ⟨congrArg (fun y : Bool => AV.bool fun _ => y) ?_, trivial⟩
  cases decide (p.fr ≤ r - p.ahd) <;> cases decide (p.bef < 0) <;> rfl
end Go.Proofs.Ytlcgliadpalgfaa.Vm

/- Contracts: the reference's hours. -/
namespace Go.Proofs.Ytlcgliadpalgfaa.Vm
open Go Go.Proofs Sp
set_option maxRecDepth 100000
set_option maxHeartbeats 1600000

theorem cl_nt {nt : (α : Type) → α → List α → Int → α} (hnt : ∀ (α : Type) (d : α) (l : List α) (i : Int), nt α d l i = l.getD i.toNat d) {l : List Pc} {i : Nat} (hi : i < l.length) : nt Pc default (l.map cl) (i : Int) = cl (nt Pc default l (i : Int)) := by
  rw [hnt, hnt]
  simp [List.getD_eq_getElem?_getD, hi]
theorem cl_fr (p : Pc) : (cl p).fr = p.fr := by unfold cl; split <;> rfl
theorem cl_ahd (p : Pc) : (cl p).ahd = p.ahd := by unfold cl; split <;> rfl
theorem cl_has {p : Pc} {r : Int} (hb : 0 ≤ p.bef) (hr : r - p.ahd < openT) : (decide ((cl p).fr ≤ r - (cl p).ahd) && (decide ((cl p).bef < 0) || decide (r - (cl p).ahd < (cl p).bef))) = decide (p.fr ≤ r - p.ahd ∧ r - p.ahd < p.bef) := by
  rw [cl_fr, cl_ahd]
  unfold cl
  by_cases h : p.bef = openT
  · rw [if_pos h, h]
    by_cases h2 : p.fr ≤ r - p.ahd
    · simp [h2, hr]
    · simp [h2]
  · rw [if_neg h]
    by_cases h2 : p.fr ≤ r - p.ahd
    · simp [h2, show ¬ p.bef < 0 by omega]
    · simp [h2]

/-- Only the last piece is open. -/
theorem pcsGo_open : ∀ (l : List Chg) (fr a : Int), (∀ c ∈ l, c.at_ ≤ 43200) → ∀ i, i < (pcsGo fr a l).length → (((pcsGo fr a l).getD i default).bef = openT ↔ i + 1 = (pcsGo fr a l).length)
  | [], fr, a, _, i, hi => by
    have e : pcsGo fr a [] = [⟨fr, openT, a⟩] := rfl
    rw [e] at hi ⊢
    have : i = 0 := by simpa using hi
    subst this
    simp
  | c :: r, fr, a, h, i, hi => by
    have hc := h c (List.mem_cons_self ..)
    have ih := pcsGo_open r c.at_ (a + c.by_) (fun x hx => h x (List.mem_cons_of_mem _ hx))
    have hl := (pcsGo_len r c.at_ (a + c.by_)).1
    by_cases hlt : fr < c.at_
    · have e : pcsGo fr a (c :: r) = ⟨fr, c.at_, a⟩ :: pcsGo c.at_ (a + c.by_) r := if_pos hlt
      rw [e] at hi ⊢
      cases i with
      | zero =>
        simp only [List.getD_cons_zero, List.length_cons]
        unfold openT
        constructor <;> intro h <;> omega
      | succ i =>
        simp only [List.getD_cons_succ, List.length_cons]
        rw [ih i (by simpa using hi)]
        omega
    · have e : pcsGo fr a (c :: r) = pcsGo c.at_ (a + c.by_) r := if_neg hlt
      rw [e] at hi ⊢
      exact ih i hi

theorem hour_ok {z : Zone} {d m : Int} (h : checkHour z d m = 0) : checkZone z = 0 ∧ (-1 ≤ d ∧ d ≤ 31) ∧ 0 ≤ m ∧ m ≤ 1439 := by
  unfold checkHour at h
  split at h
  · rename_i h1; exact absurd h h1
  rename_i h1
  split at h
  · cases h
  rename_i h2
  simp only [Bool.or_eq_true, not_or, Bool.not_eq_true', Bool.not_eq_false] at h2
  exact ⟨Decidable.of_not_not h1, inB_ok h2.1, inB_ok h2.2⟩

theorem c55 (z : Zone) (d m : Int) (hlen : z.chs.length ≤ 1000) : SC (fun _ => Try.prog) 55 [zoneA z, .int .i64 fun _ => d, .int .i64 fun _ => m] [] fun v h => v = .tup [lst 1 encI 0 (When z d m).1, .int .i64 fun _ => (When z d m).2] ∧ h = [] := by
  obtain ⟨nt, hnt⟩ := nth_ex
  have k1 := c100 z d m hlen
  have k2 := fun h : checkHour z d m = 0 => c101 z (hour_ok h).1
  have k3 := fun h : checkHour z d m = 0 => (hour_ok h).2
  have k4 := fun h : checkHour z d m = 0 => pieces_bd (hour_ok h).1
  unfold When
  generalize checkHour z d m = C at *
  refine SC.less (conX false false [] Try.func55 (body := bodyOf Try.f55) rfl (by decide +kernel) ?_)
  unfold zoneA at *
  simp only [lst_nt hnt] at *
  (cbv; (try simp only [nc] at *); (try refine Chk.mk (okc) ?_))
  refine call0 (k1) (by first | rfl | (simp only [zoneA, lst_nt hnt]; rfl)) fun r h₂ hp => ?_
  (try simp only [zoneA, lst_nt hnt] at hp)
  obtain ⟨rfl, rfl⟩ := hp
  (cbv; (try simp only [nc] at *); (try refine Chk.mk (okc) ?_))
  refine ⟨fun h1 => ?_, fun h1 => ?_⟩
  · rw [if_pos (by simpa using h1)]
    (cbv; (try simp only [nc] at *); (try refine Chk.mk (okc) ?_))
    refine ⟨_, [], ?_, rfl, rfl⟩
    (refine To.of [] ?_; cbv; (try simp only [nc]); (repeat' (first | exact trivial | exact WkN.refl _ | exact WkB.refl _ | refine ⟨?_, ?_⟩ | refine WkB.cells ?_ | refine WkN.agg ?_ | refine WkN.tup ?_)); (all_goals (first | exact okt | skip)))
  have h1 : C = 0 := by simpa using h1
  have k2 := k2 h1
  have k3 := k3 h1
  have k4 := k4 h1
  rw [if_neg (fun h => h h1)]
  unfold strs at k2
  generalize pieces z = L at *
  have hLl : (L.map cl).length = L.length := List.length_map ..
  obtain ⟨k4, k5⟩ := k4
  generalize hW : when L (1440 * d + m) = W at *
  (cbv; (try simp only [nc] at *); (try refine Chk.mk (okc) ?_))
  refine call0 (k2) (by first | rfl | (simp only [zoneA, lst_nt hnt]; rfl)) fun r h₂ hp => ?_
  (try simp only [zoneA, lst_nt hnt] at hp)
  obtain ⟨rfl, rfl⟩ := hp
  (cbv; (try simp only [nc] at *); (try refine Chk.mk (okc) ?_))
  refine loopS false false [] [9, 10, 11, 12] [.tok 1 fun _ => 0] (fun (⟨i, out⟩ : Nat × List Int) => [(9, .isl 1 (fun _ => (out.length : Int)) (fun e => encI (nt Int 0 out (e ()))) (.own 1)), (12, .int .i64 fun _ => (i : Int))]) (fun ⟨i, out⟩ => [(1, .tok 1 fun _ => (out.length : Int))]) (fun ⟨i, out⟩ => i ≤ L.length ∧ out.length ≤ i ∧ out ++ when (L.drop i) (1440 * d + m) = W) (fun i => L.length - i.1 + 0) (0, []) ⟨Nat.zero_le _, Nat.le_refl _, by simpa using hW⟩ ?_ ?_
  · (refine To.of [(1,false)] ?_; cbv; (try simp only [nc]); (repeat' (first | exact trivial | exact WkN.refl _ | exact WkB.refl _ | refine ⟨?_, ?_⟩ | refine WkB.cells ?_ | refine WkN.agg ?_ | refine WkN.tup ?_)); (all_goals (first | exact okt | skip)))
  rintro ⟨i, out⟩ ⟨hi, ho, hp⟩
  have hi : i ≤ L.length := hi
  have ho : out.length ≤ i := ho
  have hp : out ++ when (L.drop i) (1440 * d + m) = W := hp
  (cbv; (try simp only [nc] at *); (try refine Chk.mk (okc) ?_))
  refine ⟨fun hb1 => ?_, fun hb1 => ?_⟩
  · simp only [decide_eq_true_eq] at hb1
    have hil : i < L.length := by omega
    have hq := k5 _ (nt_mem (d := default) hnt (l := L) (i := i) hil)
    rw [nt_drop (d := default) hnt hil] at hp
    have hcl := cl_nt hnt (l := L) hil
    generalize nt Pc default L (i : Int) = p at *
    have hah := cl_ahd p
    have k102 := c102 (cl p) (1440 * d + m) (by omega) (by omega)
    rw [cl_has hq.2.2.1 (by unfold openT; omega)] at k102
    generalize cl p = q at *
    (cbv; try simp only [nc] at *)
    simp only [hcl]
    refine Chk.mk (okc) ?_
    refine call0 (k102) (by first | rfl | (simp only [zoneA, lst_nt hnt]; rfl)) fun r h₂ hp => ?_
    (try simp only [zoneA, lst_nt hnt] at hp)
    obtain ⟨rfl, rfl⟩ := hp
    (cbv; (try simp only [nc] at *); (try refine Chk.mk (okc) ?_))
    refine ⟨fun hb2 => ?_, fun hb2 => ?_⟩
    · have hb2' := of_decide_eq_true hb2
      have hw : when (p :: L.drop (i + 1)) (1440 * d + m) = (1440 * d + m - p.ahd) :: when (L.drop (i + 1)) (1440 * d + m) := if_pos hb2'
      rw [hw] at hp
      (cbv; try simp only [nc] at *)
      simp only [hcl, hah]
      refine Chk.mk (okc) ?_
      refine ⟨(i + 1, out ++ [1440 * d + m - p.ahd]), ⟨by show i + 1 ≤ L.length; omega, by show (out ++ [_]).length ≤ i + 1; rw [List.length_append]; simp only [List.length_cons, List.length_nil]; omega, by show (out ++ [1440 * d + m - p.ahd]) ++ _ = W; rw [List.append_assoc]; exact hp⟩, by show L.length - (i + 1) + 0 < L.length - i + 0; omega, ?_⟩
      (refine To.of [] ?_; cbv; (try simp only [nc]); (repeat' (first | exact trivial | exact WkN.refl _ | exact WkB.refl _ | refine ⟨?_, ?_⟩ | refine WkB.cells ?_ | refine WkN.agg ?_ | refine WkN.tup ?_)); (all_goals (first | exact okt | skip)))
    · have hb2' := of_decide_eq_false hb2
      have hw : when (p :: L.drop (i + 1)) (1440 * d + m) = when (L.drop (i + 1)) (1440 * d + m) := if_neg hb2'
      rw [hw] at hp
      (cbv; (try simp only [nc] at *); (try refine Chk.mk (okc) ?_))
      refine ⟨(i + 1, out), ⟨by show i + 1 ≤ L.length; omega, by show out.length ≤ i + 1; omega, hp⟩, by show L.length - (i + 1) + 0 < L.length - i + 0; omega, ?_⟩
      (refine To.of [] ?_; cbv; (try simp only [nc]); (repeat' (first | exact trivial | exact WkN.refl _ | exact WkB.refl _ | refine ⟨?_, ?_⟩ | refine WkB.cells ?_ | refine WkN.agg ?_ | refine WkN.tup ?_)); (all_goals (first | exact okt | skip)))
  · have hie : L.length ≤ i := by simp only [decide_eq_false_iff_not] at hb1; omega
    rw [List.drop_eq_nil_of_le hie] at hp
    have hp : out = W := by simpa [when] using hp
    rw [← hp]
    (cbv; (try simp only [nc] at *); (try refine Chk.mk (okc) ?_))
    refine ⟨_, [], ?_, rfl, rfl⟩
    (refine To.of [] ?_; cbv; (try simp only [nc]); (repeat' (first | exact trivial | exact WkN.refl _ | exact WkB.refl _ | refine ⟨?_, ?_⟩ | refine WkB.cells ?_ | refine WkN.agg ?_ | refine WkN.tup ?_)); (all_goals (first | exact okt | skip)))

theorem c103 (z : Zone) (r a : Int) (hz : checkZone z = 0) (hr : -1000000 ≤ r ∧ r ≤ 1000000) (ha : 0 ≤ a ∧ a < openT) : SC (fun _ => Try.prog) 103 [zoneA z, .int .i64 fun _ => r, .int .i64 fun _ => a] [] fun v h => v = .int .i64 (fun _ => hour (pieces z) r a) ∧ h = [] := by
  obtain ⟨nt, hnt⟩ := nth_ex
  have k2 := c101 z hz
  obtain ⟨k4, k5⟩ := pieces_bd hz
  have hop := pcsGo_open z.chs 0 z.base (fun c hc => ((asc_of hz).2.1 c hc).2.1)
  have hl1 := (pcsGo_len z.chs 0 z.base).1
  change ∀ i, i < (pieces z).length → (((pieces z).getD i default).bef = openT ↔ i + 1 = (pieces z).length) at hop
  change 1 ≤ (pieces z).length at hl1
  unfold openT at *
  refine con Try.func103 (body := bodyOf Try.f103) rfl (by decide +kernel) ?_
  unfold zoneA at *
  simp only [lst_nt hnt] at *
  unfold strs at k2
  generalize pieces z = L at *
  have hLl : (L.map cl).length = L.length := List.length_map ..
  generalize hW : hour L r a = W at *
  (cbv; (try simp only [nc] at *); (try refine Chk.mk (okc) ?_))
  refine call0 (k2) (by first | rfl | (simp only [zoneA, lst_nt hnt]; rfl)) fun r h₂ hp => ?_
  (try simp only [zoneA, lst_nt hnt] at hp)
  obtain ⟨rfl, rfl⟩ := hp
  (cbv; (try simp only [nc] at *); (try refine Chk.mk (okc) ?_))
  refine loopS false false [] [1, 2, 7, 8] [] (fun (i : Nat) => [(8, .int .i64 fun _ => (i : Int))]) (fun _ => []) (fun i => i < L.length ∧ hour (L.drop i) r a = W) (fun i => L.length - i + 0) 0 ⟨by omega, by simpa using hW⟩ ?_ ?_
  · (refine To.of [] ?_; cbv; (try simp only [nc]); (repeat' (first | exact trivial | exact WkN.refl _ | exact WkB.refl _ | refine ⟨?_, ?_⟩ | refine WkB.cells ?_ | refine WkN.agg ?_ | refine WkN.tup ?_)); (all_goals (first | exact okt | skip)))
  intro i hpp
  have hi : i < L.length := hpp.1
  have hp : hour (L.drop i) r a = W := hpp.2
  clear hpp
  have hq := k5 _ (nt_mem (d := default) hnt (l := L) (i := i) hi)
  have hopi := hop i hi
  have e1 : L.getD i default = nt Pc default L (i : Int) := by rw [hnt]; rfl
  rw [e1] at hopi
  rw [nt_drop (d := default) hnt hi, hour] at hp
  have hcl := cl_nt hnt (l := L) hi
  generalize nt Pc default L (i : Int) = p at *
  have hah := cl_ahd p
  have hfr := cl_fr p
  have hbe : (cl p).bef = if p.bef = 1099511627776 then -1 else p.bef := by
    unfold cl openT
    split <;> rfl
  generalize cl p = q at *
  have hmx : (if (if q.fr < a then a else q.fr) < r - q.ahd then r - q.ahd else (if q.fr < a then a else q.fr)) = max p.fr (max a (r - p.ahd)) := by
    rw [hfr, hah]
    split <;> split <;> omega
  have hmb : 0 ≤ max p.fr (max a (r - p.ahd)) ∧ max p.fr (max a (r - p.ahd)) < 1099511627776 := by omega
  (cbv; try simp only [nc] at *)
  simp only [hcl]
  refine Chk.mk (okc) ?_
  simp only [hmx]
  generalize max p.fr (max a (r - p.ahd)) = M at *
  refine ⟨fun hb2 => ?_, fun hb2 => ?_⟩
  · have hc : M < p.bef := by
      by_cases h : p.bef = 1099511627776
      · omega
      · rw [if_neg h] at hbe
        rw [hbe, decide_eq_false (by omega)] at hb2
        simpa using hb2
    rw [if_pos hc] at hp
    rw [← hp]
    (cbv; (try simp only [nc] at *); (try refine Chk.mk (okc) ?_))
    (try first | exact ⟨rfl, trivial⟩ | exact ⟨trivial, trivial⟩)
  · have hc : ¬ M < p.bef := by
      intro h'
      by_cases h : p.bef = 1099511627776
      · rw [if_pos h] at hbe
        rw [hbe] at hb2
        simp at hb2
      · rw [if_neg h] at hbe
        rw [hbe, decide_eq_false (by omega), decide_eq_true h'] at hb2
        cases hb2
    rw [if_neg hc] at hp
    have hi2 : i + 1 < L.length := by
      rcases Nat.lt_or_ge (i + 1) L.length with h | h
      · exact h
      · have := hopi.2 (by omega); omega
    (cbv; (try simp only [nc] at *); (try refine Chk.mk (okc) ?_))
    refine ⟨i + 1, ⟨hi2, hp⟩, by show L.length - (i + 1) + 0 < L.length - i + 0; omega, ?_⟩
    (refine To.of [] ?_; cbv; (try simp only [nc]); (repeat' (first | exact trivial | exact WkN.refl _ | exact WkB.refl _ | refine ⟨?_, ?_⟩ | refine WkB.cells ?_ | refine WkN.agg ?_ | refine WkN.tup ?_)); (all_goals (first | exact okt | skip)))

theorem c56 (z : Zone) (d m a : Int) (hlen : z.chs.length ≤ 1000) : SC (fun _ => Try.prog) 56 [zoneA z, .int .i64 fun _ => d, .int .i64 fun _ => m, .int .i64 fun _ => a] [] fun v h => v = .tup [.int .i64 fun _ => (Hour z d m a).1, .int .i64 fun _ => (Hour z d m a).2] ∧ h = [] := by
  obtain ⟨nt, hnt⟩ := nth_ex
  have k1 := c100 z d m hlen
  have k2 := c72 a 0 43200
  have k3 := fun h : checkHour z d m = 0 => (hour_ok h).2
  have k4 := fun (h : checkHour z d m = 0) hr ha => c103 z (1440 * d + m) a (hour_ok h).1 hr ha
  unfold Hour
  generalize checkHour z d m = C at *
  refine con Try.func56 (body := bodyOf Try.f56) rfl (by decide +kernel) ?_
  unfold zoneA at *
  simp only [lst_nt hnt] at *
  (cbv; (try simp only [nc] at *); (try refine Chk.mk (okc) ?_))
  refine call0 (k1) (by first | rfl | (simp only [zoneA, lst_nt hnt]; rfl)) fun r h₂ hp => ?_
  (try simp only [zoneA, lst_nt hnt] at hp)
  obtain ⟨rfl, rfl⟩ := hp
  (cbv; (try simp only [nc] at *); (try refine Chk.mk (okc) ?_))
  refine ⟨fun h1 => ?_, fun h1 => ?_⟩
  · rw [if_pos (by simpa using h1)]
    (cbv; (try simp only [nc] at *); (try refine Chk.mk (okc) ?_))
    (try first | exact ⟨rfl, trivial⟩ | exact ⟨trivial, trivial⟩)
  have h1 : C = 0 := by simpa using h1
  have k3 := k3 h1
  rw [if_neg (fun h => h h1)]
  (cbv; (try simp only [nc] at *); (try refine Chk.mk (okc) ?_))
  refine call0 (k2) (by first | rfl | (simp only [zoneA, lst_nt hnt]; rfl)) fun r h₂ hp => ?_
  (try simp only [zoneA, lst_nt hnt] at hp)
  obtain ⟨rfl, rfl⟩ := hp
  (cbv; (try simp only [nc] at *); (try refine Chk.mk (okc) ?_))
  refine ⟨fun h2 => ?_, fun h2 => ?_⟩
  · rw [if_pos h2]
    (cbv; (try simp only [nc] at *); (try refine Chk.mk (okc) ?_))
    (try first | exact ⟨rfl, trivial⟩ | exact ⟨trivial, trivial⟩)
  have ha := inB_ok (by simpa using h2 : inB a 0 43200 = true)
  rw [if_neg (by rw [h2]; exact Bool.false_ne_true)]
  have k4 := k4 h1 (by omega) (by unfold openT; omega)
  generalize hour (pieces z) (1440 * d + m) a = W at *
  (cbv; (try simp only [nc] at *); (try refine Chk.mk (okc) ?_))
  refine call0 (k4) (by first | rfl | (simp only [zoneA, lst_nt hnt]; rfl)) fun r h₂ hp => ?_
  (try simp only [zoneA, lst_nt hnt] at hp)
  obtain ⟨rfl, rfl⟩ := hp
  (cbv; (try simp only [nc] at *); (try refine Chk.mk (okc) ?_))
  (try first | exact ⟨rfl, trivial⟩ | exact ⟨trivial, trivial⟩)
end Go.Proofs.Ytlcgliadpalgfaa.Vm

/- Contracts: copies of zones. -/
namespace Go.Proofs.Ytlcgliadpalgfaa.Vm
open Go Go.Proofs Sp
set_option maxRecDepth 100000
set_option maxHeartbeats 1600000

/-- A copy of a zone: with room behind its changes. -/
def zoneR (z : Zone) (id : Nat) : AV := .agg [.int .i64 fun _ => z.base, .isl 2 (fun _ => (z.chs.length : Int)) (lstR encChg default z.chs) (.own id)]
theorem c30 (z : Zone) (hlen : z.chs.length ≤ 1000000) : SC (fun _ => Try.prog) 30 [zoneA z] [] fun v h => v = zoneR z 0 ∧ h = [.tok 2 fun _ => (z.chs.length : Int)] := by
  obtain ⟨nt, hnt⟩ := nth_ex
  refine SC.less (conX true false [] Try.func30 (body := bodyOf Try.f30) rfl (by decide +kernel) ?_)
  unfold zoneA zoneR
  simp only [lst_nt hnt, lstR_nt hnt]
  (cbv; (try simp only [nc] at *); (try refine Chk.mk (okc) ?_))
  refine ⟨_, _, ?_, rfl, rfl⟩
  (refine To.of [] ?_; cbv; (try simp only [nc]); (repeat' (first | exact trivial | exact WkN.refl _ | exact WkB.refl _ | refine ⟨?_, ?_⟩ | refine WkB.cells ?_ | refine WkN.agg ?_ | refine WkN.tup ?_)); (all_goals (first | exact okt | skip)))
  · refine .isl (by simp) fun i hi => ?_
    show (if ((i : Nat) : Int) < (([] : List Chg).length : Int) then _ else _) = _
    rw [if_neg (by simp)]
    simp

theorem c36 (z : Zone) (hlen : z.chs.length ≤ 1000000) : SC (fun _ => Try.prog) 36 [zoneA z, zoneA z] [] fun v h => v = .bool (fun _ => true) ∧ h = [] := by
  obtain ⟨nt, hnt⟩ := nth_ex
  refine con Try.func36 (body := bodyOf Try.f36) rfl (by decide +kernel) ?_
  unfold zoneA
  simp only [lst_nt hnt]
  (cbv; (try simp only [nc] at *); (try refine Chk.mk (okc) ?_))
  refine Br.isF (by simp) ?_
  (cbv; (try simp only [nc] at *); (try refine Chk.mk (okc) ?_))
  refine loopS false false [] [2, 3, 5] [] (fun (i : Nat) => [(5, .int .i64 fun _ => (i : Int))]) (fun _ => []) (fun i => i ≤ z.chs.length) (fun i => z.chs.length - i + 0) 0 (Nat.zero_le _) ?_ ?_
  · (refine To.of [] ?_; cbv; (try simp only [nc]); (repeat' (first | exact trivial | exact WkN.refl _ | exact WkB.refl _ | refine ⟨?_, ?_⟩ | refine WkB.cells ?_ | refine WkN.agg ?_ | refine WkN.tup ?_)); (all_goals (first | exact okt | skip)))
  intro i hi
  (cbv; (try simp only [nc] at *); (try refine Chk.mk (okc) ?_))
  refine ⟨fun hb => ?_, fun hb => ?_⟩
  · simp only [decide_eq_true_eq] at hb
    (cbv; (try simp only [nc] at *); (try refine Chk.mk (okc) ?_))
    refine Br.isF (by simp) ?_
    (cbv; (try simp only [nc] at *); (try refine Chk.mk (okc) ?_))
    refine ⟨i + 1, by omega, by omega, ?_⟩
    (refine To.of [] ?_; cbv; (try simp only [nc]); (repeat' (first | exact trivial | exact WkN.refl _ | exact WkB.refl _ | refine ⟨?_, ?_⟩ | refine WkB.cells ?_ | refine WkN.agg ?_ | refine WkN.tup ?_)); (all_goals (first | exact okt | skip)))
  · (cbv; (try simp only [nc] at *); (try refine Chk.mk (okc) ?_))
    (try first | exact ⟨rfl, trivial⟩ | exact ⟨trivial, trivial⟩)

theorem c35 (l : List Span) (hlen : l.length ≤ 100000) : SC (fun _ => Try.prog) 35 [lst 2 encSpan default l, lst 2 encSpan default l] [] fun v h => v = .bool (fun _ => true) ∧ h = [] := by
  obtain ⟨nt, hnt⟩ := nth_ex
  refine con Try.func35 (body := bodyOf Try.f35) rfl (by decide +kernel) ?_
  simp only [lst_nt hnt]
  (cbv; (try simp only [nc] at *); (try refine Chk.mk (okc) ?_))
  refine Br.isF (by simp) ?_
  (cbv; (try simp only [nc] at *); (try refine Chk.mk (okc) ?_))
  refine loopS false false [] [0, 1, 5] [] (fun (i : Nat) => [(5, .int .i64 fun _ => (i : Int))]) (fun _ => []) (fun i => i ≤ l.length) (fun i => l.length - i + 0) 0 (Nat.zero_le _) ?_ ?_
  · (refine To.of [] ?_; cbv; (try simp only [nc]); (repeat' (first | exact trivial | exact WkN.refl _ | exact WkB.refl _ | refine ⟨?_, ?_⟩ | refine WkB.cells ?_ | refine WkN.agg ?_ | refine WkN.tup ?_)); (all_goals (first | exact okt | skip)))
  intro i hi
  (cbv; (try simp only [nc] at *); (try refine Chk.mk (okc) ?_))
  refine ⟨fun hb => ?_, fun hb => ?_⟩
  · simp only [decide_eq_true_eq] at hb
    (cbv; (try simp only [nc] at *); (try refine Chk.mk (okc) ?_))
    refine Br.isF (by simp) ?_
    (cbv; (try simp only [nc] at *); (try refine Chk.mk (okc) ?_))
    refine ⟨i + 1, by omega, by omega, ?_⟩
    (refine To.of [] ?_; cbv; (try simp only [nc]); (repeat' (first | exact trivial | exact WkN.refl _ | exact WkB.refl _ | refine ⟨?_, ?_⟩ | refine WkB.cells ?_ | refine WkN.agg ?_ | refine WkN.tup ?_)); (all_goals (first | exact okt | skip)))
  · (cbv; (try simp only [nc] at *); (try refine Chk.mk (okc) ?_))
    (try first | exact ⟨rfl, trivial⟩ | exact ⟨trivial, trivial⟩)
end Go.Proofs.Ytlcgliadpalgfaa.Vm

/- The abstract machine: slices of which the elements are told with less. -/
namespace Go.Proofs.Ytlcgliadpalgfaa.Vm
open Go Go.Proofs Sp

/-- Rows of which the second tell less. -/
def RowLe (r r' : List AV) : Prop := r'.length = r.length ∧ ∀ (j : Nat) (c' : AV), r'[j]? = some c' → ∃ c, r[j]? = some c ∧ ∀ w ok v, PR w ok c v → PR w ok c' v
theorem RowLe.refl (r : List AV) : RowLe r r := ⟨rfl, fun j c h => ⟨c, h, fun _ _ _ h => h⟩⟩
theorem RowLe.two {a b b' : AV} (h : ∀ w ok v, PR w ok b v → PR w ok b' v) : RowLe [a, b] [a, b'] := ⟨rfl, fun j c hj => by
  match j with
  | 0 => simp only [List.getElem?_cons_zero, Option.some.injEq] at hj; subst hj; exact ⟨_, rfl, fun _ _ _ h => h⟩
  | 1 => simp only [List.getElem?_cons_succ, List.getElem?_cons_zero, Option.some.injEq] at hj; subst hj; exact ⟨_, rfl, h⟩
  | j + 2 => simp at hj⟩
theorem PR.elems {w : World} {ok : Nat → Nat → Nat → Prop} {s : Nat} {m m' : Unit → Int} {f f' : (Unit → Int) → List AV} {v : Value} (hm : m () = m' ()) (hf : ∀ i : Nat, (i : Int) < m () → RowLe (f fun _ => (i : Int)) (f' fun _ => (i : Int))) (hv : PR w ok (.isl s m f .none) v) : PR w ok (.isl s m' f' .none) v := by
  cases hv with
  | isl0 _ _ _ _ hz h1 => exact .isl0 _ _ _ _ (by omega) (fun id e => by cases e)
  | islE _ _ _ _ a hz h1 => exact .islE _ _ _ _ a (by omega) (.inl rfl)
  | isl _ _ _ _ b o len cap us hn hc h1 he hl h2 h3 h4 =>
    refine .isl _ _ _ _ b o len cap us (by omega) hc (.inl rfl) (fun e => by cases e) (fun i hi => ?_) (fun i j c hi hj => ?_) (fun i j c hi hj => ?_) h4
    · rw [(hf i (by omega)).1]; exact hl i hi
    · obtain ⟨c0, g1, _⟩ := (hf i (by omega)).2 j c hj
      exact h2 i j c0 hi g1
    · obtain ⟨c0, g1, g2⟩ := (hf i (by omega)).2 j c hj
      exact g2 _ _ _ (h3 i j c0 hi g1)
theorem WkN.elemsO {n k s id : Nat} {m m' : Unit → Int} {f f' : (Unit → Int) → List AV} (hm : m () = m' ()) (hf : ∀ i : Nat, (i : Int) < m () → RowLe (f fun _ => (i : Int)) (f' fun _ => (i : Int))) : WkN n k (.isl s m f (.own id)) (.isl s m' f' (.own id)) := ⟨fun R v _ hv => by
  cases hv with
  | pure _ _ hp =>
    cases hp with
    | isl0 _ _ _ _ hz h1 => exact absurd rfl (h1 id)
    | islE _ _ _ _ _ _ h1 => rcases h1 with h | h <;> cases h
    | isl _ _ _ _ b o len cap us hn hc h1 => rcases h1 with h | h <;> cases h
  | own _ _ _ id _ h1 h2 h3 h4 => exact .own _ _ _ id v h1 (h2.elems hm hf) (by omega) (fun e => h4 (by omega))⟩
theorem RowLe.three {a b c c' : AV} (h : ∀ w ok v, PR w ok c v → PR w ok c' v) : RowLe [a, b, c] [a, b, c'] := ⟨rfl, fun j d hj => by
  match j with
  | 0 => simp only [List.getElem?_cons_zero, Option.some.injEq] at hj; subst hj; exact ⟨_, rfl, fun _ _ _ h => h⟩
  | 1 => simp only [List.getElem?_cons_succ, List.getElem?_cons_zero, Option.some.injEq] at hj; subst hj; exact ⟨_, rfl, fun _ _ _ h => h⟩
  | 2 => simp only [List.getElem?_cons_succ, List.getElem?_cons_zero, Option.some.injEq] at hj; subst hj; exact ⟨_, rfl, h⟩
  | j + 3 => simp at hj⟩
/-- One more element, of which less is told. -/
theorem WkN.snocO {nt : (α : Type) → α → List α → Int → α} (hnt : ∀ (α : Type) (d : α) (l : List α) (i : Int), nt α d l i = l.getD i.toNat d) {α : Type} {n k s id : Nat} {enc : α → List AV} {d x : α} {l : List α} {n0 m m' : Unit → Int} {g : (Unit → Int) → List AV} (h0 : n0 () = (l.length : Int)) (hm : m () = (l.length : Int) + 1) (hm' : m' () = (l.length : Int) + 1) (hg : RowLe (g (fun _ => 0)) (enc x)) :
    WkN n k (.isl s m (snocF n0 (fun e => enc (nt α d l (e ()))) g) (.own id)) (.isl s m' (fun e => enc (nt α d (l ++ [x]) (e ()))) (.own id)) := .elemsO (by omega) fun i hi => by
  have hi : i < l.length + 1 := by omega
  by_cases h : i < l.length
  · rw [snocF_lt h0 h]
    simp only [hnt, Int.toNat_natCast, List.getD_eq_getElem?_getD, List.getElem?_append_left h]
    exact .refl _
  · obtain rfl : i = l.length := by omega
    rw [snocF_ge h0 (Nat.le_refl _)]
    simpa [hnt] using hg
/-- What is appended to nothing. -/
theorem nil_app {w : World} {ok : Nat → Nat → Nat → Prop} {s : Nat} {m m' n0 : Unit → Int} {f0 f f' : (Unit → Int) → List AV} {v : Value} (h0 : n0 () = 0) (hm : m () = m' ()) (hf : ∀ i : Nat, (i : Int) < m () → f (fun _ => (i : Int)) = f' (fun _ => (i : Int))) (h : PR w ok (.isl s m (snocF n0 f0 f) .none) v) : PR w ok (.isl s m' f' .none) v :=
  h.elems hm fun i hi => by
    rw [snocF_ge (len := 0) h0 (Nat.zero_le _), Nat.sub_zero, ← hf i hi]
    exact .refl _
theorem WkN.elems {n k s : Nat} {m m' : Unit → Int} {f f' : (Unit → Int) → List AV} {tk : Tk} (hm : m () = m' ()) (hf : ∀ i : Nat, (i : Int) < m () → RowLe (f fun _ => (i : Int)) (f' fun _ => (i : Int))) : WkN n k (.isl s m f tk) (.isl s m' f' .none) := ⟨fun R v _ hv => .pure _ _ (hv.isl_inv.elems hm hf)⟩
theorem lit_el {nt : (α : Type) → α → List α → Int → α} (hnt : ∀ (α : Type) (d : α) (l : List α) (i : Int), nt α d l i = l.getD i.toNat d) {α : Type} {n k sz : Nat} (enc : α → List AV) (d : α) (l : List α) (rows : List (List AV)) (hl : rows.length = l.length) (hr : ∀ i, i < l.length → RowLe (rows.getD i (rows.headD [])) (enc (l.getD i d))) :
    WkN n k (.isl sz (fun _ => (rows.length : Int)) (fun e => rows.getD (e ()).toNat (rows.headD [])) .exact) (.isl sz (fun _ => (l.length : Int)) (fun e => enc (nt α d l (e ()))) .none) :=
  .elems (by simp [hl]) fun i hi => by
    have hi : i < l.length := by have : (i : Int) < (rows.length : Int) := hi; omega
    simp only [hnt, Int.toNat_natCast]
    exact hr i hi

theorem snoc_pr {nt : (α : Type) → α → List α → Int → α} (hnt : ∀ (α : Type) (d : α) (l : List α) (i : Int), nt α d l i = l.getD i.toNat d) {α : Type} {s : Nat} {enc : α → List AV} {d x : α} {l : List α} {n0 m' : Unit → Int} {g : (Unit → Int) → List AV} {tk : Tk} (h0 : n0 () = (l.length : Int)) (hm : m' () = (l.length : Int) + 1) (hg : g (fun _ => 0) = enc x) (w : World) (ok : Nat → Nat → Nat → Prop) (v : Value) (h : PR w ok (.isl s m' (snocF n0 (fun e => enc (nt α d l (e ()))) g) tk) v) :
    PR w ok (.isl s (fun _ => ((l ++ [x]).length : Int)) (fun e => enc (nt α d (l ++ [x]) (e ()))) .none) v := by
  rw [← lst_nt hnt]
  refine h.wk (by simp [hm]) (fun i hi => ?_) (.inl rfl)
  have hi : i < l.length + 1 := by omega
  unfold lstR
  simp only [Int.toNat_natCast]
  by_cases h : i < l.length
  · rw [snocF_lt h0 h]
    simp only [hnt, Int.toNat_natCast, List.getD_eq_getElem?_getD, List.getElem?_append_left h]
  · obtain rfl : i = l.length := by omega
    rw [snocF_ge h0 (Nat.le_refl _)]
    simp [hg]
end Go.Proofs.Ytlcgliadpalgfaa.Vm

/- The abstract machine: the rounds of a range over a function, in direct style. -/
namespace Go.Proofs.Ytlcgliadpalgfaa.Vm
open Go Go.Proofs
section
variable {T : Tb} {p : Unit → Program} {P : Program}
theorem YC.ofG (hT : T.Of (p ())) (hm : (p ()).follows .mixedOrders = true) (hrd : T.rd = true) {id : Nat} {xs : List AV} {h : List Blk} {Post : AV → List Blk → Prop} {s : List AV} {d : LoopD} {n m : Nat} {D : List AV → List Blk → Prop} (hD : ∀ s h₂, D s h₂ → W T p (endK h.length id Post) m [.code d.x] s h₂ []) (hi : h[id]? = some (.loop s d)) (hlen : xs.length = d.ps.size)
    (hW : W T p (begK D id) n [.code d.a] (putPs d.ps.toList xs s) h []) (hz : zOk h = true := by rfl) : YC p id xs h Post := by
  have hKe : ∀ e s h' c, endK h.length id Post e s h' c → allc c := fun e s h' c hk => by cases e <;> exact (chk_ok hk).1
  have hKb : ∀ e s h' c, begK D id e s h' c → allc c := fun e s h' c hk => by
    cases e with
    | normal => exact (chk_ok hk).1
    | _ => exact hk.elim
  refine YC.ofN hz fun G R vs H hn0 ha => ?_
  obtain ⟨ha1, ha2⟩ := ha
  obtain ⟨l, b1, b2, b3, b4, b5, b6, b7, _⟩ := H.loopSet hi
  have hid : id < R.m := H.len ▸ (List.getElem?_eq_some_iff.1 hi).1
  have hsz : vs.size = l.params.size := by rw [b2, ← hlen, ha1]
  refine ⟨_, _, _, _, run_yield b1 hsz, fun c cs => ?_⟩
  let b : FBr T.rd := ⟨⟨l.fn, .normal, some (R.α id).b⟩, fun hf => by rw [hrd] at hf; cases hf⟩
  have hsl : SL R (putPs d.ps.toList xs s) ((l.params.zip vs).foldl (fun tmps (t, a) => tmps.setIfInBounds t a) l.tmps) := by
    rw [← Array.foldl_toList, Array.toList_zip, b2]
    exact putPs_ok _ _ _ (by rw [ha1]; simp) (fun j c hj => by
      have := ha2 j c hj
      rw [Array.getD_eq_getD_getElem?] at this
      rw [List.getD_eq_getElem?_getD, Array.getElem?_toList]
      exact this) b7
  obtain ⟨e, s1, h1, R1, t1, ds1, ⟨c1, hk1⟩, i1, x1, l1, sl1, d1, eq1, A1⟩ := (W_ok (R₀ := R) (h₀ := h) hT hm hKb n _ _ h [] hW).2 R _ (Inv.refl H (by rw [hn0]; exact Nat.le_refl _)) hsl b [] [.beginRound, .code d.x] (c :: cs) ⟨[], rfl, List.nodup_nil, fun r hr => by cases hr⟩
  cases e with
  | exit _ => exact hk1.elim
  | ret => exact hk1.elim
  | normal =>
  have eq1 := eq1 (by simp [b])
  subst eq1
  obtain ⟨_, hk1⟩ := chk_ok hk1
  split at hk1
  case h_2 => exact hk1.elim
  rename_i s2 d2 hi1
  obtain ⟨l2, e1, e2, e3, e4, e5, e6, e7, e8⟩ := i1.hr.loopSet hi1
  have hα1 : R1.α id = R.α id := x1.α id hid
  split at hk1
  case h_2 => exact hk1.elim
  rename_i hst
  obtain ⟨R2, w2, α2, H2, x2, l2le⟩ := e8 .busy d2.pe
  have hbeg : (Instr.beginRound (R.α id).b).run (p ()) R1.w = .ok () R2.w := by
    rw [w2, ← hα1, ← e6]
    exact run_beginRound e1 (e5.trans hst)
  have i2 : Inv R h R2 (h1.set id (.loop s2 { d2 with st := .busy })) := i1.step H2 x2 l2le
  obtain ⟨e, s3, h3, R3, t3, ds3, ⟨c3, hk3⟩, i3, x3, l3, sl3, d3, eq3, A3⟩ := (W_ok (R₀ := R) (h₀ := h) hT hm hKe m _ _ _ [] (hD _ _ hk1)).2 R2 _ i2 (sl1.mono l2le) b [] [] (c :: cs) (d1.ext i1.hr x2)
  have st1 : Steps (p ()) (lone (Frame.round (R.α id).b l.fn ((l.params.zip vs).foldl (fun tmps (t, a) => tmps.setIfInBounds t a) l.tmps) l.assign l.body .normal) (c :: cs) R.w) (lone (mkF b.1 t1 [] [.code d.x]) (c :: cs) R2.w) := by
    have hfr : Frame.round (R.α id).b l.fn ((l.params.zip vs).foldl (fun tmps (t, a) => tmps.setIfInBounds t a) l.tmps) l.assign l.body .normal = mkF b.1 ((l.params.zip vs).foldl (fun tmps (t, a) => tmps.setIfInBounds t a) l.tmps) [] ([.code d.a] ++ [.beginRound, .code d.x]) := by
      rw [← b3, ← b4]; rfl
    rw [hfr]
    refine Steps.trans A1 (.one ?_)
    rw [mkF_atR, mkF_atR]
    exact stepR_beginRound (b := { (default : Frame) with fn := b.1.fn, kind := b.1.kind, roundOf := b.1.roundOf }) rfl hbeg
  have fin : ∀ (j : Option Code), endRd h.length id j Post h3 → (∀ v w', (Instr.endRound (R.α id).b j).run (p ()) R3.w = .ok v w' → Steps (p ()) (lone (mkF b.1 t1 [] [.code d.x]) (c :: cs) R2.w) (lone (c.finish v) cs w')) →
      ∃ v R' r h', Steps (p ()) (lone (Frame.round (R.α id).b l.fn ((l.params.zip vs).foldl (fun tmps (t, a) => tmps.setIfInBounds t a) l.tmps) l.assign l.body .normal) (c :: cs) R.w) (lone (c.finish v) cs R'.w) ∧ HR G R' h' ∧ Ext R h R' h' ∧ R.le R' ∧ VR R' r v ∧ Post r h' := fun j hj hst => by
    unfold endRd at hj
    split at hj
    case h_2 => exact hj.elim
    rename_i s4 d4 hi3
    obtain ⟨l4, f1, f2, f3, f4, f5, f6, f7, f8⟩ := i3.hr.loopSet hi3
    obtain ⟨R4, w4, α4, H4, x4, l4le⟩ := f8 (if j.isNone then .ready else .done) j
    have hα3 : R3.α id = R.α id := i3.ext.α id hid
    have hend : (Instr.endRound (R.α id).b j).run (p ()) R3.w = .ok (.bool j.isNone) R4.w := by
      rw [w4, ← hα3]
      exact run_endRound j f1
    have i4 := i3.step H4 x4 l4le
    obtain ⟨R5, w5, H5, x5, l5, _⟩ := i4.leave H (keeps_range h.length (Nat.le_refl _) (by rw [H.len, i4.hr.len]; exact i4.le.m))
    exact ⟨_, R5, .bool fun _ => j.isNone, _, by rw [w5]; exact Steps.trans st1 (hst _ _ hend), H5, x5, l5, .pure _ _ (.bool _), hj⟩
  cases e with
  | normal =>
    refine fin none (chk_ok hk3).2 fun v w' hr => Steps.trans A3 (.one ?_)
    rw [mkF_atR]
    exact stepR_round_end rfl rfl hr
  | exit i =>
    obtain ⟨pre, q1, q2⟩ := A3
    refine fin (some (.exit i)) (chk_ok hk3).2 fun v w' hr => Steps.trans q2 (.one ?_)
    rw [mkF_atR]
    exact stepR_round_exit rfl rfl (by rw [q1]; rfl) hr
  | ret =>
    obtain ⟨todo, q2⟩ := A3
    refine fin (some .ret) (chk_ok hk3).2 fun v w' hr => Steps.trans q2 (.one ?_)
    rw [mkF_atR]
    exact stepR_round_ret rfl rfl hr


end

/-- The table for rounds. -/
def tbR (kp rs : Bool) (cs : List Nat) : Tb := { tb with kp, rs, cuts := cs, rd := true }
theorem hTR (kp rs : Bool) (cs : List Nat) : (tbR kp rs cs).Of ((fun _ => Try.prog : Unit → Program) ()) := ⟨tbTi_ok, tbUn_ok, tbEq_ok⟩

/-- A round: the assignments, then the body. -/
theorem yieldR (kp rs : Bool) (cs : List Nat) {id : Nat} {xs : List AV} {h : List Blk} {Post : AV → List Blk → Prop} {s : List AV} {d : LoopD} (hi : h[id]? = some (.loop s d)) (hlen : xs.length = d.ps.size)
    (hW : Dn (tbR kp rs cs) (fun _ => Try.prog) (begK (fun s h₂ => Dn (tbR kp rs cs) (fun _ => Try.prog) (endK h.length id Post) 100 .none [.code d.x] s h₂ []) id) 20 .none [.code d.a] (putPs d.ps.toList xs s) h []) (hz : zOk h = true := by rfl) : YC (fun _ => Try.prog) id xs h Post :=
  YC.ofG (T := tbR kp rs cs) (m := 100 * 4000) (n := 20 * 4000) (D := fun s h₂ => Dn (tbR kp rs cs) (fun _ => Try.prog) (endK h.length id Post) 100 .none [.code d.x] s h₂ []) (hTR kp rs cs) hm rfl (fun s h₂ hd => Dn_ok 100 .none _ _ _ _ hd) hi hlen (Dn_ok 20 .none _ _ _ _ hW) hz

/-- A range over a function that is handed to it. -/
theorem rangeS {f : Operand} {ps : Array Tmp} {a x : Code} {Q : Ex → List AV → List Blk → Prop} {s : List AV} {h : List Blk} {fid : FuncId} {first cap : List AV} (hf : strip (ev s f) = .fn fid first cap) (hc : allc (stripC (ev s f)))
    (H : SC (fun _ => Try.prog) fid (first ++ [.yld h.length] ++ cap) (h ++ [.loop s ⟨ps, a, x, .ready, none⟩]) fun _ h' => loopEnd Q s h.length h') : CB (fun _ => Try.prog) (.rangeFunc f ps a x) Q s h := CB.of hf hc H

/-- What a round leaves behind, told with less. -/
theorem YC.less {p : Unit → Program} {id : Nat} {xs : List AV} {h : List Blk} {Post : AV → List Blk → Prop} (H : YC p id xs h fun r h' => ∃ r₂ h₂, To [r] h' [r₂] h₂ ∧ Post r₂ h₂) : YC p id xs h Post :=
  ⟨fun G R vs hr ha => let ⟨f, tmps, a, x, h1, h2⟩ := H.run G R vs hr ha; ⟨f, tmps, a, x, h1, fun c cs => by
    obtain ⟨v, R', r, h', b1, b3, b4, b5, b6, r₂, h₂, hto, b7⟩ := h2 c cs
    obtain ⟨R'', c1, c2, c3, c4, c5⟩ := hto G R' #[v] b3 ⟨rfl, fun i a hi => by
      cases i with
      | zero => simp at hi; subst hi; exact b6
      | succ i => simp at hi⟩
    exact ⟨v, R'', r₂, h₂, by rw [c1]; exact b1, c2, b4.trans c3, b5.trans c4, c5.2 0 r₂ rfl, b7⟩⟩⟩

/-- The same, told with less: L: the slots that live; ex: room for slices that are nil; hc: the blocks that are told otherwise. -/
theorem rangeT {f : Operand} {ps : Array Tmp} {a x : Code} {Q : Ex → List AV → List Blk → Prop} {s : List AV} {h : List Blk} (L : List Nat) (ex : List Blk) (hc : List (Nat × Blk)) {fid : FuncId} {first cap : List AV}
    (hto : To s h (Vm.keep L s) (setH (h ++ ex) hc)) (hf : strip (ev (Vm.keep L s) f) = .fn fid first cap) (hcs : allc (stripC (ev (Vm.keep L s) f)))
    (H : SC (fun _ => Try.prog) fid (first ++ [.yld (setH (h ++ ex) hc).length] ++ cap) (setH (h ++ ex) hc ++ [.loop (Vm.keep L s) ⟨ps, a, x, .ready, none⟩]) fun _ h' => loopEnd Q (Vm.keep L s) (setH (h ++ ex) hc).length h') : CB (fun _ => Try.prog) (.rangeFunc f ps a x) Q s h := CB.to hto (CB.of hf hcs H)

/-- A loop inside a round. -/
theorem loopR (kp rs : Bool) (cs : List Nat) {x : Code} {Q : Ex → List AV → List Blk → Prop} {s : List AV} {h : List Blk} {ι : Type} (L : List Nat) (ex : List Blk) (ch : ι → List (Nat × AV)) (hc : ι → List (Nat × Blk)) (inv : ι → Prop) (μ : ι → Nat) (i : ι)
    (hi : inv i) (hto : To (Vm.keep L s) h (setS (Vm.keep L s) (ch i)) (setH (h ++ ex) (hc i)))
    (step : ∀ i, inv i → Dn (tbR kp rs cs) (fun _ => Try.prog) (indK L (fun i => setS (Vm.keep L s) (ch i)) (fun i => setH (h ++ ex) (hc i)) inv μ i (h ++ ex).length Q) 100 .none [.code x] (setS (Vm.keep L s) (ch i)) (setH (h ++ ex) (hc i)) []) : LP true (fun _ => Try.prog) x Q s h :=
  LP.indD (T := tbR kp rs cs) (hTR kp rs cs) hm L (fun i => setS (Vm.keep L s) (ch i)) (fun i => setH (h ++ ex) (hc i)) inv μ i (h ++ ex).length (fun _ => setH_length _ _) hi hto step
end Go.Proofs.Ytlcgliadpalgfaa.Vm

/- Contracts: ranges over runs. -/
namespace Go.Proofs.Ytlcgliadpalgfaa.Vm
open Go Go.Proofs Sp
set_option maxRecDepth 100000
set_option maxHeartbeats 1600000

def bookI (b : Book) : AV := .iptr [lst 2 encZone default b.zones, lst 3 encTrain default b.old, lst 3 encTrain default b.new, .int .i64 fun _ => b.night, .int .i64 fun _ => b.last] 0

theorem c86 (b : Book) : SC (fun _ => Try.prog) 86 [bookA b] [] fun v h => v = .fn 117 [] [bookI b] ∧ h = [] := by
  unfold bookA bookI
  refine con Try.func86 (body := bodyOf Try.f86) rfl (by decide +kernel) ?_
  (cbv; (try simp only [nc] at *); (try refine Chk.mk (okc) ?_))
  (try first | exact ⟨rfl, trivial⟩ | exact ⟨trivial, trivial⟩)

/-- The runs of the days ahead of d. -/
def runsTo (b : Book) (d : Nat) : List (Train × Int) := (List.range d).flatMap fun (k : Nat) => ((table b k).filter fun t => starts t k).map fun t => (t, (k : Int))
def runsIn (b : Book) (d i : Nat) : List (Train × Int) := (((table b d).take i).filter fun t => starts t d).map fun t => (t, (d : Int))

theorem runsIn_zero (b : Book) (d : Nat) : runsIn b d 0 = [] := by simp [runsIn]
theorem runsTo_zero (b : Book) : runsTo b 0 = [] := by simp [runsTo]
theorem runsTo_succ (b : Book) (d : Nat) : runsTo b (d + 1) = runsTo b d ++ runsIn b d (table b d).length := by
  unfold runsTo runsIn
  rw [List.range_succ, List.flatMap_append]
  simp
theorem tabOk {b : Book} (h : BookOk b) {t : Train} {day : Int} (ht : t ∈ table b day) : TrainOk b.zones.length t := by
  unfold table at ht
  split at ht
  · exact h.old t ht
  · exact h.new t ht
theorem TrainOk.fit {n : Int} {t : Train} (h : TrainOk n t) : ∀ s ∈ t.stops, (0 ≤ s.zone ∧ s.zone < n) ∧ (0 ≤ s.arrive ∧ s.arrive ≤ 10000) ∧ 0 ≤ s.depart ∧ s.depart ≤ 10000 := fun s hs => by
  have := h.stops s hs
  have h1 := this.zone
  have h2 := this.arrive
  have h3 := this.depart
  omega

theorem runsIn_len (b : Book) (d i : Nat) : (runsIn b d i).length ≤ i := by
  unfold runsIn
  rw [List.length_map]
  exact Nat.le_trans (List.length_filter_le _ _) (by rw [List.length_take]; omega)
theorem runsTo_len {b : Book} (h : BookOk b) : ∀ d, (runsTo b d).length ≤ 4 * d
  | 0 => by simp [runsTo]
  | d + 1 => by
    have h1 := runsTo_len h d
    have h2 := runsIn_len b d (table b d).length
    have h3 := (table_ok h (d : Int)).1
    rw [runsTo_succ, List.length_append]
    omega

/-- What hands out the runs, in a caller's heap of three blocks. -/
theorem c117 (b : Book) (hlast : 0 ≤ b.last ∧ b.last ≤ 100) (hok : BookOk b) (s : List AV) (ps : Array Tmp) (a x : Code) (B0 B1 B2 : List (Train × Int) → Blk)
    (hB : zOk [B0 [], B1 [], B2 [], .loop s ⟨ps, a, x, .ready, none⟩] = true) (hs : ∀ acc, sel true [0, 1, 2, 3] [B0 acc, B1 acc, B2 acc, .loop s ⟨ps, a, x, .ready, none⟩] = [B0 acc, B1 acc, B2 acc, .loop s ⟨ps, a, x, .ready, none⟩])
    (hs5 : ∀ acc t, sel true [0, 1, 2, 3] [B0 acc, B1 acc, B2 acc, .loop s ⟨ps, a, x, .ready, none⟩, .cells (encTrain t)] = [B0 acc, B1 acc, B2 acc, .loop s ⟨ps, a, x, .ready, none⟩])
    (hy : ∀ acc t (day : Int), acc.length ≤ 1000 → t ∈ table b day → starts t day = true → 0 ≤ day ∧ day ≤ b.last → YC (fun _ => Try.prog) 3 [runV t day (calls b.zones t day)] [B0 acc, B1 acc, B2 acc, .loop s ⟨ps, a, x, .ready, none⟩, .cells (encTrain t)] fun v h => v = .bool (fun _ => true) ∧ h = [B0 (acc ++ [(t, day)]), B1 (acc ++ [(t, day)]), B2 (acc ++ [(t, day)]), .loop s ⟨ps, a, x, .ready, none⟩, .cells (encTrain t)]) :
    SC (fun _ => Try.prog) 117 [.yld 3, bookI b] [B0 [], B1 [], B2 [], .loop s ⟨ps, a, x, .ready, none⟩] fun v h => h = [B0 (runsTo b (b.last + 1).toNat), B1 (runsTo b (b.last + 1).toNat), B2 (runsTo b (b.last + 1).toNat), .loop s ⟨ps, a, x, .ready, none⟩] := by
  obtain ⟨nt, hnt⟩ := nth_ex
  unfold bookI
  refine con Try.func117 (body := bodyOf Try.f117) rfl (by decide +kernel) ?_ hB
  (cbv; (try simp only [nc] at *); (try refine Chk.mk (okc) ?_))
  refine loopS false false [] [0, 1, 8, 9] [] (fun (i : Nat) => [(9, .int .i64 fun _ => (i : Int))]) (fun i => [(0, B0 (runsTo b i)), (1, B1 (runsTo b i)), (2, B2 (runsTo b i))]) (fun i => (i : Int) ≤ b.last + 1) (fun i => (b.last + 1).toNat - i + 0) 0 (by omega) ?_ ?_
  · (refine To.of [] ?_; cbv; (try simp only [nc]); (repeat' (first | exact trivial | exact WkN.refl _ | exact WkB.refl _ | refine ⟨?_, ?_⟩ | refine WkB.cells ?_ | refine WkN.agg ?_ | refine WkN.tup ?_)); (all_goals (first | exact okt | skip)))
  rintro i hi
  (cbv; (try simp only [nc] at *); (try refine Chk.mk (okc) ?_))
  refine ⟨fun hb => ?_, fun hb => ?_⟩
  · simp only [decide_eq_true_eq] at hb
    (cbv; (try simp only [nc] at *); (try refine Chk.mk (okc) ?_))
    have k73 := c73 b i
    simp only [lst_nt hnt] at k73
    refine call0 (k73) (by first | rfl | (simp only [zoneA, bookA, lst_nt hnt]; rfl)) fun r h₂ hp => ?_
    (try simp only [zoneA, bookA, lst_nt hnt] at hp)
    obtain ⟨rfl, rfl⟩ := hp
    (cbv; (try simp only [nc] at *); (try refine Chk.mk (okc) ?_))
    refine loopQ fun Q hQ => ?_
    refine loopS false false [] [0, 1, 3, 8, 9, 14, 15, 16] [] (fun (j : Nat) => [(16, .int .i64 fun _ => (j : Int))]) (fun j => [(0, B0 (runsTo b i ++ runsIn b i j)), (1, B1 (runsTo b i ++ runsIn b i j)), (2, B2 (runsTo b i ++ runsIn b i j))]) (fun j => j ≤ (table b i).length) (fun j => (table b i).length - j + 0) 0 (by omega) ?_ ?_
    · simp only [runsIn_zero, List.append_nil]
      (refine To.of [] ?_; cbv; (try simp only [nc]); (repeat' (first | exact trivial | exact WkN.refl _ | exact WkB.refl _ | refine ⟨?_, ?_⟩ | refine WkB.cells ?_ | refine WkN.agg ?_ | refine WkN.tup ?_)); (all_goals (first | exact okt | skip)))
    rintro j hj
    (cbv; (try simp only [nc] at *); (try refine Chk.mk (okc) ?_))
    refine ⟨fun hb => ?_, fun hb => ?_⟩
    · simp only [decide_eq_true_eq, Int.ofNat_lt] at hb
      rename_i hbi
      have hmem : nt Train default (table b i) j ∈ table b i := nt_mem hnt hb
      have htk := tabOk hok hmem
      have htl := (table_ok hok (i : Int)).1
      have hl := htk.len
      have hd := htk.days
      have hnx : runsIn b i (j + 1) = runsIn b i j ++ (if starts (nt Train default (table b i) j) i then [(nt Train default (table b i) j, (i : Int))] else []) := by
        unfold runsIn
        rw [nt_take (d := default) hnt hb, List.filter_append, List.map_append]
        congr 1
        by_cases h : starts (nt Train default (table b i) j) i = true
        · simp [h]
        · simp [h]
      have k76 := c76 (nt Train default (table b i) j) i (by omega) (by omega)
      have hy' := hy (runsTo b i ++ runsIn b i j) _ (i : Int) (by have h1 := runsTo_len hok i; have h2 := runsIn_len b i j; rw [List.length_append]; omega) hmem
      have k77 := c77 b (nt Train default (table b i) j) i hok.zones htk.fit (by omega) (by omega)
      generalize calls b.zones (nt Train default (table b i) j) i = C at k77 hy'
      cases hst : starts (nt Train default (table b i) j) i
      rotate_left
      · rw [hst] at hnx k76
        (cbv; (try simp only [nc] at *); (try refine Chk.mk (okc) ?_))
        refine call0 (k76) (by first | rfl | (simp only [zoneA, bookA, lst_nt hnt]; rfl)) fun r h₂ hp => ?_
        (try simp only [zoneA, bookA, lst_nt hnt] at hp)
        obtain ⟨rfl, rfl⟩ := hp
        refine Br.isT rfl ?_
        (cbv; (try simp only [nc] at *); (try refine Chk.mk (okc) ?_))
        refine call0 (k77) (by first | rfl | (simp only [zoneA, bookA, lst_nt hnt]; rfl)) fun r h₂ hp => ?_
        (try simp only [zoneA, bookA, lst_nt hnt] at hp)
        obtain ⟨rfl, rfl⟩ := hp
        (cbv; (try simp only [nc] at *); (try refine Chk.mk (okc) ?_))
        refine Br.isT rfl ?_
        (cbv; (try simp only [nc] at *); (try refine Chk.mk (okc) ?_))
        refine YC.mono (hy' hst ⟨by omega, by omega⟩) ?_
        rintro v h ⟨rfl, rfl⟩
        (cbv; (try simp only [nc] at *); (try refine Chk.mk (okc) ?_))
        refine Br.isF rfl ?_
        (cbv; (try simp only [nc] at *); (try refine Chk.mk (okc) ?_))
        refine ⟨j + 1, by omega, by omega, ?_⟩
        rw [hnx]
        simp only [if_true, ← List.append_assoc]
        have hs' := hs5 (runsTo b i ++ runsIn b i j ++ [(nt Train default (table b i) j, (i : Int))]) (nt Train default (table b i) j)
        cbv at hs'
        simp only [List.cons.injEq, and_true] at hs'
        obtain ⟨e0, e1, e2, e3⟩ := hs'
        (refine To.of [] ?_; cbv; (try simp only [nc]); (repeat' (first | exact trivial | exact WkN.refl _ | exact WkB.refl _ | refine ⟨?_, ?_⟩ | refine WkB.cells ?_ | refine WkN.agg ?_ | refine WkN.tup ?_)); (all_goals (first | exact okt | skip)))
        all_goals first | (rw [e0]; exact WkB.refl _) | (rw [e1]; exact WkB.refl _) | (rw [e2]; exact WkB.refl _) | (rw [e3]; exact WkB.refl _)
      · rw [hst] at hnx k76
        (cbv; (try simp only [nc] at *); (try refine Chk.mk (okc) ?_))
        refine call0 (k76) (by first | rfl | (simp only [zoneA, bookA, lst_nt hnt]; rfl)) fun r h₂ hp => ?_
        (try simp only [zoneA, bookA, lst_nt hnt] at hp)
        obtain ⟨rfl, rfl⟩ := hp
        refine Br.isF rfl ?_
        (cbv; (try simp only [nc] at *); (try refine Chk.mk (okc) ?_))
        refine Br.isF rfl ?_
        (cbv; (try simp only [nc] at *); (try refine Chk.mk (okc) ?_))
        refine Br.isF rfl ?_
        (cbv; (try simp only [nc] at *); (try refine Chk.mk (okc) ?_))
        refine ⟨j + 1, by omega, by omega, ?_⟩
        rw [hnx]
        simp only [Bool.false_eq_true, if_false, List.append_nil]
        have hs' := hs5 (runsTo b i ++ runsIn b i j) (nt Train default (table b i) j)
        cbv at hs'
        simp only [List.cons.injEq, and_true] at hs'
        obtain ⟨e0, e1, e2, e3⟩ := hs'
        (refine To.of [] ?_; cbv; (try simp only [nc]); (repeat' (first | exact trivial | exact WkN.refl _ | exact WkB.refl _ | refine ⟨?_, ?_⟩ | refine WkB.cells ?_ | refine WkN.agg ?_ | refine WkN.tup ?_)); (all_goals (first | exact okt | skip)))
        all_goals first | (rw [e0]; exact WkB.refl _) | (rw [e1]; exact WkB.refl _) | (rw [e2]; exact WkB.refl _) | (rw [e3]; exact WkB.refl _)
    · have hje : j = (table b i).length := by simp only [decide_eq_false_iff_not, Int.ofNat_lt] at hb; omega
      subst hje
      refine hQ _ _ _ ?_
      rw [← runsTo_succ]
      have hs' := hs (runsTo b (i + 1))
      cbv at hs'
      simp only [List.cons.injEq, and_true] at hs'
      obtain ⟨e0, e1, e2, e3⟩ := hs'
      (cbv; (try simp only [nc] at *); (try refine Chk.mk (okc) ?_))
      refine ⟨i + 1, by omega, by omega, ?_⟩
      (refine To.of [] ?_; cbv; (try simp only [nc]); (repeat' (first | exact trivial | exact WkN.refl _ | exact WkB.refl _ | refine ⟨?_, ?_⟩ | refine WkB.cells ?_ | refine WkN.agg ?_ | refine WkN.tup ?_)); (all_goals (first | exact okt | skip)))
      all_goals first | (rw [e0]; exact WkB.refl _) | (rw [e1]; exact WkB.refl _) | (rw [e2]; exact WkB.refl _) | (rw [e3]; exact WkB.refl _)
  · have hi' : i = (b.last + 1).toNat := by simp only [decide_eq_false_iff_not] at hb; omega
    subst hi'
    have hs' := hs (runsTo b (b.last + 1).toNat)
    cbv at hs'
    (cbv; (try simp only [nc] at *); (try refine Chk.mk (okc) ?_))
    exact hs'
end Go.Proofs.Ytlcgliadpalgfaa.Vm

/- Contracts: who is on the way. -/
namespace Go.Proofs.Ytlcgliadpalgfaa.Vm
open Go Go.Proofs Sp
set_option maxRecDepth 100000
set_option maxHeartbeats 1600000

/-- What hands out the runs, in a caller's heap of 4 blocks. -/
theorem c117_4 (b : Book) (hlast : 0 ≤ b.last ∧ b.last ≤ 100) (hok : BookOk b) (s : List AV) (ps : Array Tmp) (a x : Code) (B0 B1 B2 B3 : List (Train × Int) → Blk)
    (hs : ∀ acc, sel true [0, 1, 2, 3, 4] [B0 acc, B1 acc, B2 acc, B3 acc, .loop s ⟨ps, a, x, .ready, none⟩] = [B0 acc, B1 acc, B2 acc, B3 acc, .loop s ⟨ps, a, x, .ready, none⟩])
    (hs5 : ∀ acc t, sel true [0, 1, 2, 3, 4] [B0 acc, B1 acc, B2 acc, B3 acc, .loop s ⟨ps, a, x, .ready, none⟩, .cells (encTrain t)] = [B0 acc, B1 acc, B2 acc, B3 acc, .loop s ⟨ps, a, x, .ready, none⟩])
    (hy : ∀ acc t (day : Int), acc.length ≤ 1000 → t ∈ table b day → starts t day = true → 0 ≤ day ∧ day ≤ b.last → YC (fun _ => Try.prog) 4 [runV t day (calls b.zones t day)] [B0 acc, B1 acc, B2 acc, B3 acc, .loop s ⟨ps, a, x, .ready, none⟩, .cells (encTrain t)] fun v h => v = .bool (fun _ => true) ∧ h = [B0 (acc ++ [(t, day)]), B1 (acc ++ [(t, day)]), B2 (acc ++ [(t, day)]), B3 (acc ++ [(t, day)]), .loop s ⟨ps, a, x, .ready, none⟩, .cells (encTrain t)])
    (hB : zOk [B0 [], B1 [], B2 [], B3 [], .loop s ⟨ps, a, x, .ready, none⟩] = true := by rfl) :
    SC (fun _ => Try.prog) 117 [.yld 4, bookI b] [B0 [], B1 [], B2 [], B3 [], .loop s ⟨ps, a, x, .ready, none⟩] fun v h => h = [B0 (runsTo b (b.last + 1).toNat), B1 (runsTo b (b.last + 1).toNat), B2 (runsTo b (b.last + 1).toNat), B3 (runsTo b (b.last + 1).toNat), .loop s ⟨ps, a, x, .ready, none⟩] := by
  obtain ⟨nt, hnt⟩ := nth_ex
  unfold bookI
  refine con Try.func117 (body := bodyOf Try.f117) rfl (by decide +kernel) ?_ hB
  (cbv; (try simp only [nc] at *); (try refine Chk.mk (okc) ?_))
  refine loopS false false [] [0, 1, 8, 9] [] (fun (i : Nat) => [(9, .int .i64 fun _ => (i : Int))]) (fun i => [(0, B0 (runsTo b i)), (1, B1 (runsTo b i)), (2, B2 (runsTo b i)), (3, B3 (runsTo b i))]) (fun i => (i : Int) ≤ b.last + 1) (fun i => (b.last + 1).toNat - i + 0) 0 (by omega) ?_ ?_
  · (refine To.of [] ?_; cbv; (try simp only [nc]); (repeat' (first | exact trivial | exact WkN.refl _ | exact WkB.refl _ | refine ⟨?_, ?_⟩ | refine WkB.cells ?_ | refine WkN.agg ?_ | refine WkN.tup ?_)); (all_goals (first | exact okt | skip)))
  rintro i hi
  (cbv; (try simp only [nc] at *); (try refine Chk.mk (okc) ?_))
  refine ⟨fun hb => ?_, fun hb => ?_⟩
  · simp only [decide_eq_true_eq] at hb
    (cbv; (try simp only [nc] at *); (try refine Chk.mk (okc) ?_))
    have k73 := c73 b i
    simp only [lst_nt hnt] at k73
    refine call0 (k73) (by first | rfl | (simp only [zoneA, bookA, lst_nt hnt]; rfl)) fun r h₂ hp => ?_
    (try simp only [zoneA, bookA, lst_nt hnt] at hp)
    obtain ⟨rfl, rfl⟩ := hp
    (cbv; (try simp only [nc] at *); (try refine Chk.mk (okc) ?_))
    refine loopQ fun Q hQ => ?_
    refine loopS false false [] [0, 1, 3, 8, 9, 14, 15, 16] [] (fun (j : Nat) => [(16, .int .i64 fun _ => (j : Int))]) (fun j => [(0, B0 (runsTo b i ++ runsIn b i j)), (1, B1 (runsTo b i ++ runsIn b i j)), (2, B2 (runsTo b i ++ runsIn b i j)), (3, B3 (runsTo b i ++ runsIn b i j))]) (fun j => j ≤ (table b i).length) (fun j => (table b i).length - j + 0) 0 (by omega) ?_ ?_
    · simp only [runsIn_zero, List.append_nil]
      (refine To.of [] ?_; cbv; (try simp only [nc]); (repeat' (first | exact trivial | exact WkN.refl _ | exact WkB.refl _ | refine ⟨?_, ?_⟩ | refine WkB.cells ?_ | refine WkN.agg ?_ | refine WkN.tup ?_)); (all_goals (first | exact okt | skip)))
    rintro j hj
    (cbv; (try simp only [nc] at *); (try refine Chk.mk (okc) ?_))
    refine ⟨fun hb => ?_, fun hb => ?_⟩
    · simp only [decide_eq_true_eq, Int.ofNat_lt] at hb
      rename_i hbi
      have hmem : nt Train default (table b i) j ∈ table b i := nt_mem hnt hb
      have htk := tabOk hok hmem
      have htl := (table_ok hok (i : Int)).1
      have hl := htk.len
      have hd := htk.days
      have hnx : runsIn b i (j + 1) = runsIn b i j ++ (if starts (nt Train default (table b i) j) i then [(nt Train default (table b i) j, (i : Int))] else []) := by
        unfold runsIn
        rw [nt_take (d := default) hnt hb, List.filter_append, List.map_append]
        congr 1
        by_cases h : starts (nt Train default (table b i) j) i = true
        · simp [h]
        · simp [h]
      have k76 := c76 (nt Train default (table b i) j) i (by omega) (by omega)
      have hy' := hy (runsTo b i ++ runsIn b i j) _ (i : Int) (by have h1 := runsTo_len hok i; have h2 := runsIn_len b i j; rw [List.length_append]; omega) hmem
      have k77 := c77 b (nt Train default (table b i) j) i hok.zones htk.fit (by omega) (by omega)
      generalize calls b.zones (nt Train default (table b i) j) i = C at k77 hy'
      cases hst : starts (nt Train default (table b i) j) i
      rotate_left
      · rw [hst] at hnx k76
        (cbv; (try simp only [nc] at *); (try refine Chk.mk (okc) ?_))
        refine call0 (k76) (by first | rfl | (simp only [zoneA, bookA, lst_nt hnt]; rfl)) fun r h₂ hp => ?_
        (try simp only [zoneA, bookA, lst_nt hnt] at hp)
        obtain ⟨rfl, rfl⟩ := hp
        refine Br.isT rfl ?_
        (cbv; (try simp only [nc] at *); (try refine Chk.mk (okc) ?_))
        refine call0 (k77) (by first | rfl | (simp only [zoneA, bookA, lst_nt hnt]; rfl)) fun r h₂ hp => ?_
        (try simp only [zoneA, bookA, lst_nt hnt] at hp)
        obtain ⟨rfl, rfl⟩ := hp
        (cbv; (try simp only [nc] at *); (try refine Chk.mk (okc) ?_))
        refine Br.isT rfl ?_
        (cbv; (try simp only [nc] at *); (try refine Chk.mk (okc) ?_))
        refine YC.mono (hy' hst ⟨by omega, by omega⟩) ?_
        rintro v h ⟨rfl, rfl⟩
        (cbv; (try simp only [nc] at *); (try refine Chk.mk (okc) ?_))
        refine Br.isF rfl ?_
        (cbv; (try simp only [nc] at *); (try refine Chk.mk (okc) ?_))
        refine ⟨j + 1, by omega, by omega, ?_⟩
        rw [hnx]
        simp only [if_true, ← List.append_assoc]
        have hs' := hs5 (runsTo b i ++ runsIn b i j ++ [(nt Train default (table b i) j, (i : Int))]) (nt Train default (table b i) j)
        cbv at hs'
        simp only [List.cons.injEq, and_true] at hs'
        obtain ⟨e0, e1, e2, e3, e4⟩ := hs'
        (refine To.of [] ?_; cbv; (try simp only [nc]); (repeat' (first | exact trivial | exact WkN.refl _ | exact WkB.refl _ | refine ⟨?_, ?_⟩ | refine WkB.cells ?_ | refine WkN.agg ?_ | refine WkN.tup ?_)); (all_goals (first | exact okt | skip)))
        all_goals first | (rw [e0]; exact WkB.refl _) | (rw [e1]; exact WkB.refl _) | (rw [e2]; exact WkB.refl _) | (rw [e3]; exact WkB.refl _) | (rw [e4]; exact WkB.refl _)
      · rw [hst] at hnx k76
        (cbv; (try simp only [nc] at *); (try refine Chk.mk (okc) ?_))
        refine call0 (k76) (by first | rfl | (simp only [zoneA, bookA, lst_nt hnt]; rfl)) fun r h₂ hp => ?_
        (try simp only [zoneA, bookA, lst_nt hnt] at hp)
        obtain ⟨rfl, rfl⟩ := hp
        refine Br.isF rfl ?_
        (cbv; (try simp only [nc] at *); (try refine Chk.mk (okc) ?_))
        refine Br.isF rfl ?_
        (cbv; (try simp only [nc] at *); (try refine Chk.mk (okc) ?_))
        refine Br.isF rfl ?_
        (cbv; (try simp only [nc] at *); (try refine Chk.mk (okc) ?_))
        refine ⟨j + 1, by omega, by omega, ?_⟩
        rw [hnx]
        simp only [Bool.false_eq_true, if_false, List.append_nil]
        have hs' := hs5 (runsTo b i ++ runsIn b i j) (nt Train default (table b i) j)
        cbv at hs'
        simp only [List.cons.injEq, and_true] at hs'
        obtain ⟨e0, e1, e2, e3, e4⟩ := hs'
        (refine To.of [] ?_; cbv; (try simp only [nc]); (repeat' (first | exact trivial | exact WkN.refl _ | exact WkB.refl _ | refine ⟨?_, ?_⟩ | refine WkB.cells ?_ | refine WkN.agg ?_ | refine WkN.tup ?_)); (all_goals (first | exact okt | skip)))
        all_goals first | (rw [e0]; exact WkB.refl _) | (rw [e1]; exact WkB.refl _) | (rw [e2]; exact WkB.refl _) | (rw [e3]; exact WkB.refl _) | (rw [e4]; exact WkB.refl _)
    · have hje : j = (table b i).length := by simp only [decide_eq_false_iff_not, Int.ofNat_lt] at hb; omega
      subst hje
      refine hQ _ _ _ ?_
      rw [← runsTo_succ]
      have hs' := hs (runsTo b (i + 1))
      cbv at hs'
      simp only [List.cons.injEq, and_true] at hs'
      obtain ⟨e0, e1, e2, e3, e4⟩ := hs'
      (cbv; (try simp only [nc] at *); (try refine Chk.mk (okc) ?_))
      refine ⟨i + 1, by omega, by omega, ?_⟩
      (refine To.of [] ?_; cbv; (try simp only [nc]); (repeat' (first | exact trivial | exact WkN.refl _ | exact WkB.refl _ | refine ⟨?_, ?_⟩ | refine WkB.cells ?_ | refine WkN.agg ?_ | refine WkN.tup ?_)); (all_goals (first | exact okt | skip)))
      all_goals first | (rw [e0]; exact WkB.refl _) | (rw [e1]; exact WkB.refl _) | (rw [e2]; exact WkB.refl _) | (rw [e3]; exact WkB.refl _) | (rw [e4]; exact WkB.refl _)
  · have hi' : i = (b.last + 1).toNat := by simp only [decide_eq_false_iff_not] at hb; omega
    subst hi'
    have hs' := hs (runsTo b (b.last + 1).toNat)
    cbv at hs'
    (cbv; (try simp only [nc] at *); (try refine Chk.mk (okc) ?_))
    exact hs'

def onE (x : Train × Int) : List AV := [islLit 1 [[.int .i64 fun _ => x.1.number], [.int .i64 fun _ => x.2]]]
theorem callsGo_len {zs : List Zone} {day : Int} {many : Nat} : ∀ (S : List Stop) (i : Nat) (now : Int), (callsGo zs day many i now S).length = S.length
  | [], _, _ => rfl
  | s :: r, i, now => by
    unfold callsGo
    split
    · simp only [List.length_cons, callsGo_len r]
    · simp only [List.length_cons, callsGo_len r]
theorem calls_len {zs : List Zone} {t : Train} {day : Int} : (calls zs t day).length = t.stops.length := callsGo_len _ _ _
def isOn (b : Book) (at_ : Int) (x : Train × Int) : Bool := bif decide (((calls b.zones x.1 x.2).getD 0 default).depart ≤ at_) then decide (at_ < ((calls b.zones x.1 x.2).getD ((calls b.zones x.1 x.2).length - 1) default).arrive) else false
def onL (b : Book) (at_ : Int) (l : List (Train × Int)) : List (Train × Int) := l.filter (isOn b at_)
theorem onL_snoc (b : Book) (at_ : Int) (l : List (Train × Int)) (x : Train × Int) : onL b at_ (l ++ [x]) = onL b at_ l ++ (if isOn b at_ x then [x] else []) := by
  unfold onL
  rw [List.filter_append]
  congr 1
  by_cases h : isOn b at_ x = true
  · simp [h]
  · simp [h]
def OnWay (b : Book) (at_ : Int) : List (Train × Int) × Int := if Check b ≠ 0 then ([], Check b) else if !inB at_ 0 43200 then ([], 1) else (onL b at_ (runsTo b (b.last + 1).toNat), 0)
theorem c38 (b : Book) (hb : BookFit b) (at_ : Int) : SC (fun _ => Try.prog) 38 [bookA b, .int .i64 fun _ => at_] [] fun v h => v = .tup [lst 1 onE default (OnWay b at_).1, .int .i64 fun _ => (OnWay b at_).2] ∧ h = [] := by
  obtain ⟨nt, hnt⟩ := nth_ex
  have k28 := c28 b hb
  have k67 := c67 at_ 0 43200
  have k86 := c86 b
  unfold OnWay
  generalize hCk : Check b = C at *
  refine SC.less (conX false false [] Try.func38 (body := bodyOf Try.f38) rfl (by decide +kernel) ?_)
  unfold bookA bookI at *
  (cbv; (try simp only [nc] at *); (try refine Chk.mk (okc) ?_))
  refine call0 (k28) (by first | rfl | (simp only [zoneA, bookA, lst_nt hnt]; rfl)) fun r h₂ hp => ?_
  (try simp only [zoneA, bookA, lst_nt hnt] at hp)
  obtain ⟨rfl, rfl⟩ := hp
  (cbv; (try simp only [nc] at *); (try refine Chk.mk (okc) ?_))
  refine ⟨fun hb => ?_, fun hb => ?_⟩
  · simp only [bne_iff_ne, ne_eq] at hb
    rw [if_pos hb]
    (cbv; (try simp only [nc] at *); (try refine Chk.mk (okc) ?_))
    refine ⟨_, [], ?_, rfl, rfl⟩
    (refine To.of [] ?_; cbv; (try simp only [nc]); (repeat' (first | exact trivial | exact WkN.refl _ | exact WkB.refl _ | refine ⟨?_, ?_⟩ | refine WkB.cells ?_ | refine WkN.agg ?_ | refine WkN.tup ?_)); (all_goals (first | exact okt | skip)))
  have hC : C = 0 := by simpa using hb
  have hok := book_ok (hCk.trans hC)
  rw [if_neg (fun h => h hC)]
  (cbv; (try simp only [nc] at *); (try refine Chk.mk (okc) ?_))
  refine call0 (k67) (by first | rfl | (simp only [zoneA, bookA, lst_nt hnt]; rfl)) fun r h₂ hp => ?_
  (try simp only [zoneA, bookA, lst_nt hnt] at hp)
  obtain ⟨rfl, rfl⟩ := hp
  (cbv; (try simp only [nc] at *); (try refine Chk.mk (okc) ?_))
  refine ⟨fun hb2 => ?_, fun hb2 => ?_⟩
  · rw [if_pos hb2]
    (cbv; (try simp only [nc] at *); (try refine Chk.mk (okc) ?_))
    refine ⟨_, [], ?_, rfl, rfl⟩
    (refine To.of [] ?_; cbv; (try simp only [nc]); (repeat' (first | exact trivial | exact WkN.refl _ | exact WkB.refl _ | refine ⟨?_, ?_⟩ | refine WkB.cells ?_ | refine WkN.agg ?_ | refine WkN.tup ?_)); (all_goals (first | exact okt | skip)))
  rw [if_neg (by rw [hb2]; exact Bool.false_ne_true)]
  (cbv; (try simp only [nc] at *); (try refine Chk.mk (okc) ?_))
  refine call0 (k86) (by first | rfl | (simp only [zoneA, bookA, lst_nt hnt]; rfl)) fun r h₂ hp => ?_
  (try simp only [zoneA, bookA, lst_nt hnt] at hp)
  obtain ⟨rfl, rfl⟩ := hp
  (cbv; (try simp only [nc] at *); (try refine Chk.mk (okc) ?_))
  refine rangeT [2, 3, 4, 5, 7, 20] [.tok 1 fun _ => 0] [(2, .cells [.isl 1 (fun _ => 0) (fun e => onE (nt (Train × Int) default [] (e ()))) (.own 3)])] (fid := 117) (first := []) ?_ rfl ?_ ?_
  · (refine To.of [(1,false)] ?_; cbv; (try simp only [nc]); (repeat' (first | exact trivial | exact WkN.refl _ | exact WkB.refl _ | refine ⟨?_, ?_⟩ | refine WkB.cells ?_ | refine WkN.agg ?_ | refine WkN.tup ?_)); (all_goals (first | exact okt | skip)))
  · exact allc_nil
  have k117 := fun s ps a x => c117_4 b (by have := hok.last; omega) hok s ps a x (fun _ => .cells (bookC b)) (fun _ => .cells [.int .i64 fun _ => at_]) (fun acc => .cells [.isl 1 (fun _ => ((onL b at_ acc).length : Int)) (fun e => onE (nt (Train × Int) default (onL b at_ acc) (e ()))) (.own 3)]) (fun acc => .tok 1 fun _ => ((onL b at_ acc).length : Int))
  unfold bookI bookC at k117
  simp only [lst_nt hnt] at k117
  simp only [lstR_nt hnt]
  refine SC.mono (k117 _ _ _ _ ?_ ?_ ?_) ?_
  · intro acc; cbv
  · intro acc t; cbv
  · intro acc t day ha hm hs hd
    have hlen : 2 ≤ (calls b.zones t day).length := by rw [calls_len]; exact (tabOk hok hm).len.1
    have hlen4 : (calls b.zones t day).length ≤ 4 := by rw [calls_len]; exact (tabOk hok hm).len.2
    have hon : isOn b at_ (t, day) = (bif decide ((nt Sp.Call default (calls b.zones t day) 0).depart ≤ at_) then decide (at_ < (nt Sp.Call default (calls b.zones t day) ((calls b.zones t day).length - 1)).arrive) else false) := by
      unfold isOn
      rw [hnt, hnt]
      have e : ((calls b.zones t day).length - 1 : Int).toNat = (calls b.zones t day).length - 1 := by omega
      rw [e]
      rfl
    simp only [onL_snoc, hon]
    generalize calls b.zones t day = C at *
    have hO : (onL b at_ acc).length ≤ 1000 := Nat.le_trans (List.length_filter_le _ _) ha
    generalize onL b at_ acc = O at *
    unfold runV
    simp only [lst_nt hnt]
    refine YC.less (yieldR false false [] rfl rfl ?_)
    (cbv; (try simp only [nc] at *); (try refine Chk.mk (okc) ?_))
    refine ⟨?_, ?_⟩
    · (cbv; (try simp only [nc] at *); (try refine Chk.mk (okc) ?_))
      refine ⟨fun hb3 => ?_, fun hb3 => ?_⟩
      · rw [hb3]
        (cbv; (try simp only [nc] at *); (try refine Chk.mk (okc) ?_))
        refine ⟨_, _, ?_, rfl, rfl⟩
        simp only [if_true, Bool.false_eq_true, if_false, List.append_nil]
        (refine To.of [] ?_; cbv; (try simp only [nc]); (repeat' (first | exact trivial | exact WkN.refl _ | exact WkB.refl _ | refine ⟨?_, ?_⟩ | refine WkB.cells ?_ | refine WkN.agg ?_ | refine WkN.tup ?_)); (all_goals (first | exact okt | skip)))
      · rw [hb3]
        (cbv; (try simp only [nc] at *); (try refine Chk.mk (okc) ?_))
        refine ⟨_, _, ?_, rfl, rfl⟩
        simp only [if_true, Bool.false_eq_true, if_false, List.append_nil]
        (refine To.of [] ?_; cbv; (try simp only [nc]); (repeat' (first | exact trivial | exact WkN.refl _ | exact WkB.refl _ | refine ⟨?_, ?_⟩ | refine WkB.cells ?_ | refine WkN.agg ?_ | refine WkN.tup ?_)); (all_goals (first | exact okt | skip)))
    · (cbv; (try simp only [nc] at *); (try refine Chk.mk (okc) ?_))
      refine ⟨fun hb3 => ?_, fun hb3 => ?_⟩
      · rw [hb3]
        (cbv; (try simp only [nc] at *); (try refine Chk.mk (okc) ?_))
        refine ⟨_, _, ?_, rfl, rfl⟩
        simp only [if_true, Bool.false_eq_true, if_false, List.append_nil]
        (refine To.of [] ?_; cbv; (try simp only [nc]); (repeat' (first | exact trivial | exact WkN.refl _ | exact WkB.refl _ | refine ⟨?_, ?_⟩ | refine WkB.cells ?_ | refine WkN.agg ?_ | refine WkN.tup ?_)); (all_goals (first | exact okt | skip)))
      · rw [hb3]
        (cbv; (try simp only [nc] at *); (try refine Chk.mk (okc) ?_))
        refine ⟨_, _, ?_, rfl, rfl⟩
        simp only [if_true, Bool.false_eq_true, if_false, List.append_nil]
        (refine To.of [] ?_; cbv; (try simp only [nc]); (repeat' (first | exact trivial | exact WkN.refl _ | exact WkB.refl _ | refine ⟨?_, ?_⟩ | refine WkB.cells ?_ | refine WkN.agg ?_ | refine WkN.tup ?_)); (all_goals (first | exact okt | skip)))
  · intro r h hh
    subst hh
    (cbv; (try simp only [nc] at *); (try refine Chk.mk (okc) ?_))
    refine ⟨.tup [lst 1 onE default (onL b at_ (runsTo b (b.last + 1).toNat)), .int .i64 fun _ => 0], [], ?_, rfl, rfl⟩
    simp only [lst_nt hnt]
    (refine To.of [] ?_; cbv; (try simp only [nc]); (repeat' (first | exact trivial | exact WkN.refl _ | exact WkB.refl _ | refine ⟨?_, ?_⟩ | refine WkB.cells ?_ | refine WkN.agg ?_ | refine WkN.tup ?_)); (all_goals (first | exact okt | skip)))
end Go.Proofs.Ytlcgliadpalgfaa.Vm
