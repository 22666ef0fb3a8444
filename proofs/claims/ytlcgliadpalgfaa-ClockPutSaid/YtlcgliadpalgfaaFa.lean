/- Contracts: hours and pieces. -/
import Derived.Test.YtlcgliadpalgfaaCon
import Derived.Test.YtlcgliadpalgfaaSp
set_option linter.unusedSimpArgs false
set_option linter.unusedVariables false
namespace Go.Proofs.Ytlcgliadpalgfaa.Vm
open Go Go.Proofs Sp
set_option maxRecDepth 100000
set_option maxHeartbeats 4000000

def iA (n : Int) : AV := .int .i64 fun _ => n
def encChg (c : Chg) : List AV := [.int .i64 fun _ => c.at_, .int .i64 fun _ => c.by_]
def encPc (p : Pc) : List AV := [.int .i64 fun _ => p.fr, .int .i64 fun _ => p.bef, .int .i64 fun _ => p.ahd]
def zoneA (z : Zone) : AV := .agg [.int .i64 fun _ => z.base, lst 2 encChg default z.chs]

theorem c98 (n : Int) (h0 : -1000000 ≤ n) (h1 : n ≤ 1000000) : SC (fun _ => Try.prog) 98 [.int .i64 fun _ => n] [] fun r h => r = .int .i64 (fun _ => n / 1440) ∧ h = [] := by
  refine con Try.func98 (body := bodyOf Try.f98) rfl (by decide +kernel) ?_
  cbv
  try simp only [nc] at *
  have e1 := tdivE n 1440
  have e2 := tmodE n 1440
  refine ⟨by simp only [allc0, allc1, allcE, allcI, Cn.p, and_true]; omega, fun hb => ?_, fun hb => ?_⟩
  · have hb := of_decide_eq_true hb
    cbv
    try simp only [nc] at *
    refine ⟨by simp only [allc0, allc1, allcE, allcI, Cn.p, and_true]; omega, ?_, trivial⟩
    congr 1; funext _; omega
  · have hb := of_decide_eq_false hb
    cbv
    try simp only [nc] at *
    refine ⟨?_, trivial⟩
    congr 1; funext _; omega

theorem c67 (n a b : Int) : SC (fun _ => Try.prog) 67 [.int .i64 fun _ => n, .int .i64 fun _ => a, .int .i64 fun _ => b] [] fun r h => r = .bool (fun _ => inB n a b) ∧ h = [] := by
  refine con Try.func67 (body := bodyOf Try.f67) rfl (by decide +kernel) ?_
  cbv
  try simp only [nc] at *
  refine ⟨by simp [allc0, allc1, allcE, allcI, Cn.p], ?_, trivial⟩
  congr 1; funext _; unfold inB; cases decide (a ≤ n) <;> rfl

theorem c92 (l : List Pc) (r a : Int) (hlen : l.length ≤ 1000000) (hl : ∀ p ∈ l, -1000000 ≤ p.ahd ∧ p.ahd ≤ 1000000) (hr : -1000000 ≤ r ∧ r ≤ 1000000) : SC (fun _ => Try.prog) 92 [lst 3 encPc default l, .int .i64 fun _ => r, .int .i64 fun _ => a] [] fun v h => v = .int .i64 (fun _ => hour l r a) ∧ h = [] := by
  obtain ⟨nt, hnt⟩ := nth_ex
  rw [lst_nt hnt]
  refine con Try.func92 (body := bodyOf Try.f92) rfl (by decide +kernel) ?_
  cbv
  try simp only [nc] at *
  refine loopA [1, 2, 10, 11, 12] (fun i : Nat => mkS 30 [(1, .int .i64 fun _ => r), (2, .int .i64 fun _ => a), (10, .isl 3 (fun _ => (l.length : Int)) (fun e => encPc (nt Pc default l (e ()))) .none), (11, .int .i64 fun _ => (l.length : Int)), (12, .int .i64 fun _ => (i : Int))]) (fun _ => [])
    (fun i => i ≤ l.length ∧ hour l r a = hour (l.drop i) r a) (fun i => l.length - i + 0) 0 0 (fun _ => rfl) ⟨Nat.zero_le _, by simp⟩ (To.of [] ?_) ?_
  · cbv
    exact ⟨⟨.refl _, .refl _, .refl _, .refl _, .int rfl, trivial⟩, trivial⟩
  · intro i hi
    cbv
    try simp only [nc] at *
    refine ⟨fun hb => ?_, fun hb => ?_⟩
    · simp only [nc, decide_eq_true_eq] at hb
      have hil : i < l.length := by omega
      have hm := hl _ (nt_mem (d := default) hnt hil)
      have hd := nt_drop (d := default) hnt hil
      cbv
      try simp only [nc] at *
      obtain ⟨p, hc⟩ : ∃ p, nt Pc default l (i : Int) = p := ⟨_, rfl⟩
      rw [hc] at hm hd
      rw [hc]
      refine ⟨by simp only [allc0, allc1, allcE, allcI, Cn.p, and_true]; omega, fun hb => ?_, fun hb => ?_⟩
      · simp only [decide_eq_true_eq] at hb
        cbv
        try simp only [nc] at *
        refine ⟨?_, trivial⟩
        congr 1; funext _
        rw [hi.2, hd, hour]
        omega
      · simp only [decide_eq_false_iff_not] at hb
        cbv
        try simp only [nc] at *
        refine ⟨by simp only [nc, allc0, allc1, allcE, allcI, Cn.p, and_true]; omega, ⟨i + 1, ⟨by omega, ?_⟩, by omega, To.of [] ?_⟩⟩
        · rw [hi.2, hd, hour, if_neg (by omega)]
        · cbv
          exact ⟨⟨.refl _, .refl _, .refl _, .refl _, .int (by simp only [nc]; omega), trivial⟩, trivial⟩
    · simp only [nc, decide_eq_false_iff_not] at hb
      have : l.drop i = [] := List.drop_eq_nil_of_le (by omega)
      cbv
      try simp only [nc] at *
      refine ⟨?_, trivial⟩
      congr 1; funext _
      rw [hi.2, this]; rfl

theorem c99 (n : Int) (h0 : -1000000 ≤ n) (h1 : n ≤ 1000000) : SC (fun _ => Try.prog) 99 [.int .i64 fun _ => n] [] fun r h => r = .int .i64 (fun _ => n % 1440) ∧ h = [] := by
  refine con Try.func99 (body := bodyOf Try.f99) rfl (by decide +kernel) ?_
  cbv
  try simp only [nc] at *
  refine call0 (c98 n h0 h1) rfl fun r h₂ hp => ?_
  obtain ⟨rfl, rfl⟩ := hp
  cbv
  try simp only [nc] at *
  refine ⟨by simp only [allc0, allc1, allcE, allcI, Cn.p, and_true]; omega, ?_, trivial⟩
  congr 1; funext _; omega

theorem c91 (d m : Int) (h0 : -1000 ≤ d ∧ d ≤ 1000) (h1 : -10000 ≤ m ∧ m ≤ 10000) : SC (fun _ => Try.prog) 91 [.int .i64 fun _ => d, .int .i64 fun _ => m] [] fun r h => r = .int .i64 (fun _ => 1440 * d + m) ∧ h = [] := by
  refine con Try.func91 (body := bodyOf Try.f91) rfl (by decide +kernel) ?_
  cbv
  try simp only [nc] at *
  exact ⟨by simp only [allc0, allc1, allcE, allcI, Cn.p, and_true]; omega, trivial⟩

/-- Zones whose numbers are small. -/
structure Small (z : Zone) : Prop where
  base : -1000 ≤ z.base ∧ z.base ≤ 1000
  many : z.chs.length ≤ 100
  by_ : ∀ c ∈ z.chs, -1000 ≤ c.by_ ∧ c.by_ ≤ 1000

theorem pcsGo_small : ∀ (l : List Chg) (fr a m : Int), (∀ c ∈ l, -1000 ≤ c.by_ ∧ c.by_ ≤ 1000) → -m ≤ a ∧ a ≤ m → ∀ p ∈ pcsGo fr a l, -(m + 1000 * l.length) ≤ p.ahd ∧ p.ahd ≤ m + 1000 * l.length
  | [], fr, a, m, _, h, p, hp => by simp [pcsGo] at hp; subst hp; simpa using h
  | c :: r, fr, a, m, hl, h, p, hp => by
    have hc := hl c (List.mem_cons_self ..)
    have ih := pcsGo_small r c.at_ (a + c.by_) (m + 1000) (fun x hx => hl x (List.mem_cons_of_mem _ hx)) (by omega)
    simp only [pcsGo] at hp
    simp only [List.length_cons]
    split at hp
    · rcases List.mem_cons.1 hp with rfl | hp
      · show _ ≤ a ∧ a ≤ _; omega
      · have := ih p hp; omega
    · have := ih p hp; omega

theorem pcsGo_len : ∀ (l : List Chg) (fr a : Int), 1 ≤ (pcsGo fr a l).length ∧ (pcsGo fr a l).length ≤ l.length + 1
  | [], fr, a => by simp [pcsGo]
  | c :: r, fr, a => by
    have := pcsGo_len r c.at_ (a + c.by_)
    simp only [pcsGo, List.length_cons]
    split
    · simp only [List.length_cons]; omega
    · omega

theorem c90 (z : Zone) (hz : Small z) : SC (fun _ => Try.prog) 90 [zoneA z] [] fun v h => v = lst 3 encPc default (pieces z) ∧ h = [] := by
  obtain ⟨nt, hnt⟩ := nth_ex
  unfold zoneA
  rw [lst_nt hnt]
  refine SC.less (con Try.func90 (body := bodyOf Try.f90) rfl (by decide +kernel) ?_)
  cbv
  try simp only [nc] at *
  refine ⟨by simp only [allc0, allc1, allcE, allcI, Cn.p, and_true]; decide +kernel, ?_⟩
  refine loopA [1, 3, 4, 5, 11, 12, 13] (fun (⟨i, fr, a, out⟩ : Nat × Int × Int × List Pc) => mkS 42 [(1, .ptr 0 0), (3, .isl 3 (fun _ => (out.length : Int)) (fun e => encPc (nt Pc default out (e ()))) (.own 1)), (4, .int .i64 fun _ => fr), (5, .int .i64 fun _ => a),
      (11, .isl 2 (fun _ => (z.chs.length : Int)) (fun e => encChg (nt Chg default z.chs (e ()))) .none), (12, .int .i64 fun _ => (z.chs.length : Int)), (13, .int .i64 fun _ => (i : Int))])
    (fun ⟨i, fr, a, out⟩ => [.cells [.int .i64 fun _ => z.base, .isl 2 (fun _ => (z.chs.length : Int)) (fun e => encChg (nt Chg default z.chs (e ()))) .none], .tok 3 fun _ => (out.length : Int)])
    (fun ⟨i, fr, a, out⟩ => i ≤ z.chs.length ∧ pieces z = out ++ pcsGo fr a (z.chs.drop i) ∧ out.length ≤ i ∧ -(1000 + 1000 * i) ≤ a ∧ a ≤ 1000 + 1000 * i) (fun i => z.chs.length - i.1 + 0) (0, 0, z.base, []) 2 (fun _ => rfl)
    ⟨Nat.zero_le _, by simp [pieces], by simp, by have := hz.base; simp; omega⟩ (To.of [(3, false)] ?_) ?_
  · cbv
    exact ⟨⟨.refl _, .nilOwn (by decide) (by decide) rfl, .refl _, .refl _, .refl _, .refl _, .int rfl, trivial⟩, .refl _, .tok rfl, trivial⟩
  · rintro ⟨i, fr, a, out⟩ ⟨hi, hp, ho, ha⟩
    have hmany := hz.many
    cbv
    try simp only [nc] at *
    refine ⟨fun hb => ?_, fun hb => ?_⟩
    · simp only [nc, decide_eq_true_eq] at hb
      have hil : i < z.chs.length := by omega
      have hm := hz.by_ _ (nt_mem (d := default) hnt hil)
      have hd := nt_drop (d := default) hnt hil
      cbv
      try simp only [nc] at *
      obtain ⟨c, hc⟩ : ∃ c, nt Chg default z.chs (i : Int) = c := ⟨_, rfl⟩
      rw [hc] at hm hd
      rw [hc]
      rw [hd, pcsGo] at hp
      refine ⟨by simp only [allc0, allc1, allcE, allcI, Cn.p, and_true]; omega, fun hb => ?_, fun hb => ?_⟩
      · simp only [gt_iff_lt, decide_eq_true_eq] at hb
        rw [if_pos hb] at hp
        cbv
        try simp only [nc] at *
        refine ⟨by simp only [nc, allc0, allc1, allcE, allcI, Cn.p, and_true, List.length_cons, List.length_nil]; (repeat' apply And.intro) <;> first | omega | decide +kernel, ⟨(i + 1, c.at_, a + c.by_, out ++ [⟨fr, c.at_, a⟩]), ⟨by omega, by rw [hp]; simp, by simp; omega, by dsimp only; omega, by dsimp only; omega⟩, by show z.chs.length - (i + 1) + 0 < z.chs.length - i + 0; omega, To.of [] ?_⟩⟩
        cbv
        try simp only [nc] at *
        exact ⟨⟨.refl _, .snoc hnt rfl rfl rfl, .refl _, .refl _, .refl _, .refl _, .int rfl, trivial⟩, .refl _, .tok (by simp), trivial⟩
      · simp only [gt_iff_lt, decide_eq_false_iff_not] at hb
        rw [if_neg hb] at hp
        cbv
        try simp only [nc] at *
        refine ⟨by simp only [nc, allc0, allc1, allcE, allcI, Cn.p, and_true, List.length_cons, List.length_nil]; (repeat' apply And.intro) <;> first | omega | decide +kernel, ⟨(i + 1, c.at_, a + c.by_, out), ⟨by omega, hp, by dsimp only; omega, by dsimp only; omega, by dsimp only; omega⟩, by show z.chs.length - (i + 1) + 0 < z.chs.length - i + 0; omega, To.of [] ?_⟩⟩
        cbv
        try simp only [nc] at *
        exact ⟨⟨.refl _, .refl _, .refl _, .refl _, .refl _, .refl _, .int rfl, trivial⟩, .refl _, .refl _, trivial⟩
    · simp only [nc, decide_eq_false_iff_not] at hb
      have : z.chs.drop i = [] := List.drop_eq_nil_of_le (by omega)
      rw [this, pcsGo] at hp
      rw [hp]
      cbv
      try simp only [nc] at *
      refine ⟨by simp only [nc, allc0, allc1, allcE, allcI, Cn.p, and_true, List.length_cons, List.length_nil]; (repeat' apply And.intro) <;> first | omega | decide +kernel, lst 3 encPc default (out ++ [⟨fr, openT, a⟩]), [], To.of [] ⟨⟨.snocL hnt rfl rfl rfl, trivial⟩, trivial⟩, rfl, rfl⟩

theorem pieces_small {z : Zone} (hz : Small z) : (pieces z).length ≤ 101 ∧ 1 ≤ (pieces z).length ∧ ∀ p ∈ pieces z, -1000000 ≤ p.ahd ∧ p.ahd ≤ 1000000 := by
  have h1 := pcsGo_len z.chs 0 z.base
  have h2 := pcsGo_small z.chs 0 z.base 1000 hz.by_ hz.base
  have h3 := hz.many
  refine ⟨?_, h1.1, fun p hp => ?_⟩
  · unfold pieces; omega
  · have := h2 p hp; omega

theorem c95 (z : Zone) (t : Int) (hz : Small z) : SC (fun _ => Try.prog) 95 [zoneA z, .int .i64 fun _ => t] [] fun v h => v = .int .i64 (fun _ => Sp.ahead z t) ∧ h = [] := by
  obtain ⟨nt, hnt⟩ := nth_ex
  refine con Try.func95 (body := bodyOf Try.f95) rfl (by decide +kernel) ?_
  unfold zoneA
  cbv
  refine call0 (c90 z hz) rfl fun r h₂ hp => ?_
  obtain ⟨rfl, rfl⟩ := hp
  obtain ⟨hl1, hl2, hl3⟩ := pieces_small hz
  rw [lst_nt hnt]
  unfold Sp.ahead
  generalize pieces z = l at *
  cbv
  refine loopA [1, 5, 9, 10, 11] (fun (⟨i, n⟩ : Nat × Int) => mkS 23 [(1, .int .i64 fun _ => t), (5, .int .i64 fun _ => n), (9, .isl 3 (fun _ => (l.length : Int)) (fun e => encPc (nt Pc default l (e ()))) .none), (10, .int .i64 fun _ => (l.length : Int)), (11, .int .i64 fun _ => (i : Int))]) (fun _ => [.cells [.undef, .undef]])
    (fun ⟨i, n⟩ => i ≤ l.length ∧ aheadGo 0 l t = aheadGo n (l.drop i) t) (fun i => l.length - i.1 + 0) (0, 0) 1 (fun _ => rfl) ⟨Nat.zero_le _, by simp⟩ (To.of [] ?_) ?_
  · cbv
    exact ⟨⟨.refl _, .refl _, .refl _, .refl _, .int rfl, trivial⟩, .cells ⟨⟩, trivial⟩
  · rintro ⟨i, n⟩ ⟨hi, hp⟩
    cbv
    try simp only [nc] at *
    refine ⟨fun hb => ?_, fun hb => ?_⟩
    · simp only [decide_eq_true_eq] at hb
      have hil : i < l.length := by omega
      have hd := nt_drop (d := default) hnt hil
      cbv
      try simp only [nc] at *
      obtain ⟨p, hc⟩ : ∃ p, nt Pc default l (i : Int) = p := ⟨_, rfl⟩
      rw [hc] at hd
      rw [hc]
      rw [hd, aheadGo] at hp
      refine ⟨by simp only [allc0, allc1, allcE, allcI, Cn.p, and_true]; omega, fun hb => ?_, fun hb => ?_⟩
      · simp only [decide_eq_true_eq] at hb
        rw [if_pos hb] at hp
        cbv
        try simp only [nc] at *
        refine ⟨by simp only [allc0, allc1, allcE, allcI, Cn.p, and_true]; omega, ⟨(i + 1, p.ahd), ⟨by omega, hp⟩, by show l.length - (i + 1) + 0 < l.length - i + 0; omega, To.of [] ?_⟩⟩
        cbv
        exact ⟨⟨.refl _, .refl _, .refl _, .refl _, .int rfl, trivial⟩, .refl _, trivial⟩
      · simp only [decide_eq_false_iff_not] at hb
        rw [if_neg hb] at hp
        cbv
        try simp only [nc] at *
        refine ⟨by simp only [allc0, allc1, allcE, allcI, Cn.p, and_true]; omega, ⟨(i + 1, n), ⟨by omega, hp⟩, by show l.length - (i + 1) + 0 < l.length - i + 0; omega, To.of [] ?_⟩⟩
        cbv
        exact ⟨⟨.refl _, .refl _, .refl _, .refl _, .int rfl, trivial⟩, .refl _, trivial⟩
    · simp only [decide_eq_false_iff_not] at hb
      have : l.drop i = [] := List.drop_eq_nil_of_le (by omega)
      rw [this, aheadGo] at hp
      cbv
      refine ⟨?_, trivial⟩
      rw [hp]

theorem c79 (z : Zone) (hlen : z.chs.length ≤ 1000000) : SC (fun _ => Try.prog) 79 [zoneA z] [] fun v h => v = .int .i64 (fun _ => checkZone z) ∧ h = [] := by
  obtain ⟨nt, hnt⟩ := nth_ex
  unfold zoneA checkZone
  rw [lst_nt hnt]
  refine con Try.func79 (body := bodyOf Try.f79) rfl (by decide +kernel) ?_
  cbv
  try simp only [nc] at *
  refine call0 (c67 _ _ _) rfl fun r h₂ hp => ?_
  obtain ⟨rfl, rfl⟩ := hp
  cbv
  try simp only [nc] at *
  refine ⟨fun hb => ?_, fun hb => ?_⟩
  · simp only [Bool.not_eq_true'] at hb
    cbv
    try simp only [nc] at *
    refine ⟨?_, trivial⟩
    congr 1; funext _; simp [hb]
  simp only [Bool.not_eq_false'] at hb
  simp only [hb, Bool.not_true, Bool.false_eq_true, if_false]
  refine ⟨fun hb => ?_, fun hb => ?_⟩
  · simp only [decide_eq_true_eq] at hb
    cbv
    try simp only [nc] at *
    refine ⟨?_, trivial⟩
    congr 1; funext _
    rw [if_pos (by omega)]
  simp only [decide_eq_false_iff_not] at hb
  rw [if_neg (show ¬ 3 < z.chs.length by omega)]
  cbv
  try simp only [nc] at *
  refine loopA [1, 14, 15, 16] (fun (i : Nat) => mkS 50 [(1, .ptr 0 0), (14, .isl 2 (fun _ => (z.chs.length : Int)) (fun e => encChg (nt Chg default z.chs (e ()))) .none), (15, .int .i64 fun _ => (z.chs.length : Int)), (16, .int .i64 fun _ => (i : Int))])
    (fun _ => [.cells [.int .i64 fun _ => z.base, .isl 2 (fun _ => (z.chs.length : Int)) (fun e => encChg (nt Chg default z.chs (e ()))) .none]])
    (fun i => i ≤ z.chs.length ∧ chkChs none z.chs = chkChs (if i = 0 then none else some (nt Chg default z.chs ((i : Int) - 1)).at_) (z.chs.drop i)) (fun i => z.chs.length - i + 0) 0 1 (fun _ => rfl) ⟨Nat.zero_le _, by simp⟩ (To.of [] ?_) ?_
  · cbv
    exact ⟨⟨.refl _, .refl _, .refl _, .int rfl, trivial⟩, .refl _, trivial⟩
  rintro i ⟨hi, hp⟩
  cbv
  try simp only [nc] at *
  refine ⟨fun hb => ?_, fun hb => ?_⟩
  · simp only [decide_eq_true_eq] at hb
    have hil : i < z.chs.length := by omega
    have hd := nt_drop (d := default) hnt hil
    cbv
    try simp only [nc] at *
    obtain ⟨c, hc⟩ : ∃ p, nt Chg default z.chs (i : Int) = p := ⟨_, rfl⟩
    rw [hc] at hd
    rw [hc]
    rw [hd, chkChs_cons] at hp
    refine ⟨by simp only [allc0, allc1, allcE, allcI, Cn.p, and_true]; omega, ?_⟩
    refine call0 (c67 _ _ _) rfl fun r h₂ hp' => ?_
    obtain ⟨rfl, rfl⟩ := hp'
    cbv
    try simp only [nc] at *
    refine ⟨fun hb => ?_, fun hb => ?_⟩
    · simp only [Bool.not_eq_true'] at hb
      cbv
      try simp only [nc] at *
      refine ⟨?_, trivial⟩
      congr 1; funext _; rw [hp]; simp [hb]
    simp only [Bool.not_eq_false'] at hb
    simp only [hb, Bool.not_true, Bool.false_eq_true, if_false] at hp
    cbv
    try simp only [nc] at *
    refine ⟨by simp only [nc, allc0, allc1, allcE, allcI, Cn.p, and_true, true_and, decide_eq_true_eq, imp_self]; (repeat' (first | apply And.intro | intro _)) <;> first | omega | decide +kernel, ?_⟩
    have hlow : (bif decide (0 < (i : Int)) then decide (c.at_ ≤ (nt Chg default z.chs ((i : Int) - 1)).at_) else false) = leP (if i = 0 then none else some (nt Chg default z.chs ((i : Int) - 1)).at_) c.at_ := by
      by_cases h0 : i = 0
      · subst h0; rfl
      · rw [if_neg h0, decide_eq_true (show 0 < (i : Int) by omega)]; rfl
    rw [← hlow] at hp
    refine ⟨fun hb => ?_, fun hb => ?_⟩
    · cbv
      try simp only [nc] at *
      rw [if_pos hb] at hp
      refine ⟨?_, trivial⟩
      rw [hp]
    rw [if_neg (by rw [hb]; exact Bool.false_ne_true)] at hp
    cbv
    try simp only [nc] at *
    refine call0 (c67 _ _ _) rfl fun r h₂ hp' => ?_
    obtain ⟨rfl, rfl⟩ := hp'
    cbv
    try simp only [nc] at *
    refine ⟨fun hb => ?_, fun hb => ?_⟩
    · simp only [Bool.not_eq_true'] at hb
      rw [if_pos (by simp [hb])] at hp
      cbv
      try simp only [nc] at *
      refine Br.isT (by simp [hb]) ?_
      cbv
      refine ⟨?_, trivial⟩
      rw [hp]
    simp only [Bool.not_eq_false'] at hb
    cbv
    try simp only [nc] at *
    refine ⟨fun hb' => ?_, fun hb' => ?_⟩
    · simp only [beq_iff_eq] at hb'
      rw [if_pos (by simp [hb'])] at hp
      cbv
      try simp only [nc] at *
      refine ⟨?_, trivial⟩
      rw [hp]
    simp only [beq_eq_false_iff_ne, ne_eq] at hb'
    rw [if_neg (by simp [hb, hb'])] at hp
    cbv
    try simp only [nc] at *
    refine ⟨by simp only [nc, allc0, allc1, allcE, allcI, Cn.p, and_true, true_and, decide_eq_true_eq, imp_self]; (repeat' (first | apply And.intro | intro _)) <;> first | omega | decide +kernel, ⟨i + 1, ⟨by omega, ?_⟩, by show z.chs.length - (i + 1) + 0 < z.chs.length - i + 0; omega, To.of [] ?_⟩⟩
    · rw [hp, if_neg (Nat.succ_ne_zero i), show ((i + 1 : Nat) : Int) - 1 = i by omega, hc]
    · cbv
      exact ⟨⟨.refl _, .refl _, .refl _, .int rfl, trivial⟩, .refl _, trivial⟩
  · simp only [decide_eq_false_iff_not] at hb
    have : z.chs.drop i = [] := List.drop_eq_nil_of_le (by omega)
    rw [this, chkChs_nil] at hp
    cbv
    try simp only [nc] at *
    refine ⟨?_, trivial⟩
    rw [hp]

theorem c94 (z : Zone) (t : Int) (hlen : z.chs.length ≤ 1000000) : SC (fun _ => Try.prog) 94 [zoneA z, .int .i64 fun _ => t] [] fun v h => v = .int .i64 (fun _ => checkInstant z t) ∧ h = [] := by
  refine con Try.func94 (body := bodyOf Try.f94) rfl (by decide +kernel) ?_
  unfold zoneA checkInstant
  cbv
  refine call0 (c79 z hlen) rfl fun r h₂ hp => ?_
  obtain ⟨rfl, rfl⟩ := hp
  generalize checkZone z = e
  cbv
  refine ⟨fun hb => ?_, fun hb => ?_⟩
  · simp only [bne_iff_ne, ne_eq] at hb
    cbv
    refine ⟨?_, trivial⟩
    simp [hb]
  simp only [bne_eq_false_iff_eq] at hb
  subst hb
  cbv
  refine call0 (c67 _ _ _) rfl fun r h₂ hp => ?_
  obtain ⟨rfl, rfl⟩ := hp
  cbv
  refine ⟨fun hb => ?_, fun hb => ?_⟩
  · cbv
    refine ⟨?_, trivial⟩
    simp [hb]
  · cbv
    refine ⟨?_, trivial⟩
    simp [hb]

theorem c89 (z : Zone) (d m : Int) (hlen : z.chs.length ≤ 1000000) : SC (fun _ => Try.prog) 89 [zoneA z, .int .i64 fun _ => d, .int .i64 fun _ => m] [] fun v h => v = .int .i64 (fun _ => checkHour z d m) ∧ h = [] := by
  refine con Try.func89 (body := bodyOf Try.f89) rfl (by decide +kernel) ?_
  unfold zoneA checkHour
  cbv
  refine call0 (c79 z hlen) rfl fun r h₂ hp => ?_
  obtain ⟨rfl, rfl⟩ := hp
  generalize checkZone z = e
  cbv
  refine ⟨fun hb => ?_, fun hb => ?_⟩
  · simp only [bne_iff_ne, ne_eq] at hb
    cbv
    refine ⟨?_, trivial⟩
    simp [hb]
  simp only [bne_eq_false_iff_eq] at hb
  subst hb
  cbv
  refine call0 (c67 _ _ _) rfl fun r h₂ hp => ?_
  obtain ⟨rfl, rfl⟩ := hp
  cbv
  refine ⟨fun hb => ?_, fun hb => ?_⟩
  · simp only [Bool.not_not] at hb
    cbv
    refine ⟨by simp [allc0, allc1, allcE, allcI, Cn.p, hb], ?_⟩
    refine call0 (c67 _ _ _) rfl fun r h₂ hp => ?_
    obtain ⟨rfl, rfl⟩ := hp
    cbv
    refine ⟨by simp [allc0, allc1, allcE, allcI, Cn.p, hb], fun hb' => ?_, fun hb' => ?_⟩
    · cbv
      refine ⟨?_, trivial⟩
      simp [hb] at hb' ⊢
      simp [hb']
    · cbv
      refine ⟨?_, trivial⟩
      simp [hb] at hb' ⊢
      simp [hb']
  · simp only [Bool.not_not] at hb
    cbv
    refine ⟨by simp [allc0, allc1, allcE, allcI, Cn.p, hb], ?_⟩
    refine Br.isT (by simp [hb]) ?_
    cbv
    refine ⟨?_, trivial⟩
    simp [hb]
end Go.Proofs.Ytlcgliadpalgfaa.Vm
