/- Contracts: runs. -/
import Derived.Test.YtlcgliadpalgfaaGa
import Derived.Test.YtlcgliadpalgfaaPz
set_option linter.unusedSimpArgs false
set_option linter.unusedVariables false
namespace Go.Proofs.Ytlcgliadpalgfaa.Vm
open Go Go.Proofs Sp
set_option maxRecDepth 100000
set_option maxHeartbeats 1600000

def fixA (z : Zone) : AV := .agg [.int .i64 fun _ => z.base, .int .i64 fun _ => (z.chs.length : Int),
  .int .i64 fun _ => (z.chs.getD 0 default).at_, .int .i64 fun _ => (z.chs.getD 0 default).by_, .int .i64 fun _ => (z.chs.getD 1 default).at_, .int .i64 fun _ => (z.chs.getD 1 default).by_, .int .i64 fun _ => (z.chs.getD 2 default).at_, .int .i64 fun _ => (z.chs.getD 2 default).by_]

theorem c73 (b : Book) (day : Int) : SC (fun _ => Try.prog) 73 [bookA b, .int .i64 fun _ => day] [] fun v h => v = lst 3 encTrain default (table b day) ∧ h = [] := by
  refine con Try.func73 (body := bodyOf Try.f73) rfl (by decide +kernel) ?_
  unfold bookA table
  (cbv; (try simp only [nc] at *); (try refine Chk.mk (by (try simp only [nc, allc0, allc1, allcE, allcI, Cn.p, and_true, true_and, decide_eq_true_eq, imp_self, List.length_cons, List.length_nil]); all_goals ((repeat' (first | apply And.intro | intro _)) <;> first | omega | rfl | exact Or.inl rfl | assumption | exact nb1 (by assumption) | exact nb2 (by assumption) | exact nb3 (by assumption) | exact nb4 (by assumption) | decide | decide +kernel | (simp [*]; done))) ?_))
  refine ⟨fun hb => ?_, fun hb => ?_⟩
  · simp only [decide_eq_true_eq] at hb
    rw [if_pos hb]
    (cbv; (try simp only [nc] at *); (try refine Chk.mk (by (try simp only [nc, allc0, allc1, allcE, allcI, Cn.p, and_true, true_and, decide_eq_true_eq, imp_self, List.length_cons, List.length_nil]); all_goals ((repeat' (first | apply And.intro | intro _)) <;> first | omega | rfl | exact Or.inl rfl | assumption | exact nb1 (by assumption) | exact nb2 (by assumption) | exact nb3 (by assumption) | exact nb4 (by assumption) | decide | decide +kernel | (simp [*]; done))) ?_))
    (try first | exact ⟨rfl, trivial⟩ | exact ⟨trivial, trivial⟩)
  · simp only [decide_eq_false_iff_not] at hb
    rw [if_neg hb]
    (cbv; (try simp only [nc] at *); (try refine Chk.mk (by (try simp only [nc, allc0, allc1, allcE, allcI, Cn.p, and_true, true_and, decide_eq_true_eq, imp_self, List.length_cons, List.length_nil]); all_goals ((repeat' (first | apply And.intro | intro _)) <;> first | omega | rfl | exact Or.inl rfl | assumption | exact nb1 (by assumption) | exact nb2 (by assumption) | exact nb3 (by assumption) | exact nb4 (by assumption) | decide | decide +kernel | (simp [*]; done))) ?_))
    (try first | exact ⟨rfl, trivial⟩ | exact ⟨trivial, trivial⟩)

theorem and_one (n : Int) (h : 0 ≤ n) (h2 : n ≤ 1000000000) : IntKind.i64.wrap ((BitVec.ofInt IntKind.i64.bits n &&& BitVec.ofInt IntKind.i64.bits 1).toNat : Int) = n % 2 := by
  have e : (BitVec.ofInt IntKind.i64.bits n &&& BitVec.ofInt IntKind.i64.bits 1).toNat = n.toNat % 2 := by
    rw [BitVec.toNat_and, BitVec.toNat_ofInt, BitVec.toNat_ofInt]
    show (n % ((2 ^ 64 : Nat) : Int)).toNat &&& (1 % ((2 ^ 64 : Nat) : Int)).toNat = _
    rw [show (1 % ((2 ^ 64 : Nat) : Int)).toNat = 1 from rfl, Nat.and_one_is_mod, show n % ((2 ^ 64 : Nat) : Int) = n from Int.emod_eq_of_lt h (by omega)]
  rw [e]
  have : ((n.toNat % 2 : Nat) : Int) = n % 2 := by omega
  rw [this]
  simp only [IntKind.wrap, IntKind.signed, IntKind.bits]
  simp
  omega

theorem c76 (t : Train) (day : Int) (hd : 0 ≤ day ∧ day ≤ 1000000) (ht : 0 ≤ t.days ∧ t.days ≤ 1000000) : SC (fun _ => Try.prog) 76 [.agg (encTrain t), .int .i64 fun _ => day] [] fun v h => v = .bool (fun _ => starts t day) ∧ h = [] := by
  refine con Try.func76 (body := bodyOf Try.f76) rfl (by decide +kernel) ?_
  have e := (tmodE day 7).1 hd.1
  (cbv; try simp only [nc] at *)
  rw [e]
  refine Chk.mk (by (try simp only [nc, allc0, allc1, allcE, allcI, Cn.p, and_true, true_and, decide_eq_true_eq, imp_self, List.length_cons, List.length_nil]); all_goals ((repeat' (first | apply And.intro | intro _)) <;> first | omega | rfl | exact Or.inl rfl | assumption | exact nb1 (by assumption) | exact nb2 (by assumption) | exact nb3 (by assumption) | exact nb4 (by assumption) | decide | decide +kernel | (simp [*]; done))) ?_
  (cbv; try simp only [nc] at *)
  refine ⟨?_, trivial⟩
  congr 1; funext _
  rw [Nat.min_eq_left (show (day % 7).toNat ≤ IntKind.i64.bits by show _ ≤ 64; omega), Int.fdiv_eq_ediv_of_nonneg _ (Int.le_of_lt (Int.pow_pos (by omega)))]
  have hq : 0 ≤ t.days / 2 ^ (day % 7).toNat := Int.ediv_nonneg ht.1 (Int.le_of_lt (Int.pow_pos (by omega)))
  have hle : t.days / 2 ^ (day % 7).toNat ≤ t.days := Int.ediv_le_self _ ht.1
  unfold starts
  generalize t.days / 2 ^ (day % 7).toNat = q at *
  rw [and_one q hq (by omega), beq_dec]

theorem padA {nt : (α : Type) → α → List α → Int → α} (hnt : ∀ (α : Type) (d : α) (l : List α) (i : Int), nt α d l i = l.getD i.toNat d) (f : Chg → Int) (h0 : f default = 0) (l : List Chg) (i : Nat) : (bif decide ((i : Int) < (l.length : Int)) then f (nt Chg default l (i : Int)) else 0) = f (l.getD i default) := by
  rw [hnt, Int.toNat_natCast]
  by_cases h : i < l.length
  · rw [decide_eq_true (show (i : Int) < (l.length : Int) by omega)]; rfl
  · rw [decide_eq_false (show ¬ (i : Int) < (l.length : Int) by omega), List.getD_eq_getElem?_getD, List.getElem?_eq_none (by omega)]
    exact h0.symm

theorem c113 (z : Zone) (hz : z.chs.length ≤ 3) : SC (fun _ => Try.prog) 113 [zoneA z] [] fun v h => v = fixA z ∧ h = [] := by
  obtain ⟨nt, hnt⟩ := nth_ex
  unfold zoneA
  simp only [lst_nt hnt]
  refine con Try.func113 (body := bodyOf Try.f113) rfl (by decide +kernel) ?_
  (cbv; (try simp only [nc] at *); (try refine Chk.mk (by (try simp only [nc, allc0, allc1, allcE, allcI, Cn.p, and_true, true_and, decide_eq_true_eq, imp_self, List.length_cons, List.length_nil]); all_goals ((repeat' (first | apply And.intro | intro _)) <;> first | omega | rfl | exact Or.inl rfl | assumption | exact nb1 (by assumption) | exact nb2 (by assumption) | exact nb3 (by assumption) | exact nb4 (by assumption) | decide | decide +kernel | (simp [*]; done))) ?_))
  refine ⟨?_, trivial⟩
  have e1 := padA hnt (fun c => c.at_) rfl z.chs
  have e2 := padA hnt (fun c => c.by_) rfl z.chs
  simp only [e1, e2]

theorem c111 (t : Train) (n : Int) : SC (fun _ => Try.prog) 111 [.agg (encTrain t), .iptr [.int .i64 fun _ => n] 0] [] fun v h => v = .bool (fun _ => decide (t.number = n)) ∧ h = [] := by
  refine con Try.func111 (body := bodyOf Try.f111) rfl (by decide +kernel) ?_
  (cbv; (try simp only [nc] at *); (try refine Chk.mk (by (try simp only [nc, allc0, allc1, allcE, allcI, Cn.p, and_true, true_and, decide_eq_true_eq, imp_self, List.length_cons, List.length_nil]); all_goals ((repeat' (first | apply And.intro | intro _)) <;> first | omega | rfl | exact Or.inl rfl | assumption | exact nb1 (by assumption) | exact nb2 (by assumption) | exact nb3 (by assumption) | exact nb4 (by assumption) | decide | decide +kernel | (simp [*]; done))) ?_))
  exact ⟨by simp only [beq_dec], trivial⟩

theorem c75 (n : Int) : SC (fun _ => Try.prog) 75 [.int .i64 fun _ => n] [] fun v h => v = .fn 111 [] [.iptr [.int .i64 fun _ => n] 0] ∧ h = [] := by
  refine con Try.func75 (body := bodyOf Try.f75) rfl (by decide +kernel) ?_
  (cbv; (try simp only [nc] at *); (try refine Chk.mk (by (try simp only [nc, allc0, allc1, allcE, allcI, Cn.p, and_true, true_and, decide_eq_true_eq, imp_self, List.length_cons, List.length_nil]); all_goals ((repeat' (first | apply And.intro | intro _)) <;> first | omega | rfl | exact Or.inl rfl | assumption | exact nb1 (by assumption) | exact nb2 (by assumption) | exact nb3 (by assumption) | exact nb4 (by assumption) | decide | decide +kernel | (simp [*]; done))) ?_))

/-- What is known of the zone that was asked last. -/
def knA : Option Zone → AV
  | none => .isl 0 (fun _ => 0) (fun _ => []) .nil
  | some z => lst 3 encPc default (pieces z)
def fixC (z : Zone) : List AV := [.int .i64 fun _ => z.base, .int .i64 fun _ => (z.chs.length : Int),
  .int .i64 fun _ => (z.chs.getD 0 default).at_, .int .i64 fun _ => (z.chs.getD 0 default).by_, .int .i64 fun _ => (z.chs.getD 1 default).at_, .int .i64 fun _ => (z.chs.getD 1 default).by_, .int .i64 fun _ => (z.chs.getD 2 default).at_, .int .i64 fun _ => (z.chs.getD 2 default).by_]
def ownC : Option Zone → List AV
  | none => [iA 0, iA 0, iA 0, iA 0, iA 0, iA 0, iA 0, iA 0]
  | some z => fixC z

theorem fix_inj {z z' : Zone} (h0 : z.chs.length ≤ 3) (hb : z.base = z'.base) (hl : z.chs.length = z'.chs.length) (a0 : (z.chs.getD 0 default).at_ = (z'.chs.getD 0 default).at_) (b0 : (z.chs.getD 0 default).by_ = (z'.chs.getD 0 default).by_)
    (a1 : (z.chs.getD 1 default).at_ = (z'.chs.getD 1 default).at_) (b1 : (z.chs.getD 1 default).by_ = (z'.chs.getD 1 default).by_) (a2 : (z.chs.getD 2 default).at_ = (z'.chs.getD 2 default).at_) (b2 : (z.chs.getD 2 default).by_ = (z'.chs.getD 2 default).by_) : z = z' := by
  obtain ⟨b, l⟩ := z
  obtain ⟨b', l'⟩ := z'
  have ext : ∀ c c' : Chg, c.at_ = c'.at_ → c.by_ = c'.by_ → c = c' := fun c c' h1 h2 => by cases c; cases c'; simp_all
  dsimp only at *
  subst hb
  congr 1
  refine List.ext_getElem hl fun i h1 h2 => ?_
  have e0 := ext _ _ a0 b0
  have e1 := ext _ _ a1 b1
  have e2 := ext _ _ a2 b2
  have hi : i = 0 ∨ i = 1 ∨ i = 2 := by omega
  simp only [List.getD_eq_getElem?_getD] at e0 e1 e2
  rcases hi with rfl | rfl | rfl
  · simpa [List.getElem?_eq_getElem h1, List.getElem?_eq_getElem h2] using e0
  · simpa [List.getElem?_eq_getElem h1, List.getElem?_eq_getElem h2] using e1
  · simpa [List.getElem?_eq_getElem h1, List.getElem?_eq_getElem h2] using e2

theorem c112 (b : Book) (zi m day now : Int) (o : Option Zone) (hb : ∀ z ∈ b.zones, checkZone z = 0) (ho : ∀ z, o = some z → checkZone z = 0) (hz : 0 ≤ zi ∧ zi < b.zones.length) (hm : 0 ≤ m ∧ m ≤ 10000) (hd : 0 ≤ day ∧ day ≤ 100) :
    SC (fun _ => Try.prog) 112 [.int .i64 fun _ => zi, .int .i64 fun _ => m, .ptr 0 0, .ptr 1 0, .ptr 2 0, .ptr 3 0, .ptr 4 0] [.cells [lst 2 encZone default b.zones, lst 3 encTrain default b.old, lst 3 encTrain default b.new, .int .i64 fun _ => b.night, .int .i64 fun _ => b.last], .cells [knA o], .cells (ownC o), .cells [.int .i64 fun _ => day], .cells [.int .i64 fun _ => now]]
      fun v h => v = .int .i64 (fun _ => hour (pieces (b.zones.getD zi.toNat default)) (1440 * day + m) now) ∧ h = [.cells [lst 2 encZone default b.zones, lst 3 encTrain default b.old, lst 3 encTrain default b.new, .int .i64 fun _ => b.night, .int .i64 fun _ => b.last], .cells [knA (some (b.zones.getD zi.toNat default))], .cells (fixC (b.zones.getD zi.toNat default)), .cells [.int .i64 fun _ => day], .cells [.int .i64 fun _ => hour (pieces (b.zones.getD zi.toNat default)) (1440 * day + m) now]] := by
  obtain ⟨nt, hnt⟩ := nth_ex
  obtain ⟨k, rfl⟩ : ∃ k : Nat, zi = k := ⟨zi.toNat, by omega⟩
  have hzk : b.zones.getD (k : Int).toNat default = nt Zone default b.zones k := by rw [hnt]
  have hv := hb _ (nt_mem (d := default) hnt (l := b.zones) (i := k) (by omega))
  rw [hzk]
  refine con Try.func112 (body := bodyOf Try.f112) rfl (by decide +kernel) ?_
  simp only [lst_nt hnt]
  obtain ⟨z, hzz⟩ : ∃ z, nt Zone default b.zones (k : Int) = z := ⟨_, rfl⟩
  rw [hzz] at hv hzk ⊢
  have hlen := (asc_of hv).2.2.1
  cases o with
  | none =>
    unfold knA ownC
    (cbv; (try simp only [nc] at *); (try refine Chk.mk (by (try simp only [nc, allc0, allc1, allcE, allcI, Cn.p, and_true, true_and, decide_eq_true_eq, imp_self, List.length_cons, List.length_nil]); all_goals ((repeat' (first | apply And.intro | intro _)) <;> first | omega | rfl | exact Or.inl rfl | assumption | exact nb1 (by assumption) | exact nb2 (by assumption) | exact nb3 (by assumption) | exact nb4 (by assumption) | decide | decide +kernel | (simp [*]; done))) ?_))
    simp only [hzz]
    refine call0 (c113 z hlen) (by first | rfl | (simp only [zoneA, bookA, lst_nt hnt]; rfl)) fun r h₂ hp => ?_
    (try simp only [zoneA, bookA, lst_nt hnt] at hp)
    obtain ⟨rfl, rfl⟩ := hp
    have hps := pieces_small (small_of hv)
    (cbv; (try simp only [nc] at *); (try refine Chk.mk (by (try simp only [nc, allc0, allc1, allcE, allcI, Cn.p, and_true, true_and, decide_eq_true_eq, imp_self, List.length_cons, List.length_nil]); all_goals ((repeat' (first | apply And.intro | intro _)) <;> first | omega | rfl | exact Or.inl rfl | assumption | exact nb1 (by assumption) | exact nb2 (by assumption) | exact nb3 (by assumption) | exact nb4 (by assumption) | decide | decide +kernel | (simp [*]; done))) ?_))
    refine Br.isT rfl ?_
    (cbv; (try simp only [nc] at *); (try refine Chk.mk (by (try simp only [nc, allc0, allc1, allcE, allcI, Cn.p, and_true, true_and, decide_eq_true_eq, imp_self, List.length_cons, List.length_nil]); all_goals ((repeat' (first | apply And.intro | intro _)) <;> first | omega | rfl | exact Or.inl rfl | assumption | exact nb1 (by assumption) | exact nb2 (by assumption) | exact nb3 (by assumption) | exact nb4 (by assumption) | decide | decide +kernel | (simp [*]; done))) ?_))
    simp only [hzz]
    refine call0 (c90 z (small_of hv)) (by first | rfl | (simp only [zoneA, bookA, lst_nt hnt]; rfl)) fun r h₂ hp => ?_
    (try simp only [zoneA, bookA, lst_nt hnt] at hp)
    obtain ⟨rfl, rfl⟩ := hp
    generalize hL : pieces z = L at *
    (cbv; (try simp only [nc] at *); (try refine Chk.mk (by (try simp only [nc, allc0, allc1, allcE, allcI, Cn.p, and_true, true_and, decide_eq_true_eq, imp_self, List.length_cons, List.length_nil]); all_goals ((repeat' (first | apply And.intro | intro _)) <;> first | omega | rfl | exact Or.inl rfl | assumption | exact nb1 (by assumption) | exact nb2 (by assumption) | exact nb3 (by assumption) | exact nb4 (by assumption) | decide | decide +kernel | (simp [*]; done))) ?_))
    refine call0 (c91 day m (by omega) (by omega)) (by first | rfl | (simp only [zoneA, bookA, lst_nt hnt]; rfl)) fun r h₂ hp => ?_
    (try simp only [zoneA, bookA, lst_nt hnt] at hp)
    obtain ⟨rfl, rfl⟩ := hp
    (cbv; (try simp only [nc] at *); (try refine Chk.mk (by (try simp only [nc, allc0, allc1, allcE, allcI, Cn.p, and_true, true_and, decide_eq_true_eq, imp_self, List.length_cons, List.length_nil]); all_goals ((repeat' (first | apply And.intro | intro _)) <;> first | omega | rfl | exact Or.inl rfl | assumption | exact nb1 (by assumption) | exact nb2 (by assumption) | exact nb3 (by assumption) | exact nb4 (by assumption) | decide | decide +kernel | (simp [*]; done))) ?_))
    refine call0 (c92 L (1440 * day + m) now (by omega) hps.2.2 (by omega)) (by first | rfl | (simp only [zoneA, bookA, lst_nt hnt]; rfl)) fun r h₂ hp => ?_
    (try simp only [zoneA, bookA, lst_nt hnt] at hp)
    obtain ⟨rfl, rfl⟩ := hp
    (cbv; try simp only [nc] at *)
    ((try simp only [lstR_nt hnt, and_self, and_true, true_and]); (try rfl))
  | some z' =>
    have hv' := ho z' rfl
    have hps' := pieces_small (small_of hv')
    unfold knA ownC
    simp only
    generalize hL' : pieces z' = L' at *
    simp only [lst_nt hnt]
    (cbv; (try simp only [nc] at *); (try refine Chk.mk (by (try simp only [nc, allc0, allc1, allcE, allcI, Cn.p, and_true, true_and, decide_eq_true_eq, imp_self, List.length_cons, List.length_nil]); all_goals ((repeat' (first | apply And.intro | intro _)) <;> first | omega | rfl | exact Or.inl rfl | assumption | exact nb1 (by assumption) | exact nb2 (by assumption) | exact nb3 (by assumption) | exact nb4 (by assumption) | decide | decide +kernel | (simp [*]; done))) ?_))
    simp only [hzz]
    refine call0 (c113 z hlen) (by first | rfl | (simp only [zoneA, bookA, lst_nt hnt]; rfl)) fun r h₂ hp => ?_
    (try simp only [zoneA, bookA, lst_nt hnt] at hp)
    obtain ⟨rfl, rfl⟩ := hp
    have hps := pieces_small (small_of hv)
    (cbv; (try simp only [nc] at *); (try refine Chk.mk (by (try simp only [nc, allc0, allc1, allcE, allcI, Cn.p, and_true, true_and, decide_eq_true_eq, imp_self, List.length_cons, List.length_nil]); all_goals ((repeat' (first | apply And.intro | intro _)) <;> first | omega | rfl | exact Or.inl rfl | assumption | exact nb1 (by assumption) | exact nb2 (by assumption) | exact nb3 (by assumption) | exact nb4 (by assumption) | decide | decide +kernel | (simp [*]; done))) ?_))
    refine ⟨fun hb => ?_, fun hb => ?_⟩
    · (cbv; (try simp only [nc] at *); (try refine Chk.mk (by (try simp only [nc, allc0, allc1, allcE, allcI, Cn.p, and_true, true_and, decide_eq_true_eq, imp_self, List.length_cons, List.length_nil]); all_goals ((repeat' (first | apply And.intro | intro _)) <;> first | omega | rfl | exact Or.inl rfl | assumption | exact nb1 (by assumption) | exact nb2 (by assumption) | exact nb3 (by assumption) | exact nb4 (by assumption) | decide | decide +kernel | (simp [*]; done))) ?_))
      simp only [hzz]
      refine call0 (c90 z (small_of hv)) (by first | rfl | (simp only [zoneA, bookA, lst_nt hnt]; rfl)) fun r h₂ hp => ?_
      (try simp only [zoneA, bookA, lst_nt hnt] at hp)
      obtain ⟨rfl, rfl⟩ := hp
      generalize hL : pieces z = L at *
      (cbv; (try simp only [nc] at *); (try refine Chk.mk (by (try simp only [nc, allc0, allc1, allcE, allcI, Cn.p, and_true, true_and, decide_eq_true_eq, imp_self, List.length_cons, List.length_nil]); all_goals ((repeat' (first | apply And.intro | intro _)) <;> first | omega | rfl | exact Or.inl rfl | assumption | exact nb1 (by assumption) | exact nb2 (by assumption) | exact nb3 (by assumption) | exact nb4 (by assumption) | decide | decide +kernel | (simp [*]; done))) ?_))
      refine call0 (c91 day m (by omega) (by omega)) (by first | rfl | (simp only [zoneA, bookA, lst_nt hnt]; rfl)) fun r h₂ hp => ?_
      (try simp only [zoneA, bookA, lst_nt hnt] at hp)
      obtain ⟨rfl, rfl⟩ := hp
      (cbv; (try simp only [nc] at *); (try refine Chk.mk (by (try simp only [nc, allc0, allc1, allcE, allcI, Cn.p, and_true, true_and, decide_eq_true_eq, imp_self, List.length_cons, List.length_nil]); all_goals ((repeat' (first | apply And.intro | intro _)) <;> first | omega | rfl | exact Or.inl rfl | assumption | exact nb1 (by assumption) | exact nb2 (by assumption) | exact nb3 (by assumption) | exact nb4 (by assumption) | decide | decide +kernel | (simp [*]; done))) ?_))
      refine call0 (c92 L (1440 * day + m) now (by omega) hps.2.2 (by omega)) (by first | rfl | (simp only [zoneA, bookA, lst_nt hnt]; rfl)) fun r h₂ hp => ?_
      (try simp only [zoneA, bookA, lst_nt hnt] at hp)
      obtain ⟨rfl, rfl⟩ := hp
      (cbv; try simp only [nc] at *)
      ((try simp only [lstR_nt hnt, and_self, and_true, true_and]); (try rfl))
    · have he : z = z' := by
        simp at hb
        exact fix_inj hlen hb.1 (by have := hb.2.1; omega) hb.2.2.1 hb.2.2.2.1 hb.2.2.2.2.1 hb.2.2.2.2.2.1 hb.2.2.2.2.2.2.1 hb.2.2.2.2.2.2.2
      subst he
      rw [hL'] at hps
      (cbv; (try simp only [nc] at *); (try refine Chk.mk (by (try simp only [nc, allc0, allc1, allcE, allcI, Cn.p, and_true, true_and, decide_eq_true_eq, imp_self, List.length_cons, List.length_nil]); all_goals ((repeat' (first | apply And.intro | intro _)) <;> first | omega | rfl | exact Or.inl rfl | assumption | exact nb1 (by assumption) | exact nb2 (by assumption) | exact nb3 (by assumption) | exact nb4 (by assumption) | decide | decide +kernel | (simp [*]; done))) ?_))
      refine call0 (c91 day m (by omega) (by omega)) (by first | rfl | (simp only [zoneA, bookA, lst_nt hnt]; rfl)) fun r h₂ hp => ?_
      (try simp only [zoneA, bookA, lst_nt hnt] at hp)
      obtain ⟨rfl, rfl⟩ := hp
      (cbv; (try simp only [nc] at *); (try refine Chk.mk (by (try simp only [nc, allc0, allc1, allcE, allcI, Cn.p, and_true, true_and, decide_eq_true_eq, imp_self, List.length_cons, List.length_nil]); all_goals ((repeat' (first | apply And.intro | intro _)) <;> first | omega | rfl | exact Or.inl rfl | assumption | exact nb1 (by assumption) | exact nb2 (by assumption) | exact nb3 (by assumption) | exact nb4 (by assumption) | decide | decide +kernel | (simp [*]; done))) ?_))
      refine call0 (c92 L' (1440 * day + m) now (by omega) hps.2.2 (by omega)) (by first | rfl | (simp only [zoneA, bookA, lst_nt hnt]; rfl)) fun r h₂ hp => ?_
      (try simp only [zoneA, bookA, lst_nt hnt] at hp)
      obtain ⟨rfl, rfl⟩ := hp
      rw [hL']
      (cbv; try simp only [nc] at *)
      ((try simp only [lstR_nt hnt, and_self, and_true, true_and]); (try rfl))

end Go.Proofs.Ytlcgliadpalgfaa.Vm
