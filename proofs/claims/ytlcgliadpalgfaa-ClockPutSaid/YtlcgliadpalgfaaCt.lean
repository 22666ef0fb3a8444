/- The chapter's examples, run: facts of calls at given values. -/
import Derived.Test.YtlcgliadpalgfaaCr
import Derived.KernelRfl
set_option linter.unusedSimpArgs false
set_option linter.unusedVariables false
namespace Go.Proofs.Ytlcgliadpalgfaa.Vm
open Go Go.Proofs Sp
set_option maxRecDepth 100000

def gT (f : FuncId) : Tb := { tb with kp := false, rs := true, gh := bif eqN f 93 then [(5, 3)] else [] }
theorem gT_ok (f : FuncId) : (gT f).Of ((fun _ => Try.prog : Unit → Program) ()) := ⟨tbTi_ok, tbUn_ok, tbEq_ok⟩

/-- A call at given values, and its result. -/
structure Fact where
  f : FuncId
  xs : List AV
  r : AV

structure Fact.Ok (a : Fact) : Prop where
  sc : SC (fun _ => Try.prog) a.f a.xs [] fun r h => r = a.r ∧ h = []
  hx : ∀ h, a.xs.map (tell false [] h 5) = a.xs
  hr : ∀ m, ren (phi [] m) 5 a.r = a.r

def factO : List Fact → FuncId → List AV → List Blk → Option (AV × List Blk)
  | [], _, _, _ => none
  | a :: l, f, xs, h => (match eqN f a.f && all2 (eqAV 8) xs a.xs with
    | true => some (a.r, h)
    | false => factO l f xs h)
def orO (l : List Fact) (f : FuncId) (xs : List AV) (h : List Blk) : Option (AV × List Blk) := match factO l f xs h with
  | some x => some x
  | none => sortO f xs h

theorem To.imp {xs ys : List AV} {h : List Blk} (he : all2 (eqAV 8) xs ys = true) : To xs h ys h := fun _ R t H hs => by
  obtain ⟨e1, e2⟩ := all2_get he
  exact ⟨R, rfl, H, Ext.refl _ _, RC.le.refl _, hs.1.trans e1, fun i b hi => let ⟨c, h1, h2⟩ := e2 i b hi; (eqAV_ok 8 h2).f _ _ (hs.2 i c h1)⟩

theorem factO_ok : ∀ {l : List Fact}, (∀ a ∈ l, a.Ok) → ∀ {f : FuncId} {xs : List AV} {h : List Blk} {r : AV} {h' : List Blk}, factO l f xs h = some (r, h') → SC (fun _ => Try.prog) f xs h fun r₂ h₂ => r₂ = r ∧ h₂ = h'
  | [], _, f, xs, h, r, h', hO => by cases hO
  | a :: l, hl, f, xs, h, r, h', hO => by
    unfold factO at hO
    split at hO
    · rename_i hc
      simp only [Bool.and_eq_true] at hc
      obtain ⟨h1, h2⟩ := hc
      have h1 := eqN_ok h1
      subst h1
      simp only [Option.some.injEq, Prod.mk.injEq] at hO
      obtain ⟨rfl, rfl⟩ := hO
      obtain ⟨k1, k2, k3⟩ := hl a (List.mem_cons_self ..)
      refine SC.to (To.imp h2) (call0 k1 (k2 h) fun r₂ h₂ hp => ?_)
      obtain ⟨rfl, rfl⟩ := hp
      exact ⟨k3 _, by simp [back, backGo]⟩
    · exact factO_ok (fun x hx => hl x (List.mem_cons_of_mem _ hx)) hO

theorem orO_ok {l : List Fact} (hl : ∀ a ∈ l, a.Ok) (f : FuncId) (xs : List AV) (h : List Blk) (r : AV) (h' : List Blk) (hO : orO l f xs h = some (r, h')) : SC (fun _ => Try.prog) f xs h fun r₂ h₂ => r₂ = r ∧ h₂ = h' := by
  unfold orO at hO
  split at hO
  · rename_i x hx
    cases hO
    exact factO_ok hl hx
  · exact sortO_ok hO

theorem runF {l : List Fact} (hl : ∀ a ∈ l, a.Ok) (n : Nat) {f : FuncId} {xs : List AV} {q : AV → List Blk → Bool} {Post : AV → List Blk → Prop}
    (hr : callB ⟨fun f => Try.prog.funcs[f]?, gT, orO l⟩ n f xs [] q = true) (hq : ∀ r h, q r h = true → Post r h) : SC (fun _ => Try.prog) f xs [] Post :=
  SC.ofRun (V := ⟨fun f => Try.prog.funcs[f]?, gT, orO l⟩) ⟨fun f fn h => ⟨h, by
    have := List.all_eq_true.1 names_ok fn (Array.mem_toList_iff.2 (Array.mem_of_getElem? h))
    simpa using this⟩, gT_ok, orO_ok hl⟩ hm hr hq

theorem fact (l : List Fact) (hl : ∀ a ∈ l, a.Ok) (a : Fact) (hx : ∀ h, a.xs.map (tell false [] h 5) = a.xs) (hr : ∀ m, ren (phi [] m) 5 a.r = a.r)
    (hrun : callB ⟨fun f => Try.prog.funcs[f]?, gT, orO l⟩ 4000 a.f a.xs [] (fun r h => h.isEmpty && all2 (eqAV 8) [r] [a.r]) = true) : a.Ok :=
  ⟨SC.less (runF hl 4000 hrun fun r h hq => by
    simp only [Bool.and_eq_true, List.isEmpty_iff] at hq
    obtain ⟨rfl, h2⟩ := hq
    exact ⟨a.r, [], To.imp h2, rfl, rfl⟩), hx, hr⟩

theorem noF : ∀ a ∈ ([] : List Fact), a.Ok := fun a h => by cases h
theorem consF {a : Fact} {l : List Fact} (h : a.Ok) (hl : ∀ a ∈ l, a.Ok) : ∀ b ∈ a :: l, b.Ok := fun b hb => by
  rcases List.mem_cons.1 hb with rfl | hb
  · exact h
  · exact hl b hb

def sl (s : Nat) (rows : List (List AV)) : AV := .isl s (fun _ => (rows.length : Int)) (fun e => rows.getD (e ()).toNat (rows.headD [])) .none
def forthA : AV := .agg [iA 0, sl 2 [[iA 1560, iA 60]]]
def backA : AV := .agg [iA 60, sl 2 [[iA 3000, iA (-60)]]]
def row (l : List Int) : List AV := l.map iA
def old0 : List AV := [iA 7, iA 127, sl 4 [row [0, 0, 0, 60], row [1, 1, 200, 210], row [2, 1, 300, 0]]]
def new0 : List AV := [iA 7, iA 127, sl 4 [row [0, 0, 0, 90], row [2, 1, 280, 0]]]
def new1 : List AV := [iA 9, iA 127, sl 4 [row [1, 1, 0, 400], row [2, 1, 450, 0]]]
def bookX : AV := .agg [sl 2 [[iA 0, sl 2 [[iA 1560, iA 60]]], [iA 60, sl 2 [[iA 3000, iA (-60)]]]], sl 3 [old0], sl 3 [new0, new1], iA 1, iA 2]
def legsX : AV := sl 3 [row [7, 0, 1], row [9, 1, 2]]
def runA (t : List AV) (day : Int) (l : List (List AV)) : AV := .agg (t ++ [iA day, sl 3 l])

def fCk : Fact := ⟨28, [bookX], iA 0⟩
def fR0 : Fact := ⟨77, [bookX, .agg old0, iA 0], runA old0 0 [row [0, 60, 60], row [1, 140, 150], row [2, 240, 240]]⟩
def fR1 : Fact := ⟨77, [bookX, .agg new0, iA 1], runA new0 1 [row [0, 1530, 1530], row [2, 1660, 1660]]⟩
def fR2 : Fact := ⟨77, [bookX, .agg new1, iA 1], runA new1 1 [row [1, 1780, 1780], row [2, 1830, 1830]]⟩
def fR3 : Fact := ⟨77, [bookX, .agg new0, iA 2], runA new0 2 [row [0, 2910, 2910], row [2, 3160, 3160]]⟩
def fR4 : Fact := ⟨77, [bookX, .agg new1, iA 2], runA new1 2 [row [1, 3280, 3280], row [2, 3330, 3330]]⟩
theorem fR0_ok : fR0.Ok := fact [] noF _ (fun _ => rfl) (fun _ => rfl) (by kernel_rfl)
theorem fR1_ok : fR1.Ok := fact [] noF _ (fun _ => rfl) (fun _ => rfl) (by kernel_rfl)
theorem fR2_ok : fR2.Ok := fact [] noF _ (fun _ => rfl) (fun _ => rfl) (by kernel_rfl)
theorem fR3_ok : fR3.Ok := fact [] noF _ (fun _ => rfl) (fun _ => rfl) (by kernel_rfl)
theorem fR4_ok : fR4.Ok := fact [] noF _ (fun _ => rfl) (fun _ => rfl) (by kernel_rfl)
theorem fCk_ok : fCk.Ok := fact [] noF _ (fun _ => rfl) (fun _ => rfl) (by kernel_rfl)
def runsF : List Fact := [fR0, fR1, fR2, fR3, fR4]
theorem runsF_ok : ∀ a ∈ runsF, a.Ok := consF fR0_ok (consF fR1_ok (consF fR2_ok (consF fR3_ok (consF fR4_ok noF))))
def fL0 : Fact := ⟨93, [bookX, .agg (row [7, 0, 1])], sl 3 [row [0, 60, 140]]⟩
def fL1 : Fact := ⟨93, [bookX, .agg (row [9, 1, 2])], sl 3 [row [1, 1780, 1830], row [2, 3280, 3330]]⟩
theorem fL0_ok : fL0.Ok := fact runsF runsF_ok _ (fun _ => rfl) (fun _ => rfl) (by kernel_rfl)
theorem fL1_ok : fL1.Ok := fact runsF runsF_ok _ (fun _ => rfl) (fun _ => rfl) (by kernel_rfl)
end Go.Proofs.Ytlcgliadpalgfaa.Vm
