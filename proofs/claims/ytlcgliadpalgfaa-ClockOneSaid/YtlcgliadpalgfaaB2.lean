/- The abstract machine: the same operations, with the types' facts out of a table. -/
import Derived.Calls
import Derived.Laws.Entries
import Derived.Laws.Cells
import Derived.Laws.BitsLemmas
import Derived.Laws.Slices
import Derived.Laws.StructEq
import Derived.ChangeKeysEq
import Derived.Laws.CopyRow
import Derived.Laws.AppendOwn
import Derived.Test.YtlcgliadpalgfaaB0
import Derived.Test.YtlcgliadpalgfaaB1
set_option linter.unusedSimpArgs false
set_option linter.unusedVariables false
namespace Go.Proofs.Ytlcgliadpalgfaa.Vm
open Go

/-- Facts of types, as functions. -/
structure Tb where
  ti : TypeId → Option TI
  un : TypeId → Option TypeDesc
  eqs : TypeId → Nat → Bool
  /-- An array that is returned stays one that may be written. -/
  kp : Bool := false
  /-- Slots are resolved at the end of each region. -/
  rs : Bool := false
  /-- The code of a round of a range over a function. -/
  rd : Bool := false
  /-- Slots that are nil slices ahead of a range over a function: they get room (slot, cells of an element). -/
  gh : List (Nat × Nat) := []
  /-- Regions ahead of which ways meet again. -/
  cuts : List Nat := []
  /-- What is appended to a slice without room becomes an array that may be written. -/
  gr : Bool := false
  /-- The blocks of its own that a function keeps at its end, if they are named. -/
  ks : Option (List Nat) := none

structure Tb.Of (T : Tb) (P : Program) : Prop where
  ti : ∀ t i, T.ti t = some i → tiOf P t = some i
  un : ∀ t d, T.un t = some d → P.underlying t = some d
  eqs : ∀ t n, T.eqs t n = true → eqOk P t n = true

def zeroOkT (T : Tb) (e : TypeId) (s : Nat) : Bool := match T.ti e with
  | some i => (match i.zero with
    | some z => eqN z.cells.size s && eqN i.size s && leN i.bytes 1000000
    | none => false)
  | none => false

def binOpET (T : Tb) (op : BinOp) (t : TypeId) (nl : Bool) (x y : AV) : Option (AV × Cd) :=
  if nl then (match T.un t with
    | some (.slice _) => eqNilE op x
    | _ => none)
  else match x, y with
    | .int k a, .int k' b => (match op with
      | .shl | .shr => shiftE op k a b
      | _ => if kindEq k k' then binE op k a b else none)
    | .agg xs, .agg ys => if T.eqs t xs.length && eqN xs.length ys.length then
          (match op with
          | .eql => (eqIntCells xs ys).map fun g => (.bool g, [])
          | .neq => (eqIntCells xs ys).map fun g => (.bool (fun _ => !g ()), [])
          | _ => none) else none
    | .bool a, .bool b => (match T.un t with
      | some .bool => (match op with
        | .eql => some (.bool (fun _ => a () == b ()), [])
        | .neq => some (.bool (fun _ => a () != b ()), [])
        | _ => none)
      | _ => none)
    | _, _ => none

def evPT (T : Tb) (E : Operand → AV) (h : List Blk) : Op → Option (AV × Cd)
  | .move x | .assign x => some (E x, [])
  | .nilCheck x => (match E x with
    | .ptr i o => some (.ptr i o, [])
    | .iptr c o => some (.iptr c o, [])
    | .aptr id s e o => some (.aptr id s e o, [])
    | .gptr id s n e o => some (.gptr id s n e o, [])
    | .nptr id s e k o => some (.nptr id s e k o, [])
    | _ => none)
  | .pick c a b => pickE (E c) (E a) (E b)
  | .load t a => (match T.ti t with
    | some I => loadE I h (E a)
    | none => none)
  | .fieldAddr t x f => (match T.ti t with
    | some I => fieldAddrE I (E x) f
    | none => none)
  | .indexAddr t x i => (match T.ti t with
    | some I => indexAddrE I (E x) (E i)
    | none => none)
  | .binOp op t x y _ => binOpET T op t (nilOpd y) (E x) (E y)
  | .unOp .not _ x => (match E x with
    | .bool a => some (.bool (fun _ => !a ()), [])
    | _ => none)
  | .unOp .neg _ x => (match E x with
    | .int k a => some (norm k fun _ => 0 - a ())
    | _ => none)
  | .convert s d x => (match E x, T.ti s, T.ti d with
    | .int _ a, some _, some D => (match D.k with
      | .int k => some (norm k a)
      | _ => none)
    | _, _, _ => none)
  | .extract x i => (match E x with
    | .tup vs => (match vs[i]? with
      | some v => some (v, [])
      | none => none)
    | _ => none)
  | .build t ps => (match T.ti t with
    | some I => (match I.k, I.zero with
      | .struct fs, some z => if fs.all Option.isSome && ps.toList.all (fun p => plain (E p.2)) then (buildE fs E (ofVal z).cellsOf ps.toList).map (fun cs => (.agg cs, [])) else none
      | _, _ => none)
    | none => none)
  | .index t x i => (match E x, E i, T.un t with
    | .str s, .int _ e, some .string => some (.int .u8 fun _ => ((((s ())[(e ()).toNat]?).map UInt8.toNat).getD 0 : Nat), [dd fun _ => 0 ≤ e () ∧ e () < ((s ()).size : Int)])
    | _, _, _ => none)
  | .field t x i => (match T.ti t with
    | some I => (match I.k, E x with
      | .struct fs, .agg cs => (match fs[i]? with
        | some (some (off, sz, g)) => if g then (if leN (off + sz) cs.length then some (.agg ((cs.drop off).take sz), []) else none) else (match cs[off]? with
          | some v => some (v, [])
          | none => none)
        | _ => none)
      | _, _ => none)
    | none => none)
  | .makeFunc (.func f) a b => some (.fn f (a.toList.map E) (b.toList.map E), [])
  | .slice t x lo hi mx => (match T.ti t with
    | some I => sliceE I (E x) (lo.map E) (hi.map E) (mx.map E)
    | none => none)
  | .call { callee := .builtin .len, args, argTypes } => (match args.toList.map E, argTypes.toList with
    | [.isl _ n _ _], t :: _ => (match T.un t with
      | some (.slice _) => some (.int .i64 n, [])
      | _ => none)
    | [.msl _ _ _ n _], t :: _ => (match T.un t with
      | some (.slice _) => some (.int .i64 n, [])
      | _ => none)
    | [.gsl _ n], t :: _ => (match T.un t with
      | some (.slice _) => some (.int .i64 n, [])
      | _ => none)
    | [.nsub _ _ n], t :: _ => (match T.un t with
      | some (.slice _) => some (.int .i64 n, [])
      | _ => none)
    | _, _ => none)
  | .call { callee := .builtin .max, args, .. } => (match args.toList.map E with
    | .int k x :: r => maxE k true r x
    | _ => none)
  | .call { callee := .builtin .min, args, .. } => (match args.toList.map E with
    | .int k x :: r => maxE k false r x
    | _ => none)
  | _ => none

def appendET (T : Tb) (t t' : TypeId) (dst src : AV) (h : List Blk) : Option (AV × List Blk × Cd) :=
  match T.un t, T.un t' with
  | some (.slice e), some (.slice _) => (match dst, src with
    | .isl s₁ n f tk, .isl sz m g _ => if zeroOkT T e sz then (match tk with
      | .nil => some (.isl sz (fun _ => n () + m ()) (snocF n f g) (.own h.length), h ++ [.tok sz fun _ => n () + m ()], [dd fun _ => n () + m () ≤ 1000000])
      | .exact => if eqN s₁ sz then (if T.gr then some (.gsl h.length (fun _ => n () + m ()), h ++ [.gar sz (fun _ => n () + m ()) (snocF n f g)], [dd fun _ => n () = 0, dd fun _ => n () + m () ≤ 1000000]) else some (.isl sz (fun _ => n () + m ()) (snocF n f g) (.own h.length), h ++ [.tok sz fun _ => n () + m ()], [dd fun _ => n () + m () ≤ 1000000])) else none
      | .own id => if eqN s₁ sz then (match h[id]? with
        | some (.tok s hw) => if eqN s sz then some (.isl sz (fun _ => n () + m ()) (snocF n f g) (.own id), h.set id (.tok sz fun _ => n () + m ()), [dd fun _ => n () = hw (), dd fun _ => n () + m () ≤ 1000000]) else none
        | _ => none) else none
      | .none => none) else none
    | .gsl id n, .isl sz m g _ => if zeroOkT T e sz then (match h[id]? with
      | some (.gar s n0 f) => if eqN s sz then some (.gsl id (fun _ => n0 () + m ()), h.set id (.gar sz (fun _ => n0 () + m ()) (snocF n0 f g)), [dd fun _ => n () = n0 (), dd fun _ => n0 () + m () ≤ 1000000]) else none
      | _ => none) else none
    | .gsl q n, .lit s cs => appendLit (zeroOkT T e s) q n s cs h
    | .isl s n f .exact, .nsub id a l => appendSub (T.gr && zeroOkT T e s) s n f id a l h
    | _, _ => none)
  | _, _ => none

def buildSliceET (T : Tb) (E : Operand → AV) (t : TypeId) (n : Nat) (ps : List (Nat × Operand)) : Option AV :=
  match T.ti t with
  | some I => (match I.k with
    | .slice e s _ => if zeroOkT T e s && eqN ps.length n && leN (n * s) 16777216 then (match litRows E s 0 ps with
      | some rows => some (islLit s rows)
      | none => litOne E s ps) else none
    | _ => none)
  | none => none

def evET (T : Tb) (E : Operand → AV) (h : List Blk) : Op → Option (AV × List Blk × Cd)
  | .alloc t => (match T.ti t with
    | some I => (match I.zero with
      | some z => some (.ptr h.length 0, h ++ [.cells (ofVal z).cellsOf], [])
      | none => none)
    | none => none)
  | .box _ x => if plain (E x) then some (.ptr h.length 0, h ++ [.cells (E x).cellsOf], []) else none
  | .store t a x => (match E a, T.ti t with
    | .ptr id off, some I => (match cellsAt h id with
      | some cs => if plain (E x) && eqN (E x).cellsOf.length I.size && leN (off + I.size) cs.length && (E x).cellsOf.all leaf then some (.undef, h.set id (.cells (putC cs off (E x).cellsOf)), []) else none
      | none => none)
    | .aptr id s e off, some I => arrStoreE I id s e off (E x) h
    | .gptr id s n e off, some I => garStoreE I id s n e off (E x) h
    | .nptr id s e k off, some I => famStoreE I id s e k off (E x) h
    | _, _ => none)
  | .makeSlice t n c => (match T.ti t with
    | some I => (if T.gr then makeGarE else makeSliceE) I (match I.k with
      | .slice e _ _ => (T.ti e).bind (·.zero)
      | _ => none) (E n) (E c) h
    | none => none)
  | .buildSlice t n ps => (buildSliceET T E t n ps.toList).map fun v => (v, h, [])
  | .makeMap t none => (match T.un t with
    | some (.map _ _) => some (.map h.length, h ++ [.mapB fun _ _ => false], [])
    | _ => none)
  | .mapUpdate t m k x => (match E m, E k, E x, T.un t with
    | .map id, .int .i64 n, .bool b, some (.map kt _) => (match h[id]?, T.un kt with
      | some (.mapB f), some (.int .i64) => some (.undef, h.set id (.mapB fun e u => if e () = n () then b u else f e u), [])
      | _, _ => none)
    | _, _, _, _ => none)
  | .lookup t m k false => (match E m, E k, T.un t with
    | .map id, .int .i64 n, some (.map kt et) => (match h[id]?, T.un kt, (T.ti et).bind (·.zero) with
      | some (.mapB f), some (.int .i64), some (.bool false) => some (.bool (f n), h, [])
      | _, _, _ => none)
    | _, _, _ => none)
  | .call { callee := .builtin .append, args, argTypes } => (match args.toList, argTypes.toList with
    | [x, y], [t, t'] => appendET T t t' (E x) (E y) h
    | _, _ => none)
  | .call { callee := .builtin .copy, args, argTypes } => (match args.toList, argTypes.toList with
    | [x, y], t :: _ => (match T.un t with
      | some (.slice e) => (match T.ti e with
        | some J => copyE J.size (E x) (E y) h
        | none => none)
      | _ => none)
    | _, _ => none)
  | .call { callee := .builtin .clear, args, argTypes } => (match args.toList, argTypes.toList with
    | [x], t :: _ => (match T.un t with
      | some (.slice e) => (match T.ti e with
        | some J => clearE J.zero J.size (E x) h
        | none => none)
      | _ => none)
    | _, _ => none)
  | _ => none

section
variable {P : Program} {T : Tb}

theorem zeroOkT_ok (hT : T.Of P) {e : TypeId} {s : Nat} (h : zeroOkT T e s = true) : zeroOk P e s = true := by
  unfold zeroOkT at h
  split at h
  · rename_i i hi
    have := hT.ti _ _ hi
    unfold tiOf at this
    split at this
    · rename_i j d hj hd
      simp only [Option.some.injEq] at this
      subst this
      unfold zeroOk
      rw [hj]
      exact h
    · cases this
  · cases h

theorem binOpET_ok (hT : T.Of P) {op : BinOp} {t : TypeId} {nl : Bool} {x y : AV} {r : AV × Cd} (h : binOpET T op t nl x y = some r) : binOpE P op t nl x y = some r := by
  unfold binOpET at h
  unfold binOpE
  split at h
  · rename_i hn
    rw [if_pos hn]
    cases hu : T.un t with
    | none => rw [hu] at h; cases h
    | some d => rw [hu] at h; rw [hT.un _ _ hu]; exact h
  · rename_i hn
    rw [if_neg hn]
    split at h
    · exact h
    · rename_i xs ys
      split at h
      · rename_i hc
        simp only [Bool.and_eq_true] at hc
        simp only [Bool.and_eq_true]
        rw [if_pos ⟨hT.eqs _ _ hc.1, hc.2⟩]
        exact h
      · cases h
    · split at h
      · rename_i hu
        rw [hT.un _ _ hu]
        exact h
      · cases h
    · cases h

theorem evPT_ok (hT : T.Of P) {E : Operand → AV} {h : List Blk} {op : Op} {r : AV × Cd} (hv : evPT T E h op = some r) : evP P E h op = some r := by
  have one : ∀ {α : Type} {t : TypeId} {f : TI → Option α} {x : α}, (match T.ti t with
      | some I => f I
      | none => none) = some x → (match tiOf P t with
      | some I => f I
      | none => none) = some x := by
    intro α t f x h
    cases hi : T.ti t with
    | none => rw [hi] at h; cases h
    | some i => rw [hi] at h; rw [hT.ti _ _ hi]; exact h
  cases op with
  | load t a => exact one (f := fun I => loadE I h (E a)) hv
  | fieldAddr t x f => exact one (f := fun I => fieldAddrE I (E x) f) hv
  | indexAddr t x i => exact one (f := fun I => indexAddrE I (E x) (E i)) hv
  | build t ps =>
    simp only [evPT] at hv
    simp only [evP]
    cases hi : T.ti t with
    | none => simp only [hi] at hv; cases hv
    | some i => simp only [hi] at hv; simp only [hT.ti _ _ hi]; exact hv
  | field t x i =>
    simp only [evPT] at hv
    simp only [evP]
    cases hi : T.ti t with
    | none => simp only [hi] at hv; cases hv
    | some i => simp only [hi] at hv; simp only [hT.ti _ _ hi]; exact hv
  | unOp op _ x => cases op <;> exact hv
  | makeFunc f a b => cases f <;> exact hv
  | slice t x lo hi mx => exact one (f := fun I => sliceE I (E x) (lo.map E) (hi.map E) (mx.map E)) hv
  | index t x i =>
    simp only [evPT] at hv
    simp only [evP]
    split at hv
    · rename_i h1 h2 hu
      simp only [h1, h2, hT.un _ _ hu]
      exact hv
    · cases hv
  | binOp op t x y _ => exact binOpET_ok hT hv
  | convert s d x =>
    simp only [evPT] at hv
    simp only [evP]
    cases hi : T.ti s with
    | none => simp only [hi] at hv; split at hv <;> first | cases hv | (rename_i h _; cases h)
    | some i =>
      cases hj : T.ti d with
      | none => simp only [hi, hj] at hv; split at hv <;> first | cases hv | (rename_i h; cases h)
      | some j => simp only [hi, hj] at hv; simp only [hT.ti _ _ hi, hT.ti _ _ hj]; exact hv
  | call c =>
    obtain ⟨callee, args, ats⟩ := c
    cases callee with
    | builtin b =>
      cases b with
      | len =>
        simp only [evPT] at hv
        simp only [evP]
        split at hv
        · split at hv
          · rename_i h1 h2 _ _ hu
            simp only [h1, h2, hT.un _ _ hu]
            exact hv
          · cases hv
        · split at hv
          · rename_i h1 h2 _ _ hu
            simp only [h1, h2, hT.un _ _ hu]
            exact hv
          · cases hv
        · split at hv
          · rename_i h1 h2 _ _ hu
            simp only [h1, h2, hT.un _ _ hu]
            exact hv
          · cases hv
        · split at hv
          · rename_i h1 h2 _ _ hu
            simp only [h1, h2, hT.un _ _ hu]
            exact hv
          · cases hv
        · cases hv
      | _ => exact hv
    | _ => exact hv
  | _ => exact hv

theorem appendET_ok (hT : T.Of P) {t t' : TypeId} {x y : AV} {h : List Blk} {r : AV × List Blk × Cd} (hv : appendET T t t' x y h = some r) : appendE T.gr P t t' x y h = some r := by
  unfold appendET at hv
  unfold appendE
  split at hv
  case h_2 => cases hv
  rename_i e e' hu hu'
  simp only [hT.un _ _ hu, hT.un _ _ hu']
  split at hv
  case h_5 => cases hv
  case h_4 =>
    rename_i s n f id a l
    have hz : (T.gr && zeroOkT T e s) = true := by
      cases hz : T.gr && zeroOkT T e s with
      | true => rfl
      | false => rw [hz] at hv; simp [appendSub] at hv
    rw [hz] at hv
    simp only [Bool.and_eq_true] at hz
    simp only [hz.1, zeroOkT_ok hT hz.2, Bool.and_self]
    exact hv
  case h_3 =>
    rename_i q n s cs
    have hz : zeroOkT T e s = true := by
      cases hz : zeroOkT T e s with
      | true => rfl
      | false => rw [hz] at hv; simp [appendLit] at hv
    rw [hz] at hv
    simp only [zeroOkT_ok hT hz]
    exact hv
  all_goals
    split at hv
    case isFalse => cases hv
    rename_i hz
    simp only [zeroOkT_ok hT hz, if_true]
    exact hv

theorem buildSliceET_ok (hT : T.Of P) {E : Operand → AV} {t : TypeId} {n : Nat} {ps : List (Nat × Operand)} {r : AV} (hv : buildSliceET T E t n ps = some r) : buildSliceE P E t n ps = some r := by
  unfold buildSliceET at hv
  unfold buildSliceE
  cases hi : T.ti t with
  | none => simp only [hi] at hv; cases hv
  | some i =>
    simp only [hi] at hv
    simp only [hT.ti _ _ hi]
    split at hv
    · rename_i hk
      simp only [hk]
      split at hv
      · rename_i hz
        simp only [Bool.and_eq_true] at hz ⊢
        rw [if_pos ⟨⟨zeroOkT_ok hT hz.1.1, hz.1.2⟩, hz.2⟩]
        exact hv
      · cases hv
    · cases hv

theorem evET_ok (hT : T.Of P) {E : Operand → AV} {h : List Blk} {op : Op} {r : AV × List Blk × Cd} (hv : evET T E h op = some r) : evE T.gr P E h op = some r := by
  unfold evET at hv
  split at hv
  · rename_i t
    simp only [evE]
    cases hi : T.ti t with
    | none => simp only [hi] at hv; cases hv
    | some i => simp only [hi] at hv; simp only [hT.ti _ _ hi]; exact hv
  · exact hv
  · rename_i t a x
    simp only [evE]
    split at hv
    · rename_i ha hi
      simp only [ha, hT.ti _ _ hi]
      exact hv
    · rename_i ha hi
      simp only [ha, hT.ti _ _ hi]
      exact hv
    · rename_i ha hi
      simp only [ha, hT.ti _ _ hi]
      exact hv
    · rename_i ha hi
      simp only [ha, hT.ti _ _ hi]
      exact hv
    · cases hv
  · rename_i t n c
    simp only [evE]
    cases hi : T.ti t with
    | none => simp only [hi] at hv; cases hv
    | some I =>
      simp only [hi] at hv
      simp only [hT.ti _ _ hi]
      obtain ⟨k, ag, sz, by_, z⟩ := I
      cases k with
      | slice e s b =>
        simp only at hv ⊢
        cases he : T.ti e with
        | none =>
          simp only [he, Option.bind_none] at hv
          cases hg : T.gr <;> simp only [hg, if_true, Bool.false_eq_true, if_false] at hv
          · unfold makeSliceE at hv
            split at hv
            · rename_i h4; cases h4
            · cases hv
          · unfold makeGarE at hv
            split at hv
            · rename_i h4; cases h4
            · cases hv
        | some J =>
          simp only [he] at hv
          simp only [hT.ti _ _ he]
          exact hv
      | _ =>
        simp only at hv
        cases hg : T.gr <;> simp only [hg, if_true, Bool.false_eq_true, if_false] at hv
        · unfold makeSliceE at hv
          split at hv
          · rename_i h4; cases h4
          · cases hv
        · unfold makeGarE at hv
          split at hv
          · rename_i h4; cases h4
          · cases hv
  · rename_i t n ps
    simp only [evE]
    cases hb : buildSliceET T E t n ps.toList with
    | none => simp only [hb] at hv; cases hv
    | some v => simp only [hb] at hv; rw [buildSliceET_ok hT hb]; exact hv
  · rename_i t
    simp only [evE]
    split at hv
    · rename_i hu
      simp only [hT.un _ _ hu]
      exact hv
    · cases hv
  · rename_i t m k x
    simp only [evE]
    split at hv
    case h_2 => cases hv
    rename_i h1 h2 h3 hu
    simp only [h1, h2, h3, hT.un _ _ hu]
    split at hv
    case h_2 => cases hv
    rename_i h4 h5
    simp only [h4, hT.un _ _ h5]
    exact hv
  · rename_i t m k
    simp only [evE]
    split at hv
    case h_2 => cases hv
    rename_i h1 h2 hu
    simp only [h1, h2, hT.un _ _ hu]
    split at hv
    case h_2 => cases hv
    rename_i f h4 h5 h6
    have h7 : ∀ et, (T.ti et).bind (·.zero) = some (.bool false) → (tiOf P et).bind (·.zero) = some (.bool false) := fun et h6 => by
      cases hi : T.ti et with
      | none => rw [hi] at h6; cases h6
      | some i => rw [hi] at h6; rw [hT.ti _ _ hi]; exact h6
    simp only [h4, hT.un _ _ h5, h7 _ h6]
    exact hv
  · simp only [evE]
    split at hv
    · rename_i h1 h2
      simp only [h1, h2]
      exact appendET_ok hT hv
    · cases hv
  · simp only [evE]
    split at hv
    case h_2 => cases hv
    rename_i h1 h2
    simp only [h1, h2]
    split at hv
    case h_2 => cases hv
    rename_i hu
    split at hv
    case h_2 => cases hv
    rename_i hJ
    simp only [hT.un _ _ hu, hT.ti _ _ hJ]
    exact hv
  · simp only [evE]
    split at hv
    case h_2 => cases hv
    rename_i h1 h2
    simp only [h1, h2]
    split at hv
    case h_2 => cases hv
    rename_i hu
    split at hv
    case h_2 => cases hv
    rename_i hJ
    simp only [hT.un _ _ hu, hT.ti _ _ hJ]
    exact hv
  · cases hv
end
end Go.Proofs.Ytlcgliadpalgfaa.Vm
