/- The abstract machine: ranges over functions, frames, lists as slices, in-place calls, runs at given values. -/
import Derived.Calls
import Derived.Laws.Entries
import Derived.Laws.Cells
import Derived.Laws.BitsLemmas
import Derived.Laws.Slices
import Derived.Laws.StructEq
import Derived.ChangeKeysEq
import Derived.Laws.CopyRow
import Derived.Laws.AppendOwn
import Derived.Orders
import Derived.Test.YtlcgliadpalgfaaRows
import Derived.RangeFuncIn
import Derived.RangeFuncRecord
import Derived.Test.YtlcgliadpalgfaaB0
import Derived.Test.YtlcgliadpalgfaaB1
import Derived.Test.YtlcgliadpalgfaaB2
import Derived.Test.YtlcgliadpalgfaaB3
import Derived.Test.YtlcgliadpalgfaaB4
import Derived.Test.YtlcgliadpalgfaaB5
import Derived.Test.YtlcgliadpalgfaaB6
set_option linter.unusedSimpArgs false
set_option linter.unusedVariables false
/- The abstract machine: ranges over functions. -/
namespace Go.Proofs.Ytlcgliadpalgfaa.Vm
open Go

/-- The slots of a round. -/
def putPs : List Tmp → List AV → List AV → List AV
  | t :: ps, v :: vs, s => putPs ps vs (s.set t v)
  | _, _, s => s

def endRd (n id : Nat) (j : Option Code) (Post : AV → List Blk → Prop) (h : List Blk) : Prop := match h[id]? with
  | some (.loop s d) => Post (.bool fun _ => j.isNone) (sel true (List.range n) (h.set id (.loop s { d with st := if j.isNone then .ready else .done, pe := j })))
  | _ => False

/-- At the end of a round. -/
def endK (n id : Nat) (Post : AV → List Blk → Prop) (e : Ex) (_ : List AV) (h : List Blk) (c : Cd) : Prop := match e with
  | .normal => chk c (endRd n id none Post h)
  | .exit i => chk c (endRd n id (some (.exit i)) Post h)
  | .ret => chk c (endRd n id (some .ret) Post h)

/-- Behind the assignments of a round; D: what it is to go on. -/
def begK (D : List AV → List Blk → Prop) (id : Nat) (e : Ex) (s : List AV) (h : List Blk) (c : Cd) : Prop := match e with
  | .normal => chk c (match h[id]? with
    | some (.loop s' d) => (match d.st with
      | .ready => D s (h.set id (.loop s' { d with st := .busy }))
      | _ => False)
    | _ => False)
  | _ => False

section
variable {T : Tb} {p : Unit → Program} {P : Program}

theorem putPs_ok {R : RC} : ∀ (ps : List Tmp) (xs : List AV) (us : List Value) {s : List AV} {t : Array Value}, xs.length = us.length → (∀ j c, xs[j]? = some c → VR R c (us.getD j undef)) → SL R s t → SL R (putPs ps xs s) ((ps.zip us).foldl (fun t (a, v) => t.setIfInBounds a v) t)
  | [], xs, us, s, t, _, _, hs => by simpa [putPs] using hs
  | _ :: _, [], us, s, t, hl, _, hs => by
    have : us = [] := List.eq_nil_of_length_eq_zero (by simpa using hl.symm)
    subst this
    simpa [putPs] using hs
  | a :: ps, x :: xs, [], s, t, hl, _, hs => by simp at hl
  | a :: ps, x :: xs, u :: us, s, t, hl, hx, hs => by
    simp only [List.zip_cons_cons, List.foldl_cons, putPs]
    exact putPs_ok ps xs us (by simpa using hl) (fun j c hj => by simpa using hx (j + 1) c (by simpa using hj)) (hs.set (by simpa using hx 0 x rfl) a)

theorem mkF_atR (b : FB) (t : Array Value) (ds : List Deferred) (todo : List Item) : mkF b t ds todo = ({ (default : Frame) with fn := b.fn, kind := b.kind, roundOf := b.roundOf } : Frame).atR { tmps := t, defers := ds } todo := rfl


theorem HR.loopSet {G : Nat → Nat → Nat → Prop} {R : RC} {h : List Blk} (H : HR G R h) {id : Nat} {s : List AV} {d : LoopD} (hi : h[id]? = some (.loop s d)) :
    ∃ l, R.w.heap[(R.α id).b]? = some (.loop l) ∧ l.params = d.ps ∧ l.assign = d.a ∧ l.body = d.x ∧ l.state = d.st ∧ l.pending = d.pe ∧ SL R s l.tmps ∧ ∀ (st : LoopState) (pe : Option Code),
      ∃ R', R'.w = R.w.putObj (R.α id).b (.loop { l with state := st, pending := pe }) ∧ R'.α = R.α ∧ HR G R' (h.set id (.loop s { d with st, pe })) ∧ Ext R h R' (h.set id (.loop s { d with st, pe })) ∧ R.le R' := by
  obtain ⟨l, h1, h2, h3, h4, h5, h6, h7⟩ := H.blk id _ hi
  refine ⟨l, h1, h2, h3, h4, h5, h6, h7, fun st pe => ?_⟩
  have hlt : (R.α id).b < R.w.heap.size := (Array.getElem?_eq_some_iff.1 h1).1
  obtain ⟨R', a1, a2, a3, a4, a5, a6⟩ := H.upd hi rfl (blk' := .loop s { d with st, pe }) rfl (R.w.putObj (R.α id).b (.loop { l with state := st, pending := pe })) rfl rfl rfl World.putObj_size (fun b hb => World.putObj_heap_other hb)
    (fun R' hle hα hw => ⟨{ l with state := st, pending := pe }, by rw [hα, hw]; exact World.putObj_heap_same hlt, h2, h3, h4, rfl, rfl, h7.mono hle⟩)
  exact ⟨R', a1, a3, a4, a5, a6⟩

/-- It is enough to look at a round that counts its blocks. -/
theorem YC.ofN {p : Unit → Program} {id : Nat} {xs : List AV} {h : List Blk} {Post : AV → List Blk → Prop} (hz : zOk h = true)
    (H : ∀ (G : Nat → Nat → Nat → Prop) (R : RC) (vs : Array Value), HR G R h → R.n0 = h.length → RowA R xs vs → ∃ f tmps a x, (Instr.yield (R.α id).b vs).run (p ()) R.w = .ok (.round (R.α id).b f tmps a x) R.w ∧
      ∀ (c : Frame) (cs : List Frame), ∃ v R' r h', Steps (p ()) (lone (Frame.round (R.α id).b f tmps a x .normal) (c :: cs) R.w) (lone (c.finish v) cs R'.w) ∧ HR G R' h' ∧ Ext R h R' h' ∧ R.le R' ∧ VR R' r v ∧ Post r h') : YC p id xs h Post :=
  ⟨fun G R vs hr ha => by
    have hz' : ∀ (id z s : Nat) (N : Unit → Int) (m : (Unit → Int) → Unit → Int) (g : (Unit → Int) → (Unit → Int) → List AV), h[id]? = some (Blk.fam z s N m g) → h.length ≤ z := fun id z s N m g hi => by
      simp only [zOk, List.all_eq_true] at hz
      exact leN_ok (hz _ (List.mem_of_getElem? hi))
    have H₁ := hr.setN0 h.length (by rw [hr.len]; exact Nat.le_refl _) hz'
    obtain ⟨f, tmps, a, x, c1, c2⟩ := H G _ vs H₁ rfl ⟨ha.1, fun j c hj => (ha.2 j c hj).mono (.setN0 R _)⟩
    refine ⟨f, tmps, a, x, c1, fun c cs => ?_⟩
    obtain ⟨v, R', r, h', b1, b3, b4, b5, b6, b7⟩ := c2 c cs
    have e0 : R'.n0 = h.length := b4.n0
    have hle : R.n0 ≤ h.length := by rw [hr.len]; exact hr.n0m
    refine ⟨v, { R' with n0 := R.n0 }, r, h', b1, b3.setN0 R.n0 (Nat.le_trans hle (e0 ▸ b3.n0m)) (fun id z s N m g hi => Nat.le_trans hle (e0 ▸ (b3.blk id _ hi).1)), ⟨rfl, b4.os, b4.tape, b4.output, b4.size, b4.m, b4.α, b4.ok, b4.keep, b4.frame, fun id x b hi hp => ?_⟩, ⟨b5.m, b5.α, b5.tk, b5.fm, b5.ok, b5.keep⟩, b6.mono (.setN0 R' _), b7⟩
    rcases b4.own id x b hi ((Phys.congr (R := R') (R' := { R' with n0 := R.n0 }) rfl rfl).1 hp) with h1 | ⟨i, y, h1, h2, h3⟩
    · exact .inl h1
    · refine .inr ⟨i, y, h1, h2, .inl ?_⟩
      have := (List.getElem?_eq_some_iff.1 h1).1
      rcases h3 with h3 | h3
      · exact h3
      · have h3 : h.length ≤ i := h3
        omega⟩

theorem YC.of (hT : T.Of (p ())) (hm : (p ()).follows .mixedOrders = true) (hrd : T.rd = true) {id : Nat} {xs : List AV} {h : List Blk} {Post : AV → List Blk → Prop} {s : List AV} {d : LoopD} {n m : Nat} (hi : h[id]? = some (.loop s d)) (hlen : xs.length = d.ps.size) (hz : zOk h = true)
    (hW : W T p (begK (fun s h₂ => W T p (endK h.length id Post) m [.code d.x] s h₂ []) id) n [.code d.a] (putPs d.ps.toList xs s) h []) : YC p id xs h Post := by
  have hKe : ∀ e s h' c, endK h.length id Post e s h' c → allc c := fun e s h' c hk => by cases e <;> exact (chk_ok hk).1
  have hKb : ∀ e s h' c, begK (fun s h₂ => W T p (endK h.length id Post) m [.code d.x] s h₂ []) id e s h' c → allc c := fun e s h' c hk => by
    cases e with
    | normal => exact (chk_ok hk).1
    | _ => exact hk.elim
  refine YC.ofN hz fun G R vs H hn0 ha => ?_
  obtain ⟨ha1, ha2⟩ := ha
  obtain ⟨l, b1, b2, b3, b4, b5, b6, b7, _⟩ := H.loopSet hi
  have hid : id < R.m := H.len ▸ (List.getElem?_eq_some_iff.1 hi).1
  have hsz : vs.size = l.params.size := by rw [b2, ← hlen, ha1]
  refine ⟨_, _, _, _, run_yield b1 hsz, fun c cs => ?_⟩
  let b : FBr T.rd := ⟨⟨l.fn, .normal, some (R.α id).b⟩, fun hf => by rw [hrd] at hf; cases hf⟩
  have hsl : SL R (putPs d.ps.toList xs s) ((l.params.zip vs).foldl (fun tmps (t, a) => tmps.setIfInBounds t a) l.tmps) := by
    rw [← Array.foldl_toList, Array.toList_zip, b2]
    exact putPs_ok _ _ _ (by rw [ha1]; simp) (fun j c hj => by
      have := ha2 j c hj
      rw [Array.getD_eq_getD_getElem?] at this
      rw [List.getD_eq_getElem?_getD, Array.getElem?_toList]
      exact this) b7
  obtain ⟨e, s1, h1, R1, t1, ds1, ⟨c1, hk1⟩, i1, x1, l1, sl1, d1, eq1, A1⟩ := (W_ok (R₀ := R) (h₀ := h) hT hm hKb n _ _ h [] hW).2 R _ (Inv.refl H (by rw [hn0]; exact Nat.le_refl _)) hsl b [] [.beginRound, .code d.x] (c :: cs) ⟨[], rfl, List.nodup_nil, fun r hr => by cases hr⟩
  cases e with
  | exit _ => exact hk1.elim
  | ret => exact hk1.elim
  | normal =>
  have eq1 := eq1 (by simp [b])
  subst eq1
  obtain ⟨_, hk1⟩ := chk_ok hk1
  split at hk1
  case h_2 => exact hk1.elim
  rename_i s2 d2 hi1
  obtain ⟨l2, e1, e2, e3, e4, e5, e6, e7, e8⟩ := i1.hr.loopSet hi1
  have hα1 : R1.α id = R.α id := x1.α id hid
  split at hk1
  case h_2 => exact hk1.elim
  rename_i hst
  obtain ⟨R2, w2, α2, H2, x2, l2le⟩ := e8 .busy d2.pe
  have hbeg : (Instr.beginRound (R.α id).b).run (p ()) R1.w = .ok () R2.w := by
    rw [w2, ← hα1, ← e6]
    exact run_beginRound e1 (e5.trans hst)
  have i2 : Inv R h R2 (h1.set id (.loop s2 { d2 with st := .busy })) := i1.step H2 x2 l2le
  obtain ⟨e, s3, h3, R3, t3, ds3, ⟨c3, hk3⟩, i3, x3, l3, sl3, d3, eq3, A3⟩ := (W_ok (R₀ := R) (h₀ := h) hT hm hKe m _ _ _ [] hk1).2 R2 _ i2 (sl1.mono l2le) b [] [] (c :: cs) (d1.ext i1.hr x2)
  have st1 : Steps (p ()) (lone (Frame.round (R.α id).b l.fn ((l.params.zip vs).foldl (fun tmps (t, a) => tmps.setIfInBounds t a) l.tmps) l.assign l.body .normal) (c :: cs) R.w) (lone (mkF b.1 t1 [] [.code d.x]) (c :: cs) R2.w) := by
    have hfr : Frame.round (R.α id).b l.fn ((l.params.zip vs).foldl (fun tmps (t, a) => tmps.setIfInBounds t a) l.tmps) l.assign l.body .normal = mkF b.1 ((l.params.zip vs).foldl (fun tmps (t, a) => tmps.setIfInBounds t a) l.tmps) [] ([.code d.a] ++ [.beginRound, .code d.x]) := by
      rw [← b3, ← b4]; rfl
    rw [hfr]
    refine Steps.trans A1 (.one ?_)
    rw [mkF_atR, mkF_atR]
    exact stepR_beginRound (b := { (default : Frame) with fn := b.1.fn, kind := b.1.kind, roundOf := b.1.roundOf }) rfl hbeg
  have fin : ∀ (j : Option Code), endRd h.length id j Post h3 → (∀ v w', (Instr.endRound (R.α id).b j).run (p ()) R3.w = .ok v w' → Steps (p ()) (lone (mkF b.1 t1 [] [.code d.x]) (c :: cs) R2.w) (lone (c.finish v) cs w')) →
      ∃ v R' r h', Steps (p ()) (lone (Frame.round (R.α id).b l.fn ((l.params.zip vs).foldl (fun tmps (t, a) => tmps.setIfInBounds t a) l.tmps) l.assign l.body .normal) (c :: cs) R.w) (lone (c.finish v) cs R'.w) ∧ HR G R' h' ∧ Ext R h R' h' ∧ R.le R' ∧ VR R' r v ∧ Post r h' := fun j hj hst => by
    unfold endRd at hj
    split at hj
    case h_2 => exact hj.elim
    rename_i s4 d4 hi3
    obtain ⟨l4, f1, f2, f3, f4, f5, f6, f7, f8⟩ := i3.hr.loopSet hi3
    obtain ⟨R4, w4, α4, H4, x4, l4le⟩ := f8 (if j.isNone then .ready else .done) j
    have hα3 : R3.α id = R.α id := i3.ext.α id hid
    have hend : (Instr.endRound (R.α id).b j).run (p ()) R3.w = .ok (.bool j.isNone) R4.w := by
      rw [w4, ← hα3]
      exact run_endRound j f1
    have i4 := i3.step H4 x4 l4le
    obtain ⟨R5, w5, H5, x5, l5, _⟩ := i4.leave H (keeps_range h.length (Nat.le_refl _) (by rw [H.len, i4.hr.len]; exact i4.le.m))
    exact ⟨_, R5, .bool fun _ => j.isNone, _, by rw [w5]; exact Steps.trans st1 (hst _ _ hend), H5, x5, l5, .pure _ _ (.bool _), hj⟩
  cases e with
  | normal =>
    refine fin none (chk_ok hk3).2 fun v w' hr => Steps.trans A3 (.one ?_)
    rw [mkF_atR]
    exact stepR_round_end rfl rfl hr
  | exit i =>
    obtain ⟨pre, q1, q2⟩ := A3
    refine fin (some (.exit i)) (chk_ok hk3).2 fun v w' hr => Steps.trans q2 (.one ?_)
    rw [mkF_atR]
    exact stepR_round_exit rfl rfl (by rw [q1]; rfl) hr
  | ret =>
    obtain ⟨todo, q2⟩ := A3
    refine fin (some .ret) (chk_ok hk3).2 fun v w' hr => Steps.trans q2 (.one ?_)
    rw [mkF_atR]
    exact stepR_round_ret rfl rfl hr


/-- Behind a range over a function. -/
def loopEnd (Q : Ex → List AV → List Blk → Prop) (s : List AV) (m : Nat) (h : List Blk) : Prop := match h[m]? with
  | some (.loop s' d) => (match d.st with
    | .busy => False
    | _ => (match d.pe with
      | none => Q .normal s (sel true (List.range m) (h.set m (.loop s' { d with st := .exhausted })))
      | some (.exit i) => Q (.exit i) s (sel true (List.range m) (h.set m (.loop s' { d with st := .exhausted })))
      | some .ret => Q .ret s (sel true (List.range m) (h.set m (.loop s' { d with st := .exhausted })))
      | _ => False))
  | _ => False

theorem st_rangeFunc {b : FB} {t : Array Value} {ds : List Deferred} {k : List Item} {cs : List Frame} {w w₁ w₂ : World} {g : Operand} {ps : Array Tmp} {a x : Code} {l : Nat} {mark : List Deferred} {f : FuncId} {args : Array Value}
    (he : (Instr.enterLoop b.fn t ps a x b.roundOf).run P w = .ok (l, mark) w₁)
    (hc : ((do let d ← resolve (evT t) (rangeCall g l) 0; invoke d.target d.args) : Sem Next).run P w₁ = .ok (.enter f args) w₂) :
    step P (lone (mkF b t ds (.code (.rangeFunc g ps a x) :: k)) cs w) = .next (lone (Frame.enter P f args .normal) (mkF b t (mark ++ ds) (.inRangeFunc l :: k) :: cs) w₂) :=
  step_lone_go (by
    have hev := mkF_evT (b := b) (t := t) (ds := mark ++ ds) (.inRangeFunc l :: k)
    simp only [mkF] at hev
    simp [stepG, stepG.exec, mkF, Sem.runT_eq, he, GStep.bare_after, stepG.apply, hev, hc])

theorem CB.of {f : Operand} {ps : Array Tmp} {a x : Code} {Q : Ex → List AV → List Blk → Prop} {s : List AV} {h : List Blk} {fid : FuncId} {first cap : List AV} (hf : strip (ev s f) = .fn fid first cap) (hc : allc (stripC (ev s f)))
    (H : SC p fid (first ++ [.yld h.length] ++ cap) (h ++ [.loop s ⟨ps, a, x, .ready, none⟩]) fun _ h' => loopEnd Q s h.length h') : CB p (.rangeFunc f ps a x) Q s h := by
  refine ⟨fun R₀ h₀ R t hi hs b ds k cs hd => ?_⟩
  have hro : b.1.roundOf = none := b.2 rfl
  have hml : R.m = h.length := hi.hr.len.symm
  obtain ⟨R1, w1, m1, α1, _, _, H1, x1, l1, _⟩ := hi.hr.make (.deferred (some []))
  obtain ⟨R2, w2, m2, α2, H2, x2, l2⟩ := H1.alloc (.loop s ⟨ps, a, x, .ready, none⟩) (.loop { state := .ready, pending := none, fn := b.1.fn, tmps := t, params := ps, assign := a, body := x, defers := R.w.heap.size })
    (fun R' => ⟨rfl, fun b hp => hp.symm, fun b o n => Iff.rfl⟩) (fun R' hle hα hh => ⟨_, by rw [hα]; exact hh, rfl, rfl, rfl, rfl, rfl, (hs.mono l1).mono hle⟩)
  have hsz1 : R1.w.heap.size = R.w.heap.size + 1 := by rw [w1]; simp
  have hα2 : (R2.α h.length).b = R.w.heap.size + 1 := by rw [← hml, ← m1, α2, ← hsz1]
  have henter : (Instr.enterLoop b.1.fn t ps a x b.1.roundOf).run (p ()) R.w = .ok (R.w.heap.size + 1, [{ target := .collected R.w.heap.size, args := #[] }]) R2.w := by
    rw [hro, run_enterLoop_outer, w2, w1]
    rfl
  have hs2 : SL R2 s t := (hs.mono l1).mono l2
  have hfv : VR R2 (.fn fid first cap) (evT t f) := by
    rw [← hf]
    exact (hs2.ev f).strip hc
  obtain ⟨vs, hrun, hrow⟩ := run_call (P := p ()) (o := { dst := none, op := .call (rangeCall f (R.w.heap.size + 1)), type := 0, pos := "", after := #[], guard := none }) (f := f) rfl hfv
    (fun y hy => ⟨.undef, .undef _⟩) R2.w H.enter [.yld h.length] rfl (fun j c hj => by
      cases j with
      | zero =>
        simp only [List.getElem?_cons_zero, Option.some.injEq] at hj
        subst hj
        have : VR R2 (.yld h.length) (.func (.yield (R2.α h.length).b) #[] #[]) := .yld _ (by rw [m2, m1, hml]; omega)
        rw [hα2] at this
        simpa [evT] using this
      | succ j => simp at hj)
  have hmid : h₀.length ≤ h.length := by rw [hi.len, ← hml]; exact hi.le.m
  have st1 := st_rangeFunc (P := p ()) (b := b.1) (t := t) (ds := ds) (k := k) (cs := cs) (g := f) (ps := ps) (a := a) (x := x) henter hrun
  obtain ⟨e, w', fr, ⟨v, R3, r, h3, rfl, hw3, H3, x3, l3, hv3, hpost⟩, hcome, _, hleave⟩ := H.run _ R2 vs H2 hrow (mkF b.1 t ([{ target := .collected R.w.heap.size, args := #[] }] ++ ds) (.inRangeFunc (R.w.heap.size + 1) :: k) :: cs)
  have st2 := step_leave_returned (c := mkF b.1 t ([{ target := .collected R.w.heap.size, args := #[] }] ++ ds) (.inRangeFunc (R.w.heap.size + 1) :: k)) (cs := cs) hleave
  have hfin : (mkF b.1 t ([{ target := .collected R.w.heap.size, args := #[] }] ++ ds) (.inRangeFunc (R.w.heap.size + 1) :: k)).finish v = mkF b.1 t ([{ target := .collected R.w.heap.size, args := #[] }] ++ ds) (.endRangeFunc (R.w.heap.size + 1) :: k) := by
    simp [Frame.finish, mkF]
  rw [hfin] at st2
  unfold loopEnd at hpost
  split at hpost
  case h_2 => exact hpost.elim
  rename_i s' d' hi3
  obtain ⟨q, q1, q2, q3, q4, q5, q6, q7, q8⟩ := H3.loopSet hi3
  obtain ⟨R4, w4, α4, H4, x4, l4⟩ := q8 .exhausted d'.pe
  have hα3 : (R3.α h.length).b = R.w.heap.size + 1 := by rw [l3.α h.length (by rw [m2, m1, hml]; omega)]; exact hα2
  have hnb : d'.st ≠ .busy := fun e => by rw [e] at hpost; exact hpost
  have hend : (Instr.endLoop (R.w.heap.size + 1)).run (p ()) R3.w = .ok d'.pe R4.w := by
    rw [w4, ← hα3, ← q6]
    exact run_endLoop q1 (by rw [q5]; exact hnb)
  have st3 : step (p ()) (lone (mkF b.1 t ([{ target := .collected R.w.heap.size, args := #[] }] ++ ds) (.endRangeFunc (R.w.heap.size + 1) :: k)) cs R3.w) = .next (lone (mkF b.1 t ([{ target := .collected R.w.heap.size, args := #[] }] ++ ds) ((d'.pe.map Item.code).toList ++ k)) cs R4.w) := by
    rw [mkF_atR, mkF_atR]
    exact stepR_endRangeFunc hend
  have i4 : Inv R₀ h₀ R4 (h3.set h.length (.loop s' { d' with st := .exhausted })) := (((hi.step H1 x1 l1).step H2 x2 l2).step H3 x3 l3).step H4 x4 l4
  obtain ⟨R5, w5, i5, x5, l5, _⟩ := i4.trim (((x1.trans x2).trans x3).trans x4) (((l1.trans l2).trans l3).trans l4) hml.symm hmid (by rw [← hml]; exact hi.hr.n0m)
  have hsteps : Steps (p ()) (lone (mkF b.1 t ds (.code (.rangeFunc f ps a x) :: k)) cs R.w) (lone (mkF b.1 t ([{ target := .collected R.w.heap.size, args := #[] }] ++ ds) ((d'.pe.map Item.code).toList ++ k)) cs R5.w) := by
    rw [w5]
    refine .head st1 (Steps.trans hcome (.head st2 (.one ?_)))
    rw [← hw3]
    exact st3
  have hdef : DefOK R₀.w.heap.size R5.w ([{ target := .collected R.w.heap.size, args := #[] }] ++ ds) := by
    rw [w5]
    refine DefOK.ext H3 x4 (DefOK.ext H2 x3 ?_)
    obtain ⟨rs, rfl, hnd, hrs⟩ := hd
    refine ⟨R.w.heap.size :: rs, rfl, List.nodup_cons.2 ⟨fun hm => ?_, hnd⟩, fun r hr => ?_⟩
    · have := (Array.getElem?_eq_some_iff.1 (hrs _ hm).2).1
      omega
    · have hpush : ∀ r, r < R.w.heap.size + 1 → R2.w.heap[r]? = (R.w.heap.push (.deferred (some [])))[r]? := fun r hr => by
        rw [w2, w1]
        show ((R.w.heap.push _).push _)[r]? = _
        rw [Array.getElem?_push, if_neg (by simp; omega)]
      rcases List.mem_cons.1 hr with rfl | hr
      · refine ⟨hi.ext.size, ?_⟩
        rw [hpush _ (by omega)]
        simp
      · have h1 := hrs r hr
        have hlt := (Array.getElem?_eq_some_iff.1 h1.2).1
        refine ⟨h1.1, ?_⟩
        rw [hpush _ (by omega), Array.getElem?_push, if_neg (by omega)]
        exact h1.2
  have out : ∀ e, Q e s (sel true (List.range h.length) (h3.set h.length (.loop s' { d' with st := .exhausted }))) → Arr (p ()) (lone (mkF b.1 t ds ([.code (.rangeFunc f ps a x)] ++ k)) cs R.w) b.1 k cs t ([{ target := .collected R.w.heap.size, args := #[] }] ++ ds) R5.w e →
      ∃ e s' h' R' t' ds', Q e s' h' ∧ Inv R₀ h₀ R' h' ∧ Ext R h R' h' ∧ R.le R' ∧ SL R' s' t' ∧ DefOK R₀.w.heap.size R'.w ds' ∧ (b.1.roundOf ≠ none → ds' = ds) ∧ Arr (p ()) (lone (mkF b.1 t ds ([.code (.rangeFunc f ps a x)] ++ k)) cs R.w) b.1 k cs t' ds' R'.w e :=
    fun e hq hA => ⟨e, s, _, R5, t, _, hq, i5, x5, l5, hs.mono l5, hdef, fun hne => absurd hro hne, hA⟩
  split at hpost
  · exact hpost.elim
  · split at hpost
    · rename_i hpe
      rw [hpe] at hsteps
      exact out .normal hpost hsteps
    · rename_i i hpe
      rw [hpe] at hsteps
      exact out (.exit i) hpost ⟨[], fun _ => rfl, hsteps⟩
    · rename_i hpe
      rw [hpe] at hsteps
      exact out .ret hpost ⟨_, hsteps⟩
    · exact hpost.elim

end
end Go.Proofs.Ytlcgliadpalgfaa.Vm

/- The abstract machine: a call that knows only some of the caller's blocks. -/
namespace Go.Proofs.Ytlcgliadpalgfaa.Vm
open Go

def phi (l : List Nat) (m j : Nat) : Nat := match l[j]? with
  | some i => i
  | none => m + (j - l.length)

def ren (φ : Nat → Nat) : Nat → AV → AV
  | 0, _ => .undef
  | k + 1, a => (match a with
    | .ptr id off => .ptr (φ id) off
    | .aptr id s e off => .aptr (φ id) s e off
    | .msl id s lo m c => .msl (φ id) s lo m c
    | .gsl id m => .gsl (φ id) m
    | .gptr id s m e off => .gptr (φ id) s m e off
    | .nsub id e l => .nsub (φ id) e l
    | .nptr id s e q off => .nptr (φ id) s e q off
    | .lit s cs => .lit s (cs.map (ren φ k))
    | .map id => .map (φ id)
    | .yld id => .yld (φ id)
    | .isl s m f (.own id) => .isl s m f (.own (φ id))
    | .fn f xs bs => .fn f (xs.map (ren φ k)) (bs.map (ren φ k))
    | .agg cs => .agg (cs.map (ren φ k))
    | .tup cs => .tup (cs.map (ren φ k))
    | .gd g v => .gd g (ren φ k v)
    | a => a)

def renB (φ : Nat → Nat) : Blk → Blk
  | .cells cs => .cells (cs.map (ren φ 5))
  | .loop s d => .loop (s.map (ren φ 5)) d
  | .vgar s n f => .vgar s n fun e => (f e).map (ren φ 5)
  | .fam z s n m g => .fam (φ z) s n m g
  | b => b

def backGo (φ : Nat → Nat) : List Nat → List Blk → List Blk → List Blk
  | i :: r, b :: s, h => backGo φ r s (h.set i (renB φ b))
  | [], s, h => h ++ s.map (renB φ)
  | _ :: _, [], h => h
def back (l : List Nat) (h h₂ : List Blk) : List Blk := backGo (phi l h.length) l h₂ h

theorem backGo_length {φ : Nat → Nat} : ∀ {l : List Nat} {h₂ h : List Blk}, l.length ≤ h₂.length → (backGo φ l h₂ h).length = h.length + (h₂.length - l.length)
  | [], s, h, _ => by simp [backGo]
  | i :: r, [], h, hl => by simp at hl
  | i :: r, b :: s, h, hl => by
    simp only [backGo]
    rw [backGo_length (by simpa using hl)]
    simp

theorem backGo_get {φ : Nat → Nat} : ∀ {l : List Nat} {h₂ h : List Blk} {id : Nat} {x : Blk}, l.length ≤ h₂.length → l.Nodup → (∀ i ∈ l, i < h.length) → (backGo φ l h₂ h)[id]? = some x →
    (∃ (j : Nat) (b : Blk), l[j]? = some id ∧ h₂[j]? = some b ∧ x = renB φ b) ∨ (id ∉ l ∧ id < h.length ∧ h[id]? = some x) ∨ (h.length ≤ id ∧ ∃ b, h₂[l.length + (id - h.length)]? = some b ∧ x = renB φ b)
  | [], s, h, id, x, _, _, _, hx => by
    simp only [backGo] at hx
    rw [List.getElem?_append] at hx
    split at hx
    · rename_i hlt
      exact .inr (.inl ⟨by simp, hlt, hx⟩)
    · rename_i hge
      rw [List.getElem?_map, Option.map_eq_some_iff] at hx
      obtain ⟨b, hb, rfl⟩ := hx
      exact .inr (.inr ⟨by omega, b, by simpa using hb, rfl⟩)
  | i :: r, [], h, id, x, hl, _, _, _ => by simp at hl
  | i :: r, b :: s, h, id, x, hl, hn, hlt, hx => by
    simp only [backGo] at hx
    rw [List.nodup_cons] at hn
    have hi := hlt i (List.mem_cons_self ..)
    rcases backGo_get (by simpa using hl) hn.2 (fun j hj => by rw [List.length_set]; exact hlt j (List.mem_cons_of_mem _ hj)) hx with ⟨j, b', h1, h2, h3⟩ | ⟨h1, h2, h3⟩ | ⟨h1, b', h2, h3⟩
    · exact .inl ⟨j + 1, b', by simpa using h1, by simpa using h2, h3⟩
    · rw [List.length_set] at h2
      rw [List.getElem?_set] at h3
      by_cases e : i = id
      · subst e
        rw [if_pos rfl, if_pos hi] at h3
        simp only [Option.some.injEq] at h3
        exact .inl ⟨0, b, rfl, rfl, h3.symm⟩
      · rw [if_neg e] at h3
        exact .inr (.inl ⟨fun hm => by rcases List.mem_cons.1 hm with h | h; exact e h.symm; exact h1 h, h2, h3⟩)
    · rw [List.length_set] at h1 h2
      refine .inr (.inr ⟨h1, b', ?_, h3⟩)
      rw [List.length_cons, show r.length + 1 + (id - h.length) = r.length + (id - h.length) + 1 from by omega]
      simpa using h2

theorem phys_renB {R R' : RC} {φ : Nat → Nat} {i j : Nat} (hα : R'.α j = R.α i) (hhv : R'.hv j = R.hv i) {blk : Blk} {b : Nat} : Phys R' j (renB φ blk) b ↔ Phys R i blk b := by
  cases blk <;> simp only [renB, Phys, hα, hhv]
theorem avoid_renB {R R' : RC} {φ : Nat → Nat} {i j : Nat} (hα : R'.α j = R.α i) (hhv : R'.hv j = R.hv i) {blk : Blk} {b o m : Nat} : AvoidB R' j (renB φ blk) b o m ↔ AvoidB R i blk b o m := by
  cases blk <;> simp only [renB, AvoidB, Phys, hα, hhv]
theorem tok_renB {φ : Nat → Nat} {blk : Blk} : tokK (renB φ blk) = tokK blk := by cases blk <;> rfl

theorem ren_ok {R R' : RC} {φ : Nat → Nat} (hw : R'.w = R.w) (hφ : ∀ j, j < R.m → φ j < R'.m ∧ R'.α (φ j) = R.α j ∧ R'.hw (φ j) = R.hw j ∧ R'.hv (φ j) = R.hv j) (hok : ∀ b o n, R.ok b o n → R'.ok b o n) : ∀ (k : Nat) {a : AV} {v : Value}, VR R a v → VR R' (ren φ k a) v := by
  have hpr : ∀ {a : AV} {v : Value}, PR R.w R.ok a v → PR R'.w R'.ok a v := fun h => h.mono hok (fun _ _ _ _ _ _ => by rw [hw])
  intro k
  induction k with
  | zero => exact fun _ => .undef _
  | succ k ih =>
    intro a v hv
    cases hv with
    | pure _ _ hp =>
      cases hp with
      | isl0 s m f tk h0 ht => cases tk with
        | own id => exact absurd rfl (ht id)
        | _ => exact .pure _ _ (.isl0 _ _ _ _ h0 ht)
      | islE s m f tk a h0 ht => cases tk with
        | own id => exact absurd ht (fun h => by cases h <;> contradiction)
        | _ => exact .pure _ _ (.islE _ _ _ _ a h0 ht)
      | isl s m f tk b o len cap us hn hc ht he hl h1 h2 h3 => cases tk with
        | own id => exact absurd ht (fun h => by cases h <;> contradiction)
        | _ => exact .pure _ _ (hpr (.isl _ _ _ _ b o len cap us hn hc ht he hl h1 h2 h3))
      | iptr cs off b o us h1 h2 h3 => exact .pure _ _ (hpr (.iptr cs off b o us h1 h2 h3))
      | bool b => exact .pure _ _ (.bool b)
      | int k n => exact .pure _ _ (.int k n)
      | str s => exact .pure _ _ (.str s)
      | nilptr => exact .pure _ _ .nilptr
      | nilmap => exact .pure _ _ .nilmap
      | nilfn => exact .pure _ _ .nilfn
    | undef => exact .undef _
    | ptr id off hid =>
      obtain ⟨h1, h2, _, _⟩ := hφ id hid
      simp only [ren]
      rw [← h2]
      exact .ptr _ off h1
    | own s m f id _ hid hp hn he =>
      obtain ⟨h1, _, h2, h3⟩ := hφ id hid
      exact .own s m f _ v h1 (hpr hp) (by rw [h2]; exact hn) (by rw [h2, h3]; exact he)
    | aptr id s e off i hid he =>
      obtain ⟨h1, h2, _, _⟩ := hφ id hid
      simp only [ren]
      rw [← h2]
      exact .aptr _ s e off i h1 he
    | msl id s lo m c i len cap hid hlo hn hc hle =>
      obtain ⟨h1, h2, _, _⟩ := hφ id hid
      simp only [ren]
      rw [← h2]
      exact .msl _ s lo m c i len cap h1 hlo hn hc hle
    | gsl id m a l c hid hn he hl =>
      obtain ⟨h1, _, h2, h3⟩ := hφ id hid
      exact .gsl _ m a l c h1 (by rw [h2]; exact hn) (by rw [h2, h3]; exact he) hl
    | gptr id s m e off a hid hn he =>
      obtain ⟨h1, _, h2, h3⟩ := hφ id hid
      exact .gptr _ s m e off a h1 (by rw [h2]; exact hn) (by rw [h2, h3]; exact he)
    | nsub id e l a ll c us i hid hvv he hu hl =>
      obtain ⟨h1, _, _, h3⟩ := hφ id hid
      exact .nsub _ e l a ll c us i h1 (h3.trans hvv) he hu hl
    | nptr id s e q off us i b o l c j hid hvv he hu hk =>
      obtain ⟨h1, _, _, h3⟩ := hφ id hid
      exact .nptr _ s e q off us i b o l c j h1 (h3.trans hvv) he hu hk
    | lit s cs b o us hs h1 h2 h3 =>
      refine .lit s _ b o us (by rw [List.length_map]; exact hs) (fun j c hj => ?_) (fun j c hj => ?_) (hok _ _ _ h3)
      · rw [List.getElem?_map, Option.map_eq_some_iff] at hj
        obtain ⟨c0, hc0, rfl⟩ := hj
        rw [hw]
        exact h1 j c0 hc0
      · rw [List.getElem?_map, Option.map_eq_some_iff] at hj
        obtain ⟨c0, hc0, rfl⟩ := hj
        exact ih (h2 j c0 hc0)
    | map id hid =>
      obtain ⟨h1, h2, _, _⟩ := hφ id hid
      simp only [ren]
      rw [← h2]
      exact .map _ h1
    | yld id hid =>
      obtain ⟨h1, h2, _, _⟩ := hφ id hid
      simp only [ren]
      rw [← h2]
      exact .yld _ h1
    | fn f xs bs us vs ha hb h1 h2 =>
      refine .fn f _ _ us vs (by simpa using ha) (by simpa using hb) (fun j c hj => ?_) (fun j c hj => ?_)
      · rw [List.getElem?_map, Option.map_eq_some_iff] at hj
        obtain ⟨x, hx, rfl⟩ := hj
        exact ih (h1 j x hx)
      · rw [List.getElem?_map, Option.map_eq_some_iff] at hj
        obtain ⟨x, hx, rfl⟩ := hj
        exact ih (h2 j x hx)
    | agg cs us ha h =>
      refine .agg _ us (by simpa using ha) (fun j c hj => ?_)
      rw [List.getElem?_map, Option.map_eq_some_iff] at hj
      obtain ⟨x, hx, rfl⟩ := hj
      exact ih (h j x hx)
    | tup cs us ha h =>
      refine .tup _ us (by simpa using ha) (fun j c hj => ?_)
      rw [List.getElem?_map, Option.map_eq_some_iff] at hj
      obtain ⟨x, hx, rfl⟩ := hj
      exact ih (h j x hx)
    | gd g a _ h => exact .gd g _ _ fun hg => ih (h hg)
    | ob g b _ h1 h2 => exact .ob g b _ h1 h2

/-- What the caller may read as immutable, told of the blocks of l. -/
def Gsel (R : RC) (h : List Blk) (l : List Nat) : Nat → Nat → Nat → Prop := fun b o n => R.ok b o n ∨ R.w.heap.size ≤ b ∨ ∃ i blk, i ∈ l ∧ h[i]? = some blk ∧ tokK blk = true ∧ Phys R i blk b

theorem avoid_of_not {R : RC} {id : Nat} {blk : Blk} {b o n : Nat} (h : ¬ Phys R id blk b) : AvoidB R id blk b o n := by
  cases blk with
  | tok s hw => exact fun a len cap hv hl hb => absurd ⟨a, len, cap, hv, hl, hb⟩ h
  | _ => exact h

/-- Back in the caller. -/
theorem frame_back {G : Nat → Nat → Nat → Prop} {R R₂ R₂' : RC} {h h₂' : List Blk} {l : List Nat} (H : HR G R h) (hnd : l.Nodup) (hlt : ∀ i ∈ l, i < h.length)
    (hn0 : R₂.n0 = l.length) (hw : R₂.w = R.w) (hm : R₂.m = l.length) (hα : ∀ j i, l[j]? = some i → R₂.α j = R.α i) (hhw : ∀ j i, l[j]? = some i → R₂.hw j = R.hw i) (hhv : ∀ j i, l[j]? = some i → R₂.hv j = R.hv i) (hok : ∀ b o n, R.ok b o n → R₂.ok b o n)
    (H' : HR (Gsel R h l) R₂' h₂') (hx : Ext R₂ (sel false l h) R₂' h₂') (hle : R₂.le R₂') :
    ∃ R', R'.w = R₂'.w ∧ HR G R' (back l h h₂') ∧ Ext R h R' (back l h h₂') ∧ R.le R' ∧ ∀ k a v, VR R₂' a v → VR R' (ren (phi l h.length) k a) v := by
  have hml : l.length ≤ h₂'.length := by rw [H'.len, ← hm]; exact hle.m
  have hlen : (back l h h₂').length = h.length + (h₂'.length - l.length) := backGo_length hml
  let α' : Nat → Loc := fun id => if id < h.length then R.α id else R₂'.α (l.length + (id - h.length))
  let hw' : Nat → Int := fun id => match posGo id l 0 with
    | some j => R₂'.hw j
    | none => if id < h.length then R.hw id else R₂'.hw (l.length + (id - h.length))
  let hv' : Nat → Value := fun id => match posGo id l 0 with
    | some j => R₂'.hv j
    | none => if id < h.length then R.hv id else R₂'.hv (l.length + (id - h.length))
  let R' := mkRC G R.n0 R₂'.w (h.length + (h₂'.length - l.length)) α' hw' hv' (back l h h₂')
  have posI : ∀ {j id : Nat}, l[j]? = some id → posGo id l 0 = some j := fun {j id} hj => by
    cases hp : posGo id l 0 with
    | none => exact absurd (List.mem_of_getElem? hj) (posGo_none hp)
    | some j' =>
      obtain ⟨_, h2⟩ := posGo_some hp
      rw [Nat.sub_zero] at h2
      have a1 := List.getElem?_eq_some_iff.1 hj
      have a2 := List.getElem?_eq_some_iff.1 h2
      congr 1
      exact (List.getElem_inj (h₀ := a2.1) (h₁ := a1.1) hnd).1 (by rw [a1.2, a2.2])
  -- the callee's blocks
  have callee : ∀ j, j < h₂'.length → phi l h.length j < R'.m ∧ R'.α (phi l h.length j) = R₂'.α j ∧ R'.hw (phi l h.length j) = R₂'.hw j ∧ R'.hv (phi l h.length j) = R₂'.hv j := fun j hj => by
    unfold phi
    cases hlj : l[j]? with
    | some i =>
      have hi := hlt i (List.mem_of_getElem? hlj)
      have hjm : j < R₂.m := by rw [hm]; exact (List.getElem?_eq_some_iff.1 hlj).1
      refine ⟨by show i < h.length + _; omega, ?_, ?_, ?_⟩
      · show (if i < h.length then R.α i else _) = _
        rw [if_pos hi, hle.α j hjm, hα j i hlj]
      · show (match posGo i l 0 with
          | some j => R₂'.hw j
          | none => _) = _
        rw [posI hlj]
      · show (match posGo i l 0 with
          | some j => R₂'.hv j
          | none => _) = _
        rw [posI hlj]
    | none =>
      have hge : l.length ≤ j := List.getElem?_eq_none_iff.1 hlj
      have hnp : posGo (h.length + (j - l.length)) l 0 = none := by
        cases hp : posGo (h.length + (j - l.length)) l 0 with
        | none => rfl
        | some j' =>
          obtain ⟨_, h2⟩ := posGo_some hp
          have := hlt _ (List.mem_of_getElem? h2)
          omega
      have e : l.length + (h.length + (j - l.length) - h.length) = j := by omega
      refine ⟨by show h.length + (j - l.length) < h.length + (h₂'.length - l.length); omega, ?_, ?_, ?_⟩
      · show (if h.length + (j - l.length) < h.length then _ else R₂'.α (l.length + (h.length + (j - l.length) - h.length))) = _
        rw [if_neg (by omega), e]
      · show (match posGo (h.length + (j - l.length)) l 0 with
          | some j => R₂'.hw j
          | none => if h.length + (j - l.length) < h.length then _ else R₂'.hw (l.length + (h.length + (j - l.length) - h.length))) = _
        rw [hnp]
        simp only [if_neg (show ¬ h.length + (j - l.length) < h.length by omega), e]
      · show (match posGo (h.length + (j - l.length)) l 0 with
          | some j => R₂'.hv j
          | none => if h.length + (j - l.length) < h.length then _ else R₂'.hv (l.length + (h.length + (j - l.length) - h.length))) = _
        rw [hnp]
        simp only [if_neg (show ¬ h.length + (j - l.length) < h.length by omega), e]
  -- the caller's other blocks
  have other : ∀ id, id ∉ l → id < h.length → R'.α id = R.α id ∧ R'.hw id = R.hw id ∧ R'.hv id = R.hv id := fun id hn hi => by
    have hp : posGo id l 0 = none := by
      cases hp : posGo id l 0 with
      | none => rfl
      | some j => exact absurd (List.mem_of_getElem? (posGo_some hp).2) hn
    refine ⟨if_pos hi, ?_, ?_⟩
    · show (match posGo id l 0 with
        | some j => R₂'.hw j
        | none => if id < h.length then R.hw id else _) = _
      rw [hp]
      simp only [if_pos hi]
    · show (match posGo id l 0 with
        | some j => R₂'.hv j
        | none => if id < h.length then R.hv id else _) = _
      rw [hp]
      simp only [if_pos hi]
  have hget : ∀ {id x}, (back l h h₂')[id]? = some x → (∃ j b, id = phi l h.length j ∧ h₂'[j]? = some b ∧ x = renB (phi l h.length) b ∧ (j < l.length → l[j]? = some id) ∧ (l.length ≤ j → h.length ≤ id)) ∨ (id ∉ l ∧ id < h.length ∧ h[id]? = some x) := fun {id x} hx => by
    rcases backGo_get hml hnd hlt hx with ⟨j, b, h1, h2, h3⟩ | h1 | ⟨h1, b, h2, h3⟩
    · exact .inl ⟨j, b, by simp [phi, h1], h2, h3, fun _ => h1, fun hge => by have := (List.getElem?_eq_some_iff.1 h1).1; omega⟩
    · exact .inr h1
    · refine .inl ⟨_, b, ?_, h2, h3, fun hlt' => by omega, fun _ => h1⟩
      unfold phi
      rw [List.getElem?_eq_none (by omega)]
      show id = h.length + (l.length + (id - h.length) - l.length)
      omega
  have g2 : ∀ b o n, Gsel R h l b o n → G b o n := fun b o n k => by
    rcases k with k | k | ⟨i, blk, _, hi, hk, hp⟩
    · exact ((H.okd _ _ _).1 k).2.1
    · exact H.fresh _ _ _ k
    · exact H.tokG i blk b hi hk hp o n
  have hsz : R.w.heap.size ≤ R₂'.w.heap.size := by rw [← hw]; exact hx.size
  have hok' : ∀ b o n, R₂'.ok b o n → R'.ok b o n := fun b o n k => by
    obtain ⟨h1, h2, h3⟩ := (H'.okd _ _ _).1 k
    refine ⟨h1, g2 _ _ _ h2, fun id x hx' => ?_⟩
    rcases hget hx' with ⟨j, b', rfl, hj, rfl, _⟩ | ⟨hn, hi, hx'⟩
    · obtain ⟨_, c1, _, c2⟩ := callee j (List.getElem?_eq_some_iff.1 hj).1
      exact (avoid_renB c1 c2).2 (h3 j b' hj)
    · obtain ⟨c1, _, c2⟩ := other id hn hi
      refine (AvoidB.congr (R := R) c1 c2).2 ?_
      rcases h2 with k | k | ⟨i, blk, hil, hi', hk, hp⟩
      · exact ((H.okd _ _ _).1 k).2.2 id x hx'
      · exact avoid_of_not fun hp => by have := H.phys_lt hx' hp; omega
      · exact avoid_of_not fun hp' => H.dis i id blk x b (fun e => hn (e ▸ hil)) hi' hx' hp hp'
  have hselP : ∀ {j blk b}, (sel false l h)[j]? = some blk → Phys R₂ j blk b → ∃ i y, l[j]? = some i ∧ h[i]? = some y ∧ Phys R i y b := fun hj hp => by
    obtain ⟨i, y, hi, hy, rfl⟩ := selGo_get hlt hj
    exact ⟨i, y, hi, hy, (phys_subB (hα _ i hi) (hhv _ i hi)).1 hp⟩
  have hframe : ∀ id x b, id ∉ l → h[id]? = some x → Phys R id x b → R₂'.w.heap[b]? = R.w.heap[b]? := fun id x b hn hx' hp => by
    rw [hx.frame b (by rw [hw]; exact H.phys_lt hx' hp) (fun j blk hj hp' => ?_), hw]
    obtain ⟨i, y, hi, hy, hp'⟩ := hselP hj hp'
    exact H.dis i id y x b (fun e => hn (e ▸ List.mem_of_getElem? hi)) hy hx' hp' hp
  have hle' : R.le R' := by
    refine ⟨by show R.m ≤ h.length + _; rw [H.len]; omega, fun id hi => if_pos (by rw [H.len]; exact hi), fun id hi => ?_, fun id hi => ?_, fun b o n k => hok' _ _ _ (hle.ok _ _ _ (hok _ _ _ k)), fun b o n k j hj => by
      have := hle.keep b o n (hok _ _ _ k) j hj
      rw [hw] at this
      exact this⟩
    by_cases hn : id ∈ l
    · obtain ⟨j, hj, rfl⟩ := List.getElem_of_mem hn
      have hlj : l[j]? = some l[j] := List.getElem?_eq_getElem hj
      obtain ⟨_, _, c1, c2⟩ := callee j (by omega)
      have e : phi l h.length j = l[j] := by simp [phi, hlj]
      rw [e] at c1 c2
      obtain ⟨t1, t2⟩ := hle.tk j (by omega)
      rw [hhw j _ hlj] at t1 t2
      rw [hhv j _ hlj] at t2
      exact ⟨by rw [c1]; exact t1, fun e => by rw [c2]; exact t2 (by rw [← c1]; exact e)⟩
    · obtain ⟨_, c1, c2⟩ := other id hn (by rw [H.len]; exact hi)
      rw [c1, c2]
      exact ⟨Int.le_refl _, fun _ => rfl⟩
    by_cases hn : id ∈ l
    · obtain ⟨j, hj, rfl⟩ := List.getElem_of_mem hn
      have hlj : l[j]? = some l[j] := List.getElem?_eq_getElem hj
      obtain ⟨_, _, c1, c2⟩ := callee j (by omega)
      have e : phi l h.length j = l[j] := by simp [phi, hlj]
      rw [e] at c1 c2
      have := hle.fm j (by omega)
      rw [hhv j _ hlj] at this
      rw [c2]
      exact this
    · obtain ⟨_, c1, c2⟩ := other id hn (by rw [H.len]; exact hi)
      rw [c2]
      exact .refl _
  have hren : ∀ k a v, VR R₂' a v → VR R' (ren (phi l h.length) k a) v := fun k a v hv => ren_ok (R := R₂') (R' := R') rfl (fun j hj => callee j (by rw [H'.len]; exact hj)) hok' k hv
  have hpr : ∀ {a : AV} {v : Value}, PR R₂'.w R₂'.ok a v → PR R'.w R'.ok a v := fun h => h.mono hok' (fun _ _ _ _ _ _ => rfl)
  have hown : ∀ {j blk b}, h₂'[j]? = some blk → Phys R₂' j blk b → R.w.heap.size ≤ b ∨ ∃ i y, l[j]? = some i ∧ h[i]? = some y ∧ Phys R i y b := fun hj hp => by
    rcases hx.own _ _ _ hj hp with h1 | ⟨i₁, blk₁, h1, h2, h3⟩
    · rw [hw] at h1; exact .inl h1
    · have hlt₁ := (List.getElem?_eq_some_iff.1 h1).1
      rw [show (sel false l h).length = l.length from selGo_length] at hlt₁
      have : i₁ = _ := h3.resolve_right (by omega)
      subst this
      exact .inr (hselP h1 h2)
  refine ⟨R', rfl, ⟨hlen, fun _ _ _ => Iff.rfl, fun id x hx' => ?_, fun i j bi bj b hij hi hj hp hp' => ?_, H.cl, fun b o n hb => H.fresh b o n (Nat.le_trans hsz hb), fun id x b hx' hk hp o n => ?_, Nat.le_trans H.n0m hle'.m⟩, ?_, hle', hren⟩
  · rcases hget hx' with ⟨j, b', rfl, hj, rfl, _⟩ | ⟨hn, hi, hx'⟩
    · obtain ⟨_, e1, e2, e3⟩ := callee j (List.getElem?_eq_some_iff.1 hj).1
      have hb := H'.blk j b' hj
      cases b' with
      | cells cs =>
        obtain ⟨arr, ty, h1, h2, h3⟩ := hb
        refine ⟨arr, ty, by rw [e1]; exact h1, by rw [List.length_map, e1]; exact h2, fun k c hk => ?_⟩
        rw [List.getElem?_map, Option.map_eq_some_iff] at hk
        obtain ⟨c0, hc0, rfl⟩ := hk
        rw [e1]
        exact hren 5 _ _ (h3 k c0 hc0)
      | arr s m f =>
        obtain ⟨arr, ty, len, h1, h2, h3, h4⟩ := hb
        exact ⟨arr, ty, len, by rw [e1]; exact h1, h2, by rw [e1]; exact h3, fun k hk => ⟨(h4 k hk).1, fun q c hq => by rw [e1]; exact hpr ((h4 k hk).2 q c hq)⟩⟩
      | tok s hw =>
        obtain ⟨h1, h2⟩ := hb
        exact ⟨e2.trans h1, by rw [e3]; exact h2⟩
      | gar s m f =>
        obtain ⟨h1, h2⟩ := hb
        refine ⟨e2.trans h1, ?_⟩
        rw [e3]
        rcases h2 with h2 | ⟨b, o, len, cap, arr, ty, g1, g2, g3, g4, g5, g6⟩
        · exact .inl h2
        · exact .inr ⟨b, o, len, cap, arr, ty, g1, g2, g3, g4, g5, fun k hk => ⟨(g6 k hk).1, fun q c hq => hpr ((g6 k hk).2 q c hq)⟩⟩
      | vgar s m f =>
        obtain ⟨h1, h2⟩ := hb
        refine ⟨e2.trans h1, ?_⟩
        rw [e3]
        exact h2.cong rfl (fun i _ => by simp) fun i _ j c hj => by
          rw [List.getElem?_map, Option.map_eq_some_iff] at hj
          obtain ⟨c0, hc0, rfl⟩ := hj
          exact ⟨c0, hc0, fun u hu => hren 5 _ _ hu⟩
      | fam z s n m g =>
        obtain ⟨hz, h1, us, hv, h2, h3, h4⟩ := hb
        exact ⟨by
          have e0 : R₂'.n0 = l.length := hx.n0.trans hn0
          show R.n0 ≤ phi l h.length z
          have : l[z]? = none := List.getElem?_eq_none (by omega)
          have := H.n0m
          have := H.len
          simp only [phi, *]
          omega, e2.trans h1, us, e3.trans hv, h2, fun i v hu => (h3 i v hu).mono (fun _ _ h => hpr h) fun _ _ => rfl, h4⟩
      | fro s m f =>
        obtain ⟨h1, h2⟩ := hb
        exact ⟨e2.trans h1, by rw [e3]; exact hpr h2⟩
      | mapB m =>
        obtain ⟨es, c, h1, h2⟩ := hb
        exact ⟨es, c, by rw [e1]; exact h1, h2⟩
      | loop s d =>
        obtain ⟨q, h1, h2, h3, h4, h5, h6, h7, h8⟩ := hb
        refine ⟨q, by rw [e1]; exact h1, h2, h3, h4, h5, h6, by rw [List.length_map]; exact h7, fun k c hk => ?_⟩
        rw [List.getElem?_map, Option.map_eq_some_iff] at hk
        obtain ⟨c0, hc0, rfl⟩ := hk
        exact hren 5 _ _ (h8 k c0 hc0)
      | dead => trivial
    · obtain ⟨c1, c2, c3⟩ := other id hn hi
      exact (H.blk id x hx').mono hle' rfl c1 c2 c3 (fun b hp => hframe id x b hn hx' hp)
  · have one : ∀ {id x}, (back l h h₂')[id]? = some x → Phys R' id x b → (∃ j y, h₂'[j]? = some y ∧ Phys R₂' j y b ∧ id = phi l h.length j ∧ (j < l.length → l[j]? = some id) ∧ (l.length ≤ j → h.length ≤ id)) ∨ (id ∉ l ∧ id < h.length ∧ h[id]? = some x ∧ Phys R id x b) := fun {id x} hx' hp => by
      rcases hget hx' with ⟨j, b', rfl, hj, rfl, hq⟩ | ⟨hn, hi, hx'⟩
      · obtain ⟨_, c1, _, c2⟩ := callee j (List.getElem?_eq_some_iff.1 hj).1
        exact .inl ⟨j, b', hj, (phys_renB c1 c2).1 hp, rfl, hq⟩
      · obtain ⟨c1, _, c2⟩ := other id hn hi
        exact .inr ⟨hn, hi, hx', (Phys.congr (R := R) c1 c2).1 hp⟩
    have mix : ∀ {id : Nat} {x : Blk} {j : Nat} {y : Blk}, id ∉ l → h[id]? = some x → Phys R id x b → h₂'[j]? = some y → Phys R₂' j y b → False := fun {id x j y} hn hx' hp hj hp' => by
      rcases hown hj hp' with h1 | ⟨i, z, h1, h2, h3⟩
      · have := H.phys_lt hx' hp
        omega
      · exact H.dis i id z x b (fun e => hn (e ▸ List.mem_of_getElem? h1)) h2 hx' h3 hp
    rcases one hi hp with ⟨j1, y1, a1, a2, a3, a4⟩ | ⟨a1, a2, a3, a4⟩ <;> rcases one hj hp' with ⟨j2, y2, b1, b2, b3, b4⟩ | ⟨b1, b2, b3, b4⟩
    · exact H'.dis j1 j2 y1 y2 b (fun e => hij (by rw [a3, b3, e])) a1 b1 a2 b2
    · exact mix b1 b3 b4 a1 a2
    · exact mix a1 a3 a4 b1 b2
    · exact H.dis i j bi bj b hij a3 b3 a4 b4
  · rcases hget hx' with ⟨j, b', rfl, hj, rfl, _⟩ | ⟨hn, hi, hx'⟩
    · obtain ⟨_, c1, _, c2⟩ := callee j (List.getElem?_eq_some_iff.1 hj).1
      rw [tok_renB] at hk
      exact g2 _ _ _ (H'.tokG j b' b hj hk ((phys_renB c1 c2).1 hp) o n)
    · obtain ⟨c1, _, c2⟩ := other id hn hi
      exact H.tokG id x b hx' hk ((Phys.congr (R := R) c1 c2).1 hp) o n
  · refine ⟨rfl, by rw [← hw]; exact hx.os, by rw [← hw]; exact hx.tape, by rw [← hw]; exact hx.output, hsz, hle'.m, hle'.α, hle'.ok, hle'.keep, fun b hb hn => ?_, fun id x b hx' hp => ?_⟩
    · show R₂'.w.heap[b]? = _
      rw [hx.frame b (by rw [hw]; exact hb) (fun j blk hj hp => ?_), hw]
      obtain ⟨i, y, hi, hy, hp⟩ := hselP hj hp
      exact hn i y hy hp
    · rcases hget hx' with ⟨j, b', rfl, hj, rfl, hq⟩ | ⟨hn, hi, hx'⟩
      · obtain ⟨_, c1, _, c2⟩ := callee j (List.getElem?_eq_some_iff.1 hj).1
        rcases hown hj ((phys_renB c1 c2).1 hp) with h1 | ⟨i, y, h1, h2, h3⟩
        · exact .inl h1
        · have e : phi l h.length j = i := by simp [phi, h1]
          rw [e]
          exact .inr ⟨_, y, h2, h3, .inl rfl⟩
      · obtain ⟨c1, _, c2⟩ := other id hn hi
        exact .inr ⟨_, x, hx', (Phys.congr (R := R) c1 c2).1 hp, .inl rfl⟩

/-- A call that is told of some blocks alone. -/
theorem SC.frame {p : Unit → Program} {f : FuncId} {xs : List AV} {h : List Blk} {Post Q : AV → List Blk → Prop} (l : List Nat) (hnd : l.Nodup) (hlt : ∀ i ∈ l, i < h.length) (H : SC p f (xs.map (tell false l h 5)) (sel false l h) Q)
    (hq : ∀ r h₂, Q r h₂ → Post (ren (phi l h.length) 5 r) (back l h h₂)) : SC p f xs h Post :=
  ⟨H.enter, fun G R vs hr ha => by
    obtain ⟨R₂, a0, a1, a2, a3, a4, a5, a6, a7, a8⟩ := hr.sel (fz := false) (ι := l) (Gsel R h l) (fun b o n k => .inl k) (fun b o n o' n' k h1 h2 => by
        rcases k with k | k | k
        · exact .inl (hr.sub k h1 h2)
        · exact .inr (.inl k)
        · exact .inr (.inr k)) (fun b o n hb => .inr (.inl hb)) (fun i blk b hi hb hk hp o n => .inr (.inr ⟨i, blk, hi, hb, hk, hp⟩)) hnd hlt (fun hf => by cases hf) l.length (Nat.le_refl _) (fun hf => by cases hf)
    have hrow : RowA R₂ (xs.map (tell false l h 5)) vs := ⟨by rw [List.length_map]; exact ha.1, fun j c hj => by
      rw [List.getElem?_map, Option.map_eq_some_iff] at hj
      obtain ⟨x, hx, rfl⟩ := hj
      exact a8 5 x _ (ha.2 j x hx)⟩
    have := H.run _ R₂ vs a6 hrow
    rw [a1] at this
    refine this.mono fun e w' ⟨v, R', r, h', b1, b2, b3, b4, b5, b6, b7⟩ => ?_
    obtain ⟨R'', c1, c2, c3, c4, c5⟩ := frame_back hr hnd hlt a0 a1 a2 a3 a4 a5 a7 b3 b4 b5
    exact ⟨v, R'', _, _, b1, c1.trans b2, c2, c3, c4, c5 5 r v b6, hq r h' b7⟩⟩

/-- What comes back, told with less. -/
theorem SC.less {p : Unit → Program} {f : FuncId} {xs : List AV} {h : List Blk} {Post : AV → List Blk → Prop} (H : SC p f xs h fun r h' => ∃ r₂ h₂, To [r] h' [r₂] h₂ ∧ Post r₂ h₂) : SC p f xs h Post :=
  ⟨H.enter, fun G R vs hr ha => (H.run G R vs hr ha).mono fun e w' ⟨v, R', r, h', b1, b2, b3, b4, b5, b6, r₂, h₂, hto, b7⟩ => by
    obtain ⟨R'', c1, c2, c3, c4, c5⟩ := hto G R' #[v] b3 ⟨rfl, fun i a hi => by
      cases i with
      | zero => simp at hi; subst hi; exact b6
      | succ i => simp at hi⟩
    exact ⟨v, R'', r₂, h₂, b1, c1.trans b2, c2, b4.trans c3, b5.trans c4, c5.2 0 r₂ rfl, b7⟩⟩

/-- What is handed in, told with less. -/
theorem SC.to {p : Unit → Program} {f : FuncId} {xs xs₂ : List AV} {h h₂ : List Blk} {Post : AV → List Blk → Prop} (hto : To xs h xs₂ h₂) (H : SC p f xs₂ h₂ Post) : SC p f xs h Post :=
  ⟨H.enter, fun G R vs hr ha => by
    obtain ⟨R', a1, a2, a3, a4, a5⟩ := hto G R vs hr ⟨ha.1.symm, ha.2⟩
    have := H.run G R' vs a2 ⟨a5.1.symm, a5.2⟩
    rw [a1] at this
    exact this.mono fun e w' ⟨v, R'', r, h', b1, b2, b3, b4, b5, b6, b7⟩ => ⟨v, R'', r, h', b1, b2, b3, a3.trans b4, a4.trans b5, b6, b7⟩⟩
end Go.Proofs.Ytlcgliadpalgfaa.Vm

/- The abstract machine: values that tell less; lists as slices. -/
namespace Go.Proofs.Ytlcgliadpalgfaa.Vm
open Go

section
variable {n k : Nat}

theorem WkN.refl (a : AV) : WkN n k a a := ⟨fun _ _ _ h => h⟩
theorem WkN.undef (a : AV) : WkN n k a .undef := ⟨fun _ _ _ _ => .undef _⟩
theorem WkN.int {q : IntKind} {a b : Unit → Int} (h : a () = b ()) : WkN n k (.int q a) (.int q b) := ⟨fun R v _ hv => by
  rw [hv.int_inv]; exact VR.mkInt h.symm⟩
theorem WkN.bool {a b : Unit → Bool} (h : a () = b ()) : WkN n k (.bool a) (.bool b) := ⟨fun R v _ hv => by
  rw [hv.bool_inv]; exact VR.mkBool h.symm⟩
theorem WkN.gd {g : Unit → Bool} {a b : AV} (hg : g () = true) (h : WkN n k a b) : WkN n k (.gd g a) b := ⟨fun R v hN hv => h.f R v hN (hv.gd_inv hg)⟩

theorem PR.wk {w : World} {ok : Nat → Nat → Nat → Prop} {s : Nat} {m m' : Unit → Int} {f f' : (Unit → Int) → List AV} {tk tk' : Tk} {v : Value} (h : PR w ok (.isl s m f tk) v) (hm : m () = m' ()) (hf : ∀ i : Nat, (i : Int) < m () → f (fun _ => (i : Int)) = f' (fun _ => (i : Int)))
    (ht : tk' = .none ∨ tk' = tk) : PR w ok (.isl s m' f' tk') v := by
  cases h with
  | isl0 _ _ _ _ hz h1 => exact .isl0 _ _ _ _ (by omega) (fun id e => by rcases ht with rfl | rfl; cases e; exact h1 id e)
  | islE _ _ _ _ a hz h1 => exact .islE _ _ _ _ a (by omega) (by rcases ht with rfl | rfl; exact .inl rfl; exact h1)
  | isl _ _ _ _ b o len cap us hn hc h1 he hl h2 h3 h4 =>
    exact .isl _ _ _ _ b o len cap us (by omega) hc (by rcases ht with rfl | rfl; exact .inl rfl; exact h1) (fun e => by rcases ht with rfl | rfl; cases e; exact he e)
      (fun i hi => by rw [← hf i (by omega)]; exact hl i hi) (fun i j c hi hj => by rw [← hf i (by omega)] at hj; exact h2 i j c hi hj) (fun i j c hi hj => by rw [← hf i (by omega)] at hj; exact h3 i j c hi hj) h4

theorem WkN.isl {s : Nat} {m m' : Unit → Int} {f f' : (Unit → Int) → List AV} {tk : Tk} (hm : m () = m' ()) (hf : ∀ i : Nat, (i : Int) < m () → f (fun _ => (i : Int)) = f' (fun _ => (i : Int))) : WkN n k (.isl s m f tk) (.isl s m' f' tk) := ⟨fun R v _ hv => by
  cases hv with
  | pure _ _ hp => exact .pure _ _ (hp.wk hm hf (.inr rfl))
  | own _ _ _ id _ h1 h2 h3 h4 => exact .own _ _ _ id v h1 (h2.wk hm hf (.inl rfl)) (by omega) (fun e => h4 (by omega))⟩

theorem WkN.none {s : Nat} {m m' : Unit → Int} {f f' : (Unit → Int) → List AV} {tk : Tk} (hm : m () = m' ()) (hf : ∀ i : Nat, (i : Int) < m () → f (fun _ => (i : Int)) = f' (fun _ => (i : Int))) : WkN n k (.isl s m f tk) (.isl s m' f' .none) := ⟨fun R v _ hv => .pure _ _ (hv.isl_inv.wk hm hf (.inl rfl))⟩

/-- A slice without elements, of whatever element. -/
theorem WkN.empty {s s' : Nat} {m m' : Unit → Int} {f f' : (Unit → Int) → List AV} (hm : m' () = 0) : WkN n k (.isl s m f .nil) (.isl s' m' f' .none) := ⟨fun R v _ hv => by
  cases hv with
  | pure _ _ hp =>
    cases hp with
    | isl0 _ _ _ _ hz h1 => exact .pure _ _ (.isl0 _ _ _ _ hm (fun id e => by cases e))
    | islE _ _ _ _ _ _ h1 => rcases h1 with h | h <;> cases h
    | isl _ _ _ _ b o len cap us hn hc h1 => rcases h1 with h | h <;> cases h⟩

theorem nil_inv {R : RC} {s : Nat} {m : Unit → Int} {f : (Unit → Int) → List AV} {v : Value} (hv : VR R (.isl s m f .nil) v) : v = .slice none 0 0 := by
  cases hv with
  | pure _ _ hp =>
    cases hp with
    | isl0 _ _ _ _ hz h1 => rfl
    | islE _ _ _ _ _ _ h1 => rcases h1 with h | h <;> cases h
    | isl _ _ _ _ b o len cap us hn hc h1 => rcases h1 with h | h <;> cases h

theorem WkN.nilOwn {s s' id : Nat} {m m' : Unit → Int} {f f' : (Unit → Int) → List AV} (h1 : n ≤ id) (h2 : id < n + k) (hm : m' () = 0) : WkN n k (.isl s m f .nil) (.isl s' m' f' (.own id)) := ⟨fun R v hN hv => by
  obtain ⟨a1, a2, a3⟩ := hN id h1 h2
  rw [nil_inv hv]
  exact .own _ _ _ id _ a1 (.isl0 _ _ _ _ hm (fun id e => by cases e)) (by omega) (fun _ => a3.symm)⟩
theorem WkN.nilGar {s id : Nat} {m m' : Unit → Int} {f : (Unit → Int) → List AV} (h1 : n ≤ id) (h2 : id < n + k) (hm : m' () = 0) : WkN n k (.isl s m f .nil) (.gsl id m') := ⟨fun R v hN hv => by
  obtain ⟨a1, a2, a3⟩ := hN id h1 h2
  rw [nil_inv hv]
  exact .gsl id _ _ _ _ a1 (by omega) (fun _ => a3.symm) ⟨hm, .inl rfl⟩⟩
theorem WkN.gsl {id : Nat} {m m' : Unit → Int} (hm : m () = m' ()) : WkN n k (.gsl id m) (.gsl id m') := ⟨fun R v _ hv => by
  cases hv with
  | pure _ _ hp => cases hp
  | gsl _ _ a l c h1 h2 h3 h4 => exact .gsl id m' a l c h1 (by omega) (fun e => h3 (by omega)) ⟨by rw [← hm]; exact h4.1, h4.2⟩⟩
theorem WkN.msl {id s : Nat} {lo m c lo' m' c' : Unit → Int} (h1 : lo () = lo' ()) (h2 : m () = m' ()) (h3 : c () = c' ()) : WkN n k (.msl id s lo m c) (.msl id s lo' m' c') := ⟨fun R v _ hv => by
  cases hv with
  | pure _ _ hp => cases hp
  | msl _ _ _ _ _ i len cap a1 a2 a3 a4 a5 => exact .msl id s lo' m' c' i len cap a1 (by omega) (by omega) (by omega) a5⟩

theorem AllW.refl : ∀ (cs : List AV), AllW n k cs cs
  | [] => trivial
  | a :: r => AllW.mk (WkN.refl a) (AllW.refl r)
theorem WkN.agg {cs cs' : List AV} (h : AllW n k cs cs') : WkN n k (.agg cs) (.agg cs') := ⟨fun R v hN hv => by
  obtain ⟨us, rfl, hl, hr⟩ := hv.agg_inv
  exact .agg cs' us (by rw [← h.len]; exact hl) fun j c hj => by
    obtain ⟨a, h1, h2⟩ := h.get hj
    exact h2.f R _ hN (hr j a h1)⟩
theorem WkN.tup {cs cs' : List AV} (h : AllW n k cs cs') : WkN n k (.tup cs) (.tup cs') := ⟨fun R v hN hv => by
  obtain ⟨us, rfl, hl, hr⟩ := hv.tup_inv
  exact .tup cs' us (by rw [← h.len]; exact hl) fun j c hj => by
    obtain ⟨a, h1, h2⟩ := h.get hj
    exact h2.f R _ hN (hr j a h1)⟩
theorem WkN.fn {f : FuncId} {xs bs bs' : List AV} (h : AllW n k bs bs') : WkN n k (.fn f xs bs) (.fn f xs bs') := ⟨fun R v hN hv => by
  cases hv with
  | pure _ _ hp => cases hp
  | fn _ _ _ us vs ha hb h1 h2 => exact .fn f xs bs' us vs ha (by rw [← h.len]; exact hb) h1 fun j c hj => let ⟨a, e1, e2⟩ := h.get hj; e2.f R _ hN (h2 j a e1)⟩

theorem WkB.refl (b : Blk) : WkB n k b b := ⟨fun _ _ _ h => h, fun _ _ _ => Iff.rfl, fun _ _ _ _ _ => Iff.rfl, rfl⟩
theorem WkB.cells {cs cs' : List AV} (h : AllW n k cs cs') : WkB n k (.cells cs) (.cells cs') := ⟨fun R id hN ⟨arr, ty, h1, h2, h3⟩ => ⟨arr, ty, h1, by rw [← h.len]; exact h2, fun j c hj => by
    obtain ⟨a, e1, e2⟩ := h.get hj
    exact e2.f R _ hN (h3 j a e1)⟩, fun _ _ _ => Iff.rfl, fun _ _ _ _ _ => Iff.rfl, rfl⟩
theorem WkB.tok {s : Nat} {a b : Unit → Int} (h : a () = b ()) : WkB n k (.tok s a) (.tok s b) := ⟨fun R id hN ⟨h1, h2⟩ => ⟨by rw [← h]; exact h1, by rw [← h]; exact h2⟩, fun _ _ _ => Iff.rfl, fun _ _ _ _ _ => Iff.rfl, rfl⟩
theorem WkB.gar {s : Nat} {m m' : Unit → Int} {f f' : (Unit → Int) → List AV} (hm : m () = m' ()) (hf : ∀ i : Nat, (i : Int) < m () → f (fun _ => (i : Int)) = f' (fun _ => (i : Int))) : WkB n k (.gar s m f) (.gar s m' f') :=
  ⟨fun R id hN ⟨h1, h2⟩ => ⟨by rw [← hm]; exact h1, by
    rw [← hm]
    rcases h2 with h2 | ⟨b, o, len, cap, arr, ty, g1, g2, g3, g4, g5, g6⟩
    · exact .inl h2
    · exact .inr ⟨b, o, len, cap, arr, ty, g1, g2, g3, g4, g5, fun i hi => by rw [← hf i (by omega)]; exact g6 i hi⟩⟩, fun _ _ _ => Iff.rfl, fun _ _ _ _ _ => Iff.rfl, rfl⟩
theorem WkB.fro {s : Nat} {m m' : Unit → Int} {f f' : (Unit → Int) → List AV} (hm : m () = m' ()) (hf : ∀ i : Nat, (i : Int) < m () → f (fun _ => (i : Int)) = f' (fun _ => (i : Int))) : WkB n k (.fro s m f) (.fro s m' f') :=
  ⟨fun R id hN ⟨h1, h2⟩ => ⟨by rw [← hm]; exact h1, h2.wk hm hf (.inr rfl)⟩, fun _ _ _ => Iff.rfl, fun _ _ _ _ _ => Iff.rfl, rfl⟩
theorem WkB.arr {s : Nat} {m m' : Unit → Int} {f f' : (Unit → Int) → List AV} (hm : m () = m' ()) (hf : ∀ i : Nat, (i : Int) < m () → f (fun _ => (i : Int)) = f' (fun _ => (i : Int))) : WkB n k (.arr s m f) (.arr s m' f') :=
  ⟨fun R id hN ⟨arr, ty, len, h1, h2, h3, h4⟩ => ⟨arr, ty, len, h1, by rw [← hm]; exact h2, h3, fun i hi => by rw [← hf i (by omega)]; exact h4 i hi⟩, fun _ _ _ => Iff.rfl, fun _ _ _ _ _ => Iff.rfl, rfl⟩
theorem WkB.map {m m' : (Unit → Int) → Unit → Bool} (h : ∀ x : Int, m (fun _ => x) () = m' (fun _ => x) ()) : WkB n k (.mapB m) (.mapB m') :=
  ⟨fun R id hN ⟨es, c, h1, h2, h3⟩ => ⟨es, c, h1, h2, fun x => by rw [← h]; exact h3 x⟩, fun _ _ _ => Iff.rfl, fun _ _ _ _ _ => Iff.rfl, rfl⟩
theorem AllB.refl : ∀ (cs : List Blk), AllB n k cs cs
  | [] => trivial
  | a :: r => ⟨WkB.refl a, AllB.refl r⟩
end

/-- A list, as the rows of a slice. nt: the element at a place. -/
def lstR {α : Type} (enc : α → List AV) (d : α) (l : List α) : (Unit → Int) → List AV := fun e => enc (l.getD (e ()).toNat d)
/-- A list, as a slice that is only read. -/
def lst {α : Type} (s : Nat) (enc : α → List AV) (d : α) (l : List α) : AV := .isl s (fun _ => (l.length : Int)) (lstR enc d l) .none

/-- Elements of lists by a function that evaluation leaves alone. -/
structure Nth where
  nt : (α : Type) → α → List α → Int → α
  eq : ∀ (α : Type) (d : α) (l : List α) (i : Int), nt α d l i = l.getD i.toNat d

theorem nth_ex : ∃ nt : (α : Type) → α → List α → Int → α, ∀ (α : Type) (d : α) (l : List α) (i : Int), nt α d l i = l.getD i.toNat d := ⟨fun _ d l i => l.getD i.toNat d, fun _ _ _ _ => rfl⟩

section
variable {nt : (α : Type) → α → List α → Int → α} {α : Type} {enc : α → List AV} {d : α} {l : List α}
theorem lst_nt (hnt : ∀ (α : Type) (d : α) (l : List α) (i : Int), nt α d l i = l.getD i.toNat d) (s : Nat) (enc : α → List AV) (d : α) (l : List α) : lst s enc d l = .isl s (fun _ => (l.length : Int)) (fun e => enc (nt α d l (e ()))) .none := by
  unfold lst lstR
  congr 1
  funext e
  rw [hnt]

theorem nt_app (hnt : ∀ (α : Type) (d : α) (l : List α) (i : Int), nt α d l i = l.getD i.toNat d) {l l' : List α} (i : Nat) : nt α d (l ++ l') (i : Int) = if i < l.length then nt α d l (i : Int) else nt α d l' ((i - l.length : Nat) : Int) := by
  rw [hnt, hnt, hnt]
  simp only [Int.toNat_natCast, List.getD_eq_getElem?_getD]
  split
  · rename_i h; rw [List.getElem?_append_left h]
  · rename_i h; rw [List.getElem?_append_right (by omega)]

theorem nt_mem (hnt : ∀ (α : Type) (d : α) (l : List α) (i : Int), nt α d l i = l.getD i.toNat d) {i : Nat} (hi : i < l.length) : nt α d l (i : Int) ∈ l := by
  rw [hnt, Int.toNat_natCast, List.getD_eq_getElem?_getD, List.getElem?_eq_getElem hi]
  exact List.getElem_mem hi
theorem nt_drop (hnt : ∀ (α : Type) (d : α) (l : List α) (i : Int), nt α d l i = l.getD i.toNat d) {i : Nat} (hi : i < l.length) : l.drop i = nt α d l (i : Int) :: l.drop (i + 1) := by
  rw [hnt, Int.toNat_natCast, List.getD_eq_getElem?_getD, List.getElem?_eq_getElem hi, Option.getD_some]
  exact List.drop_eq_getElem_cons hi
theorem nt_take (hnt : ∀ (α : Type) (d : α) (l : List α) (i : Int), nt α d l i = l.getD i.toNat d) {i : Nat} (hi : i < l.length) : l.take (i + 1) = l.take i ++ [nt α d l (i : Int)] := by
  rw [hnt, Int.toNat_natCast, List.getD_eq_getElem?_getD, List.getElem?_eq_getElem hi, Option.getD_some]
  exact List.take_succ_eq_append_getElem hi

/-- One more element. -/
theorem snoc_eq (hnt : ∀ (α : Type) (d : α) (l : List α) (i : Int), nt α d l i = l.getD i.toNat d) {l : List α} {x : α} {n0 : Unit → Int} {f g : (Unit → Int) → List AV} (h0 : n0 () = (l.length : Int)) (hf : f = fun e => enc (nt α d l (e ()))) (hg : g (fun _ => 0) = enc x) :
    ∀ i : Nat, (i : Int) < (l.length : Int) + 1 → snocF n0 f g (fun _ => (i : Int)) = enc (nt α d (l ++ [x]) (i : Int)) := fun i hi => by
  subst hf
  rw [nt_app hnt]
  show (if (i : Int) < n0 () then enc (nt α d l (i : Int)) else g (fun _ => (i : Int) - n0 ())) = _
  by_cases h : i < l.length
  · rw [if_pos (by omega), if_pos h]
  · rw [if_neg (by omega), if_neg h]
    have : i = l.length := by omega
    subst this
    have e : (fun _ : Unit => ((l.length : Int) - n0 ())) = fun _ => 0 := funext fun _ => by omega
    rw [e, hg, hnt]
    simp

theorem WkN.snoc {n k : Nat} (hnt : ∀ (α : Type) (d : α) (l : List α) (i : Int), nt α d l i = l.getD i.toNat d) {s : Nat} {x : α} {n0 m' : Unit → Int} {g : (Unit → Int) → List AV} {tk : Tk} (h0 : n0 () = (l.length : Int)) (hm : m' () = (l.length : Int) + 1) (hg : g (fun _ => 0) = enc x) :
    WkN n k (.isl s m' (snocF n0 (fun e => enc (nt α d l (e ()))) g) tk) (.isl s (fun _ => ((l ++ [x]).length : Int)) (fun e => enc (nt α d (l ++ [x]) (e ()))) tk) :=
  .isl (by rw [hm]; simp) fun i hi => snoc_eq hnt h0 rfl hg i (by rw [hm] at hi; exact hi)
theorem WkN.snocL {n k : Nat} (hnt : ∀ (α : Type) (d : α) (l : List α) (i : Int), nt α d l i = l.getD i.toNat d) {s : Nat} {x : α} {n0 m' : Unit → Int} {g : (Unit → Int) → List AV} {tk : Tk} (h0 : n0 () = (l.length : Int)) (hm : m' () = (l.length : Int) + 1) (hg : g (fun _ => 0) = enc x) :
    WkN n k (.isl s m' (snocF n0 (fun e => enc (nt α d l (e ()))) g) tk) (lst s enc d (l ++ [x])) :=
  .none (by rw [hm]; simp) fun i hi => (snoc_eq hnt h0 rfl hg i (by rw [hm] at hi; exact hi)).trans (by rw [hnt]; rfl)
/-- A list, as it is. -/
theorem WkN.lst {n k : Nat} (hnt : ∀ (α : Type) (d : α) (l : List α) (i : Int), nt α d l i = l.getD i.toNat d) {s : Nat} {m' : Unit → Int} {tk : Tk} (hm : m' () = (l.length : Int)) :
    WkN n k (.isl s m' (fun e => enc (nt α d l (e ()))) tk) (lst s enc d l) :=
  .none hm fun i hi => by show enc (nt α d l _) = enc (l.getD _ d); rw [hnt]
theorem WkB.snoc {n k : Nat} (hnt : ∀ (α : Type) (d : α) (l : List α) (i : Int), nt α d l i = l.getD i.toNat d) {s : Nat} {x : α} {n0 m' : Unit → Int} {g : (Unit → Int) → List AV} (h0 : n0 () = (l.length : Int)) (hm : m' () = (l.length : Int) + 1) (hg : g (fun _ => 0) = enc x) :
    WkB n k (.gar s m' (snocF n0 (fun e => enc (nt α d l (e ()))) g)) (.gar s (fun _ => ((l ++ [x]).length : Int)) (fun e => enc (nt α d (l ++ [x]) (e ())))) :=
  .gar (by rw [hm]; simp) fun i hi => snoc_eq hnt h0 rfl hg i (by rw [hm] at hi; exact hi)
end
end Go.Proofs.Ytlcgliadpalgfaa.Vm

/- The abstract machine: a call that writes an array in place, told by its caller as one that may grow, and frozen behind it. -/
namespace Go.Proofs.Ytlcgliadpalgfaa.Vm
open Go

/-- The first block is not named. -/
def no0 : Nat → AV → Bool
  | 0, _ => false
  | k + 1, a => (match a with
    | .ptr id _ | .aptr id _ _ _ | .msl id _ _ _ _ | .gsl id _ | .gptr id _ _ _ _ | .nsub id _ _ | .nptr id _ _ _ _ | .map id | .yld id | .isl _ _ _ (.own id) => !eqN id 0
    | .lit _ cs => cs.all (no0 k)
    | .fn _ xs bs => xs.all (no0 k) && bs.all (no0 k)
    | .agg cs | .tup cs => cs.all (no0 k)
    | .gd _ v => no0 k v
    | _ => true)

theorem no0_ok {R R' : RC} (hw : R'.w = R.w) (hm : R.m ≤ R'.m) (hα : ∀ id, id ≠ 0 → R'.α id = R.α id ∧ R'.hw id = R.hw id ∧ R'.hv id = R.hv id) (hok : ∀ b o n, R.ok b o n → R'.ok b o n) : ∀ (k : Nat) {a : AV} {v : Value}, no0 k a = true → VR R a v → VR R' a v := by
  have hpr : ∀ {a : AV} {v : Value}, PR R.w R.ok a v → PR R'.w R'.ok a v := fun h => h.mono hok (fun _ _ _ _ _ _ => by rw [hw])
  have ne : ∀ {id : Nat}, (!eqN id 0) = true → id ≠ 0 := fun h e => by subst e; cases h
  intro k
  induction k with
  | zero => intro a v h; cases h
  | succ k ih =>
    intro a v hn hv
    cases hv with
    | pure _ _ hp => exact .pure _ _ (hpr hp)
    | undef => exact .undef _
    | ptr id off h => obtain ⟨h1, _, _⟩ := hα id (ne hn); rw [← h1]; exact .ptr _ _ (Nat.lt_of_lt_of_le h hm)
    | own s m f id _ h hp h1 h2 => obtain ⟨_, e1, e2⟩ := hα id (ne hn); exact .own _ _ _ _ _ (Nat.lt_of_lt_of_le h hm) (hpr hp) (by rw [e1]; exact h1) (by rw [e1, e2]; exact h2)
    | aptr id s e off i h he => obtain ⟨h1, _, _⟩ := hα id (ne hn); rw [← h1]; exact .aptr _ _ _ _ i (Nat.lt_of_lt_of_le h hm) he
    | msl id s lo m c i len cap h hlo h1 hc hle => obtain ⟨e, _, _⟩ := hα id (ne hn); rw [← e]; exact .msl _ _ _ _ _ i len cap (Nat.lt_of_lt_of_le h hm) hlo h1 hc hle
    | gsl id m a l c h h1 h2 h3 => obtain ⟨_, e1, e2⟩ := hα id (ne hn); exact .gsl _ _ a l c (Nat.lt_of_lt_of_le h hm) (by rw [e1]; exact h1) (by rw [e1, e2]; exact h2) h3
    | gptr id s m e off a h h1 h2 => obtain ⟨_, e1, e2⟩ := hα id (ne hn); exact .gptr _ _ _ _ _ a (Nat.lt_of_lt_of_le h hm) (by rw [e1]; exact h1) (by rw [e1, e2]; exact h2)
    | nsub id e l a ll c us i h h1 h2 h3 h4 => obtain ⟨_, _, e2⟩ := hα id (ne hn); exact .nsub _ e l a ll c us i (Nat.lt_of_lt_of_le h hm) (e2.trans h1) h2 h3 h4
    | nptr id s e q off us i b o l c j h h1 h2 h3 h4 => obtain ⟨_, _, e2⟩ := hα id (ne hn); exact .nptr _ s e q off us i b o l c j (Nat.lt_of_lt_of_le h hm) (e2.trans h1) h2 h3 h4
    | lit s cs b o us hs h1 h2 h3 =>
      simp only [no0, List.all_eq_true] at hn
      exact .lit s cs b o us hs (fun j c hj => by rw [hw]; exact h1 j c hj) (fun j c hj => ih (hn c (List.mem_of_getElem? hj)) (h2 j c hj)) (hok _ _ _ h3)
    | map id h => obtain ⟨h1, _, _⟩ := hα id (ne hn); rw [← h1]; exact .map _ (Nat.lt_of_lt_of_le h hm)
    | yld id h => obtain ⟨h1, _, _⟩ := hα id (ne hn); rw [← h1]; exact .yld _ (Nat.lt_of_lt_of_le h hm)
    | fn f xs bs us vs ha hb h1 h2 =>
      simp only [no0, Bool.and_eq_true, List.all_eq_true] at hn
      exact .fn _ _ _ us vs ha hb (fun j c hj => ih (hn.1 c (List.mem_of_getElem? hj)) (h1 j c hj)) (fun j c hj => ih (hn.2 c (List.mem_of_getElem? hj)) (h2 j c hj))
    | agg cs us ha h =>
      simp only [no0, List.all_eq_true] at hn
      exact .agg _ us ha (fun j c hj => ih (hn c (List.mem_of_getElem? hj)) (h j c hj))
    | tup cs us ha h =>
      simp only [no0, List.all_eq_true] at hn
      exact .tup _ us ha (fun j c hj => ih (hn c (List.mem_of_getElem? hj)) (h j c hj))
    | gd g a _ h => exact .gd _ _ _ fun hg => ih hn (h hg)
    | ob g b _ h1 h2 => exact .ob g b _ h1 h2

def no0B : Blk → Bool
  | .cells cs => cs.all (no0 5)
  | .loop s _ => s.all (no0 5)
  | .vgar .. => false
  | _ => true

theorem BR.no0 {R R' : RC} (hn0 : R'.n0 = R.n0) (hw : R'.w = R.w) (hm : R.m ≤ R'.m) (hα : ∀ id, id ≠ 0 → R'.α id = R.α id ∧ R'.hw id = R.hw id ∧ R'.hv id = R.hv id) (hok : ∀ b o n, R.ok b o n → R'.ok b o n) {id : Nat} {blk : Blk} (hid : id ≠ 0) (hn : no0B blk = true) (hb : BR R id blk) : BR R' id blk := by
  obtain ⟨e1, e2, e3⟩ := hα id hid
  have hpr : ∀ {a : AV} {v : Value}, PR R.w R.ok a v → PR R'.w R'.ok a v := fun h => h.mono hok (fun _ _ _ _ _ _ => by rw [hw])
  cases blk with
  | cells cs =>
    obtain ⟨arr, ty, h1, h2, h3⟩ := hb
    simp only [no0B, List.all_eq_true] at hn
    exact ⟨arr, ty, by rw [e1, hw]; exact h1, by rw [e1]; exact h2, fun j c hj => by rw [e1]; exact no0_ok hw hm hα hok 5 (hn c (List.mem_of_getElem? hj)) (h3 j c hj)⟩
  | arr s n f =>
    obtain ⟨arr, ty, len, h1, h2, h3, h4⟩ := hb
    exact ⟨arr, ty, len, by rw [e1, hw]; exact h1, h2, by rw [e1]; exact h3, fun i hi => ⟨(h4 i hi).1, fun j c hj => by rw [e1]; exact hpr ((h4 i hi).2 j c hj)⟩⟩
  | tok s hw' =>
    obtain ⟨h1, h2⟩ := hb
    refine ⟨e2.trans h1, ?_⟩
    rw [e3, hw]
    exact h2
  | gar s n f =>
    obtain ⟨h1, h2⟩ := hb
    refine ⟨e2.trans h1, ?_⟩
    rw [e3]
    rcases h2 with h2 | ⟨b, o, len, cap, arr, ty, g1, g2, g3, g4, g5, g6⟩
    · exact .inl h2
    · exact .inr ⟨b, o, len, cap, arr, ty, g1, g2, g3, by rw [hw]; exact g4, g5, fun i hi => ⟨(g6 i hi).1, fun j c hj => hpr ((g6 i hi).2 j c hj)⟩⟩
  | vgar s n f => cases hn
  | fam z s n m g =>
    obtain ⟨hz, h1, us, hv, h2, h3, h4⟩ := hb
    exact ⟨by rw [hn0]; exact hz, e2.trans h1, us, e3.trans hv, h2, fun i v hu => (h3 i v hu).mono (fun _ _ h => hpr h) fun _ _ => by rw [hw], h4⟩
  | fro s n f =>
    obtain ⟨h1, h2⟩ := hb
    exact ⟨e2.trans h1, by rw [e3]; exact hpr h2⟩
  | mapB m =>
    obtain ⟨es, c, h1, h2⟩ := hb
    exact ⟨es, c, by rw [e1, hw]; exact h1, h2⟩
  | loop s d =>
    obtain ⟨l, h1, h2, h3, h4, h5, h6, h7, h8⟩ := hb
    simp only [no0B, List.all_eq_true] at hn
    exact ⟨l, by rw [e1, hw]; exact h1, h2, h3, h4, h5, h6, h7, fun j c hj => no0_ok hw hm hα hok 5 (hn c (List.mem_of_getElem? hj)) (h8 j c hj)⟩
  | dead => trivial

/-- A result, where the array of the first block has been frozen. -/
def froR (s : Nat) (n : Unit → Int) (F : (Unit → Int) → List AV) : AV → AV
  | .msl 0 s' lo m _ => if eqN s s' then .gd (fun _ => decide (0 ≤ lo () ∧ lo () + m () ≤ n ())) (.isl s m (fun e => F fun _ => lo () + e ()) .none) else .undef
  | r => if no0 5 r then r else .undef

/-- An array that may grow is handed to a function that writes it in place; behind the call it is immutable. -/
theorem SC.inPlace {p : Unit → Program} {f : FuncId} {s : Nat} {n n' : Unit → Int} {F : (Unit → Int) → List AV} {ys : List AV} {hs : List Blk} {Post : AV → List Blk → Prop} (hn : n' () = n ()) (hpos : 0 < n ()) (hys : ys.all (no0 5) = true) (hhs : hs.all no0B = true)
    (H : ∀ c : Int, n () ≤ c → SC p f (.msl 0 s (fun _ => 0) n (fun _ => c) :: ys) (.arr s n F :: hs) fun r h => ∃ F' hs', h = .arr s n F' :: hs' ∧ hs'.all no0B = true ∧ Post (froR s n F' r) (.fro s n F' :: hs')) : SC p f (.gsl 0 n' :: ys) (.gar s n F :: hs) Post := by
  refine ⟨(H (n ()) (Int.le_refl _)).enter, fun G R vs hr ha => ?_⟩
  obtain ⟨hhw, hb⟩ := hr.blk 0 _ rfl
  rcases hb with ⟨h0, _⟩ | ⟨b, o, len, cap, arr, ty, hnl, hlc, hv, harr, hfit, hcon⟩
  · omega
  have hm : 0 < R.m := by rw [← hr.len]; simp
  let R₂ : RC := { R with α := fun i => if i = 0 then ⟨b, o⟩ else R.α i }
  have e0 : R₂.α 0 = ⟨b, o⟩ := by show (if (0 : Nat) = 0 then (⟨b, o⟩ : Loc) else R.α 0) = _; rw [if_pos rfl]
  have hα : ∀ id, id ≠ 0 → R₂.α id = R.α id ∧ R₂.hw id = R.hw id ∧ R₂.hv id = R.hv id := fun id hid => ⟨if_neg hid, rfl, rfl⟩
  have hph0 : ∀ x, Phys R 0 (.gar s n F) x ↔ x = b := fun x => ⟨fun ⟨a, l, c, h1, _, h2⟩ => by rw [hv] at h1; cases h1; exact h2.symm, fun e => ⟨_, _, _, hv, by omega, e.symm⟩⟩
  have hph2 : ∀ {id x b'}, (.arr s n F :: hs : List Blk)[id]? = some x → (Phys R₂ id x b' ↔ ∃ y, (.gar s n F :: hs : List Blk)[id]? = some y ∧ Phys R id y b') := fun {id x b'} hx => by
    cases id with
    | zero =>
      simp only [List.getElem?_cons_zero, Option.some.injEq] at hx
      subst hx
      constructor
      · intro h
        have h : (R₂.α 0).b = b' := h
        rw [e0] at h
        exact ⟨_, rfl, (hph0 b').2 h.symm⟩
      · rintro ⟨y, hy, hp⟩
        simp only [List.getElem?_cons_zero, Option.some.injEq] at hy
        subst hy
        show (R₂.α 0).b = b'
        rw [e0]
        exact ((hph0 b').1 hp).symm
    | succ id =>
      have hx' : (.gar s n F :: hs : List Blk)[id + 1]? = some x := hx
      have := Phys.congr (R := R) (R' := R₂) (id := id + 1) (blk := x) (b := b') (hα _ (Nat.succ_ne_zero _)).1 rfl
      exact ⟨fun h => ⟨x, hx', this.1 h⟩, fun ⟨y, hy, hp⟩ => this.2 (by rw [hx'] at hy; cases hy; exact hp)⟩
  have hav2 : ∀ {b' o' n'}, Avoid R (.gar s n F :: hs) b' o' n' ↔ Avoid R₂ (.arr s n F :: hs) b' o' n' := fun {b' o' n'} => by
    constructor
    · intro ha id x hx
      cases id with
      | zero =>
        simp only [List.getElem?_cons_zero, Option.some.injEq] at hx
        subst hx
        have := ha 0 _ rfl
        intro h
        have h : (R₂.α 0).b = b' := h
        rw [e0] at h
        exact this ((hph0 b').2 h.symm)
      | succ id => exact (AvoidB.congr (R := R) (R' := R₂) (hα _ (Nat.succ_ne_zero _)).1 rfl).2 (ha (id + 1) x hx)
    · intro ha id x hx
      cases id with
      | zero =>
        simp only [List.getElem?_cons_zero, Option.some.injEq] at hx
        subst hx
        have := ha 0 _ rfl
        intro h
        refine this ?_
        show (R₂.α 0).b = b'
        rw [e0]
        exact ((hph0 b').1 h).symm
      | succ id => exact (AvoidB.congr (R := R) (R' := R₂) (hα _ (Nat.succ_ne_zero _)).1 rfl).1 (ha (id + 1) x hx)
  have hhsm : ∀ {id x}, (.gar s n F :: hs : List Blk)[id + 1]? = some x → no0B x = true := fun hx => by
    rw [List.all_eq_true] at hhs
    exact hhs _ (List.mem_of_getElem? (by simpa using hx))
  have H₂ : HR G R₂ (.arr s n F :: hs) := by
    refine ⟨by rw [← show (Blk.gar s n F :: hs).length = R₂.m from hr.len]; rfl, fun b' o' n' => by rw [← hav2]; exact hr.okd b' o' n', fun id x hx => ?_, fun i j bi bj b' hij hi hj hp hp' => ?_, hr.cl, hr.fresh, fun id x b' hx hk hp o' n' => ?_, hr.n0m⟩
    · cases id with
      | zero =>
        simp only [List.getElem?_cons_zero, Option.some.injEq] at hx
        subst hx
        have hmul : len * s ≤ cap * s := Nat.mul_le_mul_right _ hlc
        exact ⟨arr, ty, len, by rw [e0]; exact harr, hnl, by rw [e0]; show o + len * s ≤ arr.size; omega, fun i hi => ⟨(hcon i hi).1, fun j c hj => by rw [e0]; exact (hcon i hi).2 j c hj⟩⟩
      | succ id => exact BR.no0 (R := R) (R' := R₂) rfl rfl (Nat.le_refl _) hα (fun _ _ _ h => h) (Nat.succ_ne_zero _) (hhsm hx) (hr.blk (id + 1) x hx)
    · obtain ⟨y, hy, hp⟩ := (hph2 hi).1 hp
      obtain ⟨z, hz, hp'⟩ := (hph2 hj).1 hp'
      exact hr.dis i j y z b' hij hy hz hp hp'
    · obtain ⟨y, hy, hp⟩ := (hph2 hx).1 hp
      refine hr.tokG id y b' hy ?_ hp o' n'
      cases id with
      | zero =>
        simp only [List.getElem?_cons_zero, Option.some.injEq] at hy
        subst hy; rfl
      | succ id =>
        have hx' : (.gar s n F :: hs : List Blk)[id + 1]? = some x := hx
        rw [hx'] at hy
        cases hy
        exact hk
  have hGb : ∀ o' n', G b o' n' := fun o' n' => hr.tokG 0 _ b rfl rfl ((hph0 b).2 rfl) o' n'
  have hrow : RowA R₂ (.msl 0 s (fun _ => 0) n (fun _ => (cap : Int)) :: ys) vs := by
    refine ⟨ha.1, fun j c hj => ?_⟩
    cases j with
    | zero =>
      simp only [List.getElem?_cons_zero, Option.some.injEq] at hj
      subst hj
      have h0 := ha.2 0 _ rfl
      have hv0 : vs.getD 0 undef = .slice (some ⟨b, o, none⟩) len cap := by
        generalize vs.getD 0 undef = u at h0
        cases h0 with
        | pure _ _ hp => cases hp
        | gsl _ _ a l c h1 h2 h3 _ => rw [h3 (by rw [hn, hhw]), hv]
      rw [hv0]
      have := VR.msl (R := R₂) 0 s (fun _ => 0) n (fun _ => (cap : Int)) 0 len cap hm rfl hnl rfl hlc
      rw [e0] at this
      simpa using this
    | succ j =>
      have hj' : ys[j]? = some c := hj
      rw [List.all_eq_true] at hys
      exact no0_ok (R := R) (R' := R₂) rfl (Nat.le_refl _) hα (fun _ _ _ h => h) 5 (hys c (List.mem_of_getElem? hj')) (ha.2 (j + 1) c hj)
  refine ((H cap (by omega)).run G R₂ vs H₂ hrow).mono fun e w' ⟨v, R₃, r, h₃, c1, c2, c3, c4, c5, c6, F', hs', c7, c8, c9⟩ => ?_
  subst c7
  have e3 : R₃.α 0 = ⟨b, o⟩ := (c4.α 0 hm).trans e0
  let R' := mkRC G R.n0 R₃.w R₃.m (fun i => if i = 0 then R.α 0 else R₃.α i) (fun i => if i = 0 then R.hw 0 else R₃.hw i) (fun i => if i = 0 then R.hv 0 else R₃.hv i) (.fro s n F' :: hs')
  have f1 : R'.α 0 = R.α 0 := by show (if (0 : Nat) = 0 then R.α 0 else R₃.α 0) = _; rw [if_pos rfl]
  have f2 : R'.hw 0 = R.hw 0 := by show (if (0 : Nat) = 0 then R.hw 0 else R₃.hw 0) = _; rw [if_pos rfl]
  have f3 : R'.hv 0 = R.hv 0 := by show (if (0 : Nat) = 0 then R.hv 0 else R₃.hv 0) = _; rw [if_pos rfl]
  have hα' : ∀ id, id ≠ 0 → R'.α id = R₃.α id ∧ R'.hw id = R₃.hw id ∧ R'.hv id = R₃.hv id := fun id hid => ⟨if_neg hid, if_neg hid, if_neg hid⟩
  have hget : ∀ {id x}, (.fro s n F' :: hs' : List Blk)[id]? = some x → (id = 0 ∧ x = .fro s n F') ∨ (id ≠ 0 ∧ (.arr s n F' :: hs' : List Blk)[id]? = some x ∧ no0B x = true) := fun {id x} hx => by
    cases id with
    | zero => simp only [List.getElem?_cons_zero, Option.some.injEq] at hx; exact .inl ⟨rfl, hx.symm⟩
    | succ id =>
      rw [List.all_eq_true] at c8
      exact .inr ⟨Nat.succ_ne_zero _, hx, c8 _ (List.mem_of_getElem? (by simpa using hx))⟩
  have hok : ∀ b' o' n', R₃.ok b' o' n' → R'.ok b' o' n' := fun b' o' n' k => by
    obtain ⟨h1, h2, h3⟩ := (c3.okd _ _ _).1 k
    refine ⟨h1, h2, fun id x hx => ?_⟩
    rcases hget hx with ⟨rfl, rfl⟩ | ⟨hne, hx, _⟩
    · exact fun h => h
    · exact (AvoidB.congr (R := R₃) (hα' id hne).1 (hα' id hne).2.2).2 (h3 id x hx)
  have hokb : ∀ o' n', R'.ok b o' n' := fun o' n' => by
    refine ⟨?_, hGb o' n', fun id x hx => ?_⟩
    · have := c3.phys_lt (id := 0) rfl (show Phys R₃ 0 (.arr s n F') b from by show (R₃.α 0).b = b; rw [e3])
      exact this
    · rcases hget hx with ⟨rfl, rfl⟩ | ⟨hne, hx, _⟩
      · exact fun h => h
      · refine (AvoidB.congr (R := R₃) (hα' id hne).1 (hα' id hne).2.2).2 (avoid_of_not fun hp => ?_)
        exact c3.dis 0 id _ x b (fun e => hne e.symm) rfl hx (show (R₃.α 0).b = b from by rw [e3]) hp
  have hpr : ∀ {a : AV} {v : Value}, PR R₃.w R₃.ok a v → PR R'.w R'.ok a v := fun h => h.mono hok (fun _ _ _ _ _ _ => rfl)
  obtain ⟨arr', ty', len', g1, g2, g3, g4⟩ := c3.blk 0 _ rfl
  rw [e3] at g1 g3
  have hll : len' = len := by omega
  subst hll
  have hisl : ∀ (lo i m cp : Nat), lo + m ≤ len' → m ≤ cp → ∀ n₂ : Unit → Int, n₂ () = (m : Int) → ∀ lo₂ : Unit → Int, lo₂ () = (lo : Int) → PR R'.w R'.ok (.isl s n₂ (fun e => F' fun _ => lo₂ () + e ()) .none) (.slice (some ⟨b, o + lo * s, none⟩) m cp) := fun lo i m cp hlm hmc n₂ hn₂ lo₂ hlo₂ => by
    have hfe : ∀ k : Nat, (F' fun _ => lo₂ () + ((fun _ : Unit => (k : Int)) ())) = F' fun _ => ((lo + k : Nat) : Int) := fun k => congrArg F' (funext fun _ => by show lo₂ () + (k : Int) = _; omega)
    have hmul : (lo + m) * s ≤ len' * s := Nat.mul_le_mul_right _ hlm
    rw [Nat.add_mul] at hmul
    have g3 : o + len' * s ≤ arr'.size := g3
    refine .isl _ _ _ _ b (o + lo * s) m cp (fun k j => arr'.getD (o + lo * s + k * s + j) undef) hn₂ hmc (.inl rfl) (fun h => by cases h) (fun k hk => ?_) (fun k j c hk hj => ?_) (fun k j c hk hj => ?_) (hokb _ _)
    · simp only [hfe]
      exact (g4 (lo + k) (by omega)).1
    · simp only [hfe] at hj
      have hjs : j < s := by rw [← (g4 (lo + k) (by omega)).1]; exact (List.getElem?_eq_some_iff.1 hj).1
      have : (k + 1) * s ≤ m * s := Nat.mul_le_mul_right _ hk
      rw [Nat.succ_mul] at this
      exact cell_of_heap (w := R₃.w) g1 (by omega)
    · simp only [hfe] at hj
      have := hpr ((g4 (lo + k) (by omega)).2 j c hj)
      rw [e3, Nat.add_mul] at this
      rw [show o + lo * s + k * s + j = o + (lo * s + k * s) + j from by omega]
      exact this
  have hphX : ∀ {id x b'}, (.fro s n F' :: hs' : List Blk)[id]? = some x → Phys R' id x b' → id ≠ 0 ∧ (.arr s n F' :: hs' : List Blk)[id]? = some x ∧ Phys R₃ id x b' := fun {id x b'} hx hp => by
    rcases hget hx with ⟨rfl, rfl⟩ | ⟨hne, hx, _⟩
    · exact hp.elim
    · exact ⟨hne, hx, (Phys.congr (R := R₃) (hα' id hne).1 (hα' id hne).2.2).1 hp⟩
  have hle : R.le R' := by
    refine ⟨c4.m, fun id hid => ?_, fun id hid => ?_, fun id hid => ?_, fun b' o' n' k => hok _ _ _ (c5.ok _ _ _ k), fun b' o' n' k j hj => c5.keep b' o' n' k j hj⟩
    · by_cases e : id = 0
      · subst e; exact f1
      · rw [(hα' id e).1, c4.α id hid, (hα id e).1]
    · by_cases e : id = 0
      · subst e
        exact ⟨by rw [f2]; exact Int.le_refl _, fun _ => f3⟩
      · rw [(hα' id e).2.1, (hα' id e).2.2]
        exact c5.tk id hid
    · by_cases e : id = 0
      · subst e
        rw [f3]
        exact .refl _
      · rw [(hα' id e).2.2]
        exact c5.fm id hid
  refine ⟨v, R', froR s n F' r, .fro s n F' :: hs', c1, c2, ⟨by rw [show R'.m = R₃.m from rfl, ← c3.len]; rfl, fun _ _ _ => Iff.rfl, fun id x hx => ?_, fun i j bi bj b' hij hi hj hp hp' => ?_, c3.cl, c3.fresh, fun id x b' hx hk hp o' n' => ?_, Nat.le_trans hr.n0m hle.m⟩, ?_, hle, ?_, c9⟩
  · rcases hget hx with ⟨rfl, rfl⟩ | ⟨hne, hx, hno⟩
    · refine ⟨f2.trans hhw, ?_⟩
      rw [f3, hv]
      have := hisl 0 0 len' cap (by omega) hlc n hnl (fun _ => 0) rfl
      rw [Nat.zero_mul, Nat.add_zero] at this
      have he : (fun e : Unit → Int => F' fun _ => (fun _ : Unit => (0 : Int)) () + e ()) = F' := funext fun e => congrArg F' (funext fun _ => by simp)
      rw [he] at this
      exact this
    · exact BR.no0 (R := R₃) (R' := R') c4.n0.symm rfl (Nat.le_refl _) hα' hok hne hno (c3.blk id x hx)
  · obtain ⟨_, hx, hp⟩ := hphX hi hp
    obtain ⟨_, hx', hp'⟩ := hphX hj hp'
    exact c3.dis i j bi bj b' hij hx hx' hp hp'
  · obtain ⟨_, hx, hp⟩ := hphX hx hp
    exact c3.tokG id x b' hx hk hp o' n'
  · refine ⟨rfl, c4.os, c4.tape, c4.output, c4.size, hle.m, hle.α, hle.ok, hle.keep, fun b' hb' hnp => ?_, fun id x b' hx hp => ?_⟩
    · refine c4.frame b' hb' (fun id x hx hp => ?_)
      obtain ⟨y, hy, hp⟩ := (hph2 hx).1 hp
      exact hnp id y hy hp
    · obtain ⟨_, hx, hp⟩ := hphX hx hp
      rcases c4.own id x b' hx hp with h1 | ⟨i₁, y, h1, h2, h3⟩
      · exact .inl h1
      · obtain ⟨y', h4, h5⟩ := (hph2 h1).1 h2
        exact .inr ⟨i₁, y', h4, h5, h3⟩
  · unfold froR
    split
    · rename_i s' lo m cc
      split
      · rename_i hss
        have hss := eqN_ok hss
        subst hss
        refine .gd _ _ _ fun hg => ?_
        have hg := of_decide_eq_true hg
        cases c6 with
        | pure _ _ hp => cases hp
        | msl _ _ _ _ _ i ln cp h1 h2 h3 h4 h5 =>
          rw [e3]
          exact .pure _ _ (hisl i 0 ln cp (by omega) h5 m h3 lo h2)
      · exact .undef _
    · split
      · rename_i hno
        exact no0_ok (R := R₃) (R' := R') rfl (Nat.le_refl _) hα' hok 5 hno c6
      · exact .undef _
end Go.Proofs.Ytlcgliadpalgfaa.Vm

/- The abstract machine run at given values: all stops are decided. -/
namespace Go.Proofs.Ytlcgliadpalgfaa.Vm
open Go

theorem unit_ext {α : Type} {f g : Unit → α} (h : f () = g ()) : f = g := funext fun _ => h

def all2 (e : AV → AV → Bool) : List AV → List AV → Bool
  | [], [] => true
  | a :: r, b :: s => (match e a b with
    | true => all2 e r s
    | false => false)
  | _, _ => false

theorem all2_get {e : AV → AV → Bool} : ∀ {l l' : List AV}, all2 e l l' = true → l.length = l'.length ∧ ∀ (j : Nat) (c' : AV), l'[j]? = some c' → ∃ c, l[j]? = some c ∧ e c c' = true
  | [], [], _ => ⟨rfl, fun j c' h => by simp at h⟩
  | a :: r, b :: s, h => by
    unfold all2 at h
    split at h
    · rename_i he
      obtain ⟨h1, h2⟩ := all2_get h
      refine ⟨by simp [h1], fun j c' hj => ?_⟩
      cases j with
      | zero =>
        simp only [List.getElem?_cons_zero, Option.some.injEq] at hj
        subst hj
        exact ⟨a, rfl, he⟩
      | succ j => exact h2 j c' hj
    · cases h
  | [], _ :: _, h => by simp [all2] at h
  | _ :: _, [], h => by simp [all2] at h

def tkEq : Tk → Tk → Bool
  | .none, .none | .nil, .nil | .exact, .exact | .nil, .none | .exact, .none => true
  | _, _ => false
theorem tkEq_ok {a b : Tk} (h : tkEq a b = true) : (b = a ∨ b = .none) ∧ (∀ id, a ≠ .own id) ∧ ∀ id, b ≠ .own id := by
  cases a <;> cases b <;> first | (cases h; done) | exact ⟨.inl rfl, (fun id h => by cases h), (fun id h => by cases h)⟩ | exact ⟨.inr rfl, (fun id h => by cases h), (fun id h => by cases h)⟩

/-- The rows below k. -/
def rowsEq (e : AV → AV → Bool) (f g : (Unit → Int) → List AV) : Nat → Bool
  | 0 => true
  | k + 1 => (match all2 e (f fun _ => (k : Int)) (g fun _ => (k : Int)) with
    | true => rowsEq e f g k
    | false => false)
theorem rowsEq_ok {e : AV → AV → Bool} {f g : (Unit → Int) → List AV} : ∀ {k : Nat}, rowsEq e f g k = true → ∀ i, i < k → all2 e (f fun _ => (i : Int)) (g fun _ => (i : Int)) = true
  | 0, _, i, hi => by omega
  | k + 1, h, i, hi => by
    unfold rowsEq at h
    split at h
    · rename_i he
      by_cases e : i = k
      · subst e; exact he
      · exact rowsEq_ok h i (by omega)
    · cases h

def eqP : Nat → AV → AV → Bool
  | _ + 1, .int q f, .int q' g => kindEq q q' && decide (f () = g ())
  | _ + 1, .bool f, .bool g => f () == g ()
  | _ + 1, .nilptr, .nilptr => true
  | _ + 1, .nilmap, .nilmap => true
  | _ + 1, .nilfn, .nilfn => true
  | _ + 1, .str s, .str s' => decide (s () = s' ())
  | k + 1, .isl s n f tk, .isl s' n' f' tk' => eqN s s' && tkEq tk tk' && decide (n () = n' ()) && rowsEq (eqP k) f f' (n ()).toNat
  | k + 1, .iptr cs o, .iptr cs' o' => eqN o o' && all2 (eqP k) cs cs'
  | _, _, _ => false

theorem eqP_ok : ∀ (k : Nat) {a b : AV}, eqP k a b = true → ∀ {w : World} {ok : Nat → Nat → Nat → Prop} {u : Value}, PR w ok a u → PR w ok b u
  | 0, _, _, h, _, _, _, _ => by simp [eqP] at h
  | k + 1, a, b, h, w, ok, u, hp => by
    unfold eqP at h
    split at h
    · rename_i he; cases he
      simp only [Bool.and_eq_true, decide_eq_true_eq] at h
      rw [← kindEq_ok h.1, ← unit_ext h.2]; exact hp
    · rw [← unit_ext (eq_of_beq h)]; exact hp
    · exact hp
    · exact hp
    · exact hp
    · rw [← unit_ext (of_decide_eq_true h)]; exact hp
    · rename_i k' s n f tk s' n' f' tk' he; cases he
      simp only [Bool.and_eq_true, decide_eq_true_eq] at h
      obtain ⟨⟨⟨h1, h2⟩, h3⟩, h4⟩ := h
      obtain ⟨htk, hno, hno'⟩ := tkEq_ok h2
      have h1 := eqN_ok h1
      subst h1
      have hrow := rowsEq_ok h4
      cases hp with
      | isl0 _ _ _ _ h0 ht => exact .isl0 _ _ _ _ (by omega) hno'
      | islE _ _ _ _ a h0 ht => exact .islE _ _ _ _ a (by omega) (by rcases htk with rfl | rfl; exact ht; exact .inl rfl)
      | isl _ _ _ _ b o len cap us hn hc ht hx hl g1 g2 g3 =>
        have hget : ∀ i, i < len → (f fun _ => (i : Int)).length = (f' fun _ => (i : Int)).length ∧ ∀ (j : Nat) (c' : AV), (f' fun _ => (i : Int))[j]? = some c' → ∃ c, (f fun _ => (i : Int))[j]? = some c ∧ eqP k c c' = true := fun i hi => all2_get (hrow i (by omega))
        refine .isl _ _ _ _ b o len cap us (by omega) hc (by rcases htk with rfl | rfl; exact ht; exact .inl rfl) (fun e => by rcases htk with rfl | rfl; exact hx e; cases e) (fun i hi => by rw [← (hget i hi).1]; exact hl i hi) (fun i j c hi hj => ?_) (fun i j c hi hj => ?_) g3
        · obtain ⟨c0, e1, _⟩ := (hget i hi).2 j c hj
          exact g1 i j c0 hi e1
        · obtain ⟨c0, e1, e2⟩ := (hget i hi).2 j c hj
          exact eqP_ok k e2 (g2 i j c0 hi e1)
    · rename_i k' cs o cs' o' he; cases he
      simp only [Bool.and_eq_true] at h
      obtain ⟨h1, h2⟩ := h
      have h1 := eqN_ok h1
      subst h1
      obtain ⟨e1, e2⟩ := all2_get h2
      cases hp with
      | iptr _ _ b o us g1 g2 g3 =>
        refine .iptr _ _ b o us (fun j c hj => ?_) (fun j c hj => ?_) (by rw [← e1]; exact g3)
        · obtain ⟨c0, e3, _⟩ := e2 j c hj
          exact g1 j c0 e3
        · obtain ⟨c0, e3, e4⟩ := e2 j c hj
          exact eqP_ok k e4 (g2 j c0 e3)
    · cases h

theorem eqP_own {k s id : Nat} {n : Unit → Int} {f : (Unit → Int) → List AV} {b : AV} (h : eqP k (.isl s n f (.own id)) b = true) : False := by
  cases k with
  | zero => simp [eqP] at h
  | succ k => cases b with
    | isl s' n' f' tk' =>
      simp only [eqP, Bool.and_eq_true] at h
      exact (tkEq_ok h.1.1.2).2.1 _ rfl
    | _ => simp [eqP] at h

def eqAV : Nat → AV → AV → Bool
  | k + 1, .agg cs, .agg cs' => all2 (eqAV k) cs cs'
  | k + 1, .tup cs, .tup cs' => all2 (eqAV k) cs cs'
  | _ + 1, .ptr a b, .ptr c d => eqN a c && eqN b d
  | _ + 1, .gsl a n, .gsl b m => eqN a b && decide (n () = m ())
  | _ + 1, .map a, .map b => eqN a b
  | _ + 1, .yld a, .yld b => eqN a b
  | k + 1, .isl s n f (.own id), .isl s' n' f' (.own id') => eqN id id' && decide (n () = n' ()) && eqP k (.isl s n f .none) (.isl s' n' f' .none)
  | _ + 1, _, .undef => true
  | k + 1, .gd g a, .gd g' b => (match g' () with
    | false => true
    | true => g () && eqAV k a b)
  | k + 1, a, b => eqP k a b
  | 0, _, _ => false

theorem eqAV_ok : ∀ (k : Nat) {a b : AV}, eqAV k a b = true → Imp a b
  | 0, _, _, h => by simp [eqAV] at h
  | k + 1, a, b, h => ⟨fun R u hv => by
    unfold eqAV at h
    split at h
    · rename_i he; cases he
      obtain ⟨e1, e2⟩ := all2_get h
      cases hv with
      | pure _ _ hp => cases hp
      | agg _ us ha hh => exact .agg _ us (e1 ▸ ha) fun j c hj => let ⟨c0, e3, e4⟩ := e2 j c hj; (eqAV_ok k e4).f _ _ (hh j c0 e3)
    · rename_i he; cases he
      obtain ⟨e1, e2⟩ := all2_get h
      cases hv with
      | pure _ _ hp => cases hp
      | tup _ us ha hh => exact .tup _ us (e1 ▸ ha) fun j c hj => let ⟨c0, e3, e4⟩ := e2 j c hj; (eqAV_ok k e4).f _ _ (hh j c0 e3)
    · simp only [Bool.and_eq_true] at h
      rw [← eqN_ok h.1, ← eqN_ok h.2]; exact hv
    · simp only [Bool.and_eq_true, decide_eq_true_eq] at h
      rw [← eqN_ok h.1, ← unit_ext h.2]; exact hv
    · rw [← eqN_ok h]; exact hv
    · rw [← eqN_ok h]; exact hv
    · rename_i k' s n f id s' n' f' id' he; cases he
      simp only [Bool.and_eq_true, decide_eq_true_eq] at h
      obtain ⟨⟨h1, h2⟩, h3⟩ := h
      have h1 := eqN_ok h1
      subst h1
      cases hv with
      | pure _ _ hp => cases hp with
        | isl0 _ _ _ _ h0 ht => exact absurd rfl (ht _)
        | islE _ _ _ _ _ _ ht => rcases ht with ht | ht <;> cases ht
        | isl _ _ _ _ b o len cap us hn hc ht => rcases ht with ht | ht <;> cases ht
      | own _ _ _ _ _ g1 g2 g3 g4 => exact .own _ _ _ _ _ g1 (eqP_ok k h3 g2) (by omega) (fun e => g4 (by omega))
    · exact .undef _
    · rename_i k' g a g' b he; cases he
      refine .gd _ _ _ fun hg => ?_
      simp only [hg, Bool.and_eq_true] at h
      cases hv with
      | pure _ _ hp => cases hp
      | gd _ _ _ hh => exact (eqAV_ok k h.2).f _ _ (hh h.1)
    · rename_i he _ _ _ _ _ _ _ _ _
      cases he
      cases k with
      | zero => simp [eqP] at h
      | succ k => cases hv with
        | pure _ _ hp => exact .pure _ _ (eqP_ok _ h hp)
        | own _ _ _ _ _ g1 g2 g3 g4 =>
          exact (eqP_own h).elim
        | _ => simp [eqP] at h
    · cases h⟩

def Cn.b : Cn → Bool
  | .d _ b _ => b ()
  | .e v w => eqAV 8 (v ()) (w ())
  | .i g x => (match g () with
    | true => x.b
    | false => true)

theorem Cn.b_ok : ∀ {x : Cn}, x.b = true → x.p
  | .d _ _ ok, h => ok h
  | .e _ _, h => .inr (eqAV_ok 8 h)
  | .i g x, h => fun hg => by
    unfold Cn.b at h
    rw [hg] at h
    exact Cn.b_ok (x := x) h

def okC : Cd → Bool
  | [] => true
  | x :: r => (match x.b with
    | true => okC r
    | false => false)

theorem okC_ok : ∀ {c : Cd}, okC c = true → allc c
  | [], _ => allc_nil
  | x :: r, h => fun y hy => by
    unfold okC at h
    split at h
    · rename_i hx
      rcases List.mem_cons.1 hy with rfl | hy
      · exact Cn.b_ok hx
      · exact okC_ok (c := r) h y hy
    · cases h

theorem chk_okC {c : Cd} {G : Prop} (hc : okC c = true) (hg : G) : chk c G := chk_of (okC_ok hc) hg

/-- What is to be run. -/
inductive Task where
  | go (hd : Hd) (k : List Item) (c : Cd)
  | loop (x : Code)

/-- Where functions lie, how they are run, and what is known of calls. -/
structure Env where
  F : FuncId → Option Func
  T : FuncId → Tb
  O : FuncId → List AV → List Blk → Option (AV × List Blk)

def andB (a : Bool) (b : Unit → Bool) : Bool := match a with
  | true => b ()
  | false => false

theorem andB_ok {a : Bool} {b : Unit → Bool} (h : andB a b = true) : a = true ∧ b () = true := by
  cases a with
  | true => exact ⟨rfl, h⟩
  | false => cases h

def outK (k : List Item) (go : List Item → List AV → List Blk → Bool) (K : Ex → List AV → List Blk → Bool) (e : Ex) (s : List AV) (h : List Blk) : Bool := match e with
  | .normal => false
  | .exit id => (match exitTo id k with
    | some k => go k s h
    | none => K (.exit id) s h)
  | .ret => K .ret s h

def retB (T : Tb) (rs : List ResultVar) (n : Nat) (K : AV → List Blk → Bool) (e : Ex) (s : List AV) (h : List Blk) : Bool := match e with
  | .exit _ => false
  | _ => (match resE T s h rs with
    | some (vs, c') => (match tell true (retIds T.ks T.kp n h.length vs) h 5 (tupOf vs) with
      | r => andB (okC (c' ++ stripC r)) fun _ => K (strip r) (sel true (retIds T.ks T.kp n h.length vs) h))
    | none => false)

def allB {α : Type} (f : α → Bool) : List α → Bool
  | [] => true
  | a :: l => andB (f a) fun _ => allB f l

abbrev Rn := Tb → Task → List AV → List Blk → (Ex → List AV → List Blk → Bool) → Bool

/-- A function is called. -/
def callW (V : Env) (rn : Rn) (f : FuncId) (xs : List AV) (h : List Blk) (q : AV → List Blk → Bool) : Bool := match V.F f with
  | some fn => (match fn.body with
    | some body => andB (zOk h) fun _ => rn (V.T f) (.go .none [.code body] []) (entry fn.ntmps xs) h (retB (V.T f) fn.results.toList h.length q)
    | none => false)
  | none => false

def rdT (T : Tb) : Tb := { T with rd := true }

def endB (n id : Nat) (j : Option Code) (q : AV → List Blk → Bool) (h : List Blk) : Bool := match h[id]? with
  | some (.loop s d) => q (.bool fun _ => j.isNone) (sel true (List.range n) (h.set id (.loop s { d with st := if j.isNone then .ready else .done, pe := j })))
  | _ => false

/-- What a loop hands out is called. -/
def roundW (rn : Rn) (T : Tb) (id : Nat) (xs : List AV) (h : List Blk) (q : AV → List Blk → Bool) : Bool := match h[id]? with
  | some (.loop s0 d) => andB (eqN xs.length d.ps.size && zOk h) fun _ => rn (rdT T) (.go .none [.code d.a] []) (putPs d.ps.toList xs s0) h fun e s h₂ => (match e with
    | .normal => (match h₂[id]? with
      | some (.loop s' d') => (match d'.st with
        | .ready => rn (rdT T) (.go .none [.code d.x] []) s (h₂.set id (.loop s' { d' with st := .busy })) fun e _ h₃ => (match e with
          | .normal => endB h.length id none q h₃
          | .exit i => endB h.length id (some (.exit i)) q h₃
          | .ret => endB h.length id (some .ret) q h₃)
        | _ => false)
      | _ => false)
    | _ => false)
  | _ => false

def loopEndB (Q : Ex → List AV → List Blk → Bool) (s : List AV) (m : Nat) (h : List Blk) : Bool := match h[m]? with
  | some (.loop s' d) => (match d.st with
    | .busy => false
    | _ => (match d.pe with
      | none => Q .normal s (sel true (List.range m) (h.set m (.loop s' { d with st := .exhausted })))
      | some (.exit i) => Q (.exit i) s (sel true (List.range m) (h.set m (.loop s' { d with st := .exhausted })))
      | some .ret => Q .ret s (sel true (List.range m) (h.set m (.loop s' { d with st := .exhausted })))
      | _ => false))
  | _ => false

/-- A slot that holds a nil slice gets room. -/
def ghost1 (s : List AV) (h : List Blk) (p : Nat × Nat) : List AV × List Blk := match s[p.1]? with
  | some (.isl _ _ _ .nil) => (s.set p.1 (.isl p.2 (fun _ => 0) (fun _ => []) (.own h.length)), h ++ [.tok p.2 fun _ => 0])
  | some (.ptr id off) => (match h[id]? with
    | some (.cells cs) => (match cs[off]? with
      | some (.isl _ _ _ .nil) => (s, (h.set id (.cells (cs.set off (.isl p.2 (fun _ => 0) (fun _ => []) (.own h.length))))) ++ [.tok p.2 fun _ => 0])
      | _ => (s, h))
    | _ => (s, h))
  | _ => (s, h)
def ghostS : List (Nat × Nat) → List AV → List Blk → List AV × List Blk
  | [], s, h => (s, h)
  | p :: l, s, h => (match ghost1 s h p with
    | (s, h) => ghostS l s h)

theorem AllW.set {n k : Nat} {b : AV} : ∀ {s : List AV} {i : Nat} {a : AV}, s[i]? = some a → WkN n k a b → AllW n k s (s.set i b)
  | x :: r, 0, a, h, hw => by
    simp only [List.getElem?_cons_zero, Option.some.injEq] at h
    subst h
    exact .mk hw (AllW.refl r)
  | x :: r, i + 1, a, h, hw => .mk (.refl x) (AllW.set (s := r) (by simpa using h) hw)
  | [], i, a, h, _ => by simp at h

theorem AllB.set {n k : Nat} {b : Blk} : ∀ {s : List Blk} {i : Nat} {a : Blk}, s[i]? = some a → WkB n k a b → AllB n k s (s.set i b)
  | x :: r, 0, a, h, hw => by
    simp only [List.getElem?_cons_zero, Option.some.injEq] at h
    subst h
    exact ⟨hw, AllB.refl r⟩
  | x :: r, i + 1, a, h, hw => ⟨.refl x, AllB.set (s := r) (by simpa using h) hw⟩
  | [], i, a, h, _ => by simp at h
theorem AllB.app {n k : Nat} : ∀ {a b c d : List Blk}, AllB n k a b → AllB n k c d → AllB n k (a ++ c) (b ++ d)
  | [], [], _, _, _, h => h
  | _ :: _, _ :: _, _, _, h, h' => ⟨h.1, AllB.app h.2 h'⟩
  | [], _ :: _, _, _, h, _ => h.elim
  | _ :: _, [], _, _, h, _ => h.elim

theorem ghost1_to (s : List AV) (h : List Blk) (p : Nat × Nat) : To s h (ghost1 s h p).1 (ghost1 s h p).2 := by
  unfold ghost1
  split
  · rename_i hs
    exact To.of [(p.2, false)] ⟨AllW.set hs (.nilOwn (Nat.le_refl _) (by simp) rfl), AllB.refl _⟩
  · split
    · rename_i hb
      split
      · rename_i hc
        refine To.of [(p.2, false)] ⟨AllW.refl _, AllB.app (AllB.set hb (.cells (AllW.set hc (.nilOwn (Nat.le_refl _) (by simp) rfl)))) (AllB.refl _)⟩
      · exact To.refl _ _
    · exact To.refl _ _
  · exact To.refl _ _
theorem ghostS_to : ∀ (l : List (Nat × Nat)) (s : List AV) (h : List Blk), To s h (ghostS l s h).1 (ghostS l s h).2
  | [], s, h => To.refl _ _
  | p :: l, s, h => (ghost1_to s h p).trans (ghostS_to l _ _)

theorem CB.to {p : Unit → Program} {x : Code} {Q : Ex → List AV → List Blk → Prop} {s s₂ : List AV} {h h₂ : List Blk} (hto : To s h s₂ h₂) (H : CB p x Q s₂ h₂) : CB p x Q s h := ⟨fun R₀ h₀ => CI.to hto (H.run R₀ h₀)⟩

/-- A range over a function. -/
def cbW (V : Env) (rn : Rn) (f : Operand) (ps : Array Tmp) (a x : Code) (s : List AV) (h : List Blk) (Q : Ex → List AV → List Blk → Bool) : Bool := match strip (ev s f) with
  | .fn fid first cap => andB (okC (stripC (ev s f))) fun _ => callW V rn fid (first ++ [.yld h.length] ++ cap) (h ++ [.loop s ⟨ps, a, x, .ready, none⟩]) fun _ h' => loopEndB Q s h.length h'
  | _ => false

def outN (k : List Item) (go : List Item → List AV → List Blk → Bool) (K : Ex → List AV → List Blk → Bool) (e : Ex) (s : List AV) (h : List Blk) : Bool := match e with
  | .normal => go k s h
  | .exit id => (match exitTo id k with
    | some k => go k s h
    | none => K (.exit id) s h)
  | .ret => K .ret s h

def run (V : Env) : Nat → Rn
  | 0, _, _, _, _, _ => false
  | n + 1, T, t, s, h, K => (match t with
    | .loop x => run V n T (.go .none [.code x] []) s h fun e s h => (match e with
      | .normal => run V n T (.loop x) s h K
      | e => K e s h)
    | .go hd k c => (match exec T 4000 hd k s h c with
      | .bad => false
      | .cut .. => false
      | .fin e s h c => andB (okC c) fun _ => K e s h
      | .br c b k₁ k₂ s h => andB (okC c) fun _ => (match b () with
        | true => run V n T (.go .none k₁ []) s h K
        | false => run V n T (.go .none k₂ []) s h K)
      | .gd c g x k s h => andB (okC c) fun _ => (match g () with
        | true => run V n T (.go (.event x) k []) s h K
        | false => (match afterOp T x .undef s h [] with
          | some (hd, s, c) => run V n T (.go hd k c) s h K
          | none => false))
      | .call c tg xs x k s h => andB (okC c) fun _ => (match tg with
        | .yld id => roundW (run V n) T id xs h fun r h' => (match afterOp T x r s h' [] with
          | some (hd, s, c) => run V n T (.go hd k c) s h' K
          | none => false)
        | .fn f => (match V.O f xs h with
          | some (r, h') => (match afterOp T x r s h' [] with
            | some (hd, s, c) => run V n T (.go hd k c) s h' K
            | none => false)
          | none => callW V (run V n) f xs h fun r h' => (match afterOp T x r s h' [] with
            | some (hd, s, c) => run V n T (.go hd k c) s h' K
            | none => false)))
      | .alls c ops pr s0 m done qs k s h => andB (okC c) fun _ => allB (fun q => run V n T (.go (.gev (.d ops pr s0 m done q)) k []) s h K) qs
      | .loop c x k s h => andB (okC c) fun _ => run V n T (.loop x) s h (outK k (fun k s h => run V n T (.go .none k []) s h K) K)
      | .cb c f ps a x k s h => andB (okC c) fun _ => (match ghostS T.gh s h with
        | (s, h) => cbW V (run V n) f ps a x s h (outN k (fun k s h => run V n T (.go .none k []) s h K) K))))

def callB (V : Env) (n : Nat) (f : FuncId) (xs : List AV) (h : List Blk) (q : AV → List Blk → Bool) : Bool := callW V (run V n) f xs h q

structure Env.Ok (V : Env) (p : Unit → Program) : Prop where
  F : ∀ f fn, V.F f = some fn → (p ()).funcs[f]? = some fn ∧ (fn.name == "runtime.NumGoroutine") = false
  T : ∀ f, (V.T f).Of (p ())
  O : ∀ f xs h r h', V.O f xs h = some (r, h') → SC p f xs h fun r₂ h₂ => r₂ = r ∧ h₂ = h'

section
variable {V : Env} {p : Unit → Program}

theorem retB_ok {T : Tb} {rs : List ResultVar} {n : Nat} {q : AV → List Blk → Bool} {Post : AV → List Blk → Prop} (hq : ∀ r h, q r h = true → Post r h) {e : Ex} {s : List AV} {h : List Blk} {c : Cd} (hc : allc c) (hr : retB T rs n q e s h = true) : retK T rs n Post e s h c := by
  have key : (match resE T s h rs with
    | some (vs, c') => (match tell true (retIds T.ks T.kp n h.length vs) h 5 (tupOf vs) with
      | r => andB (okC (c' ++ stripC r)) fun _ => q (strip r) (sel true (retIds T.ks T.kp n h.length vs) h))
    | none => false) = true → (match resE T s h rs with
    | some (vs, c') => finK (c ++ c') Post (tell true (retIds T.ks T.kp n h.length vs) h 5 (tupOf vs)) (sel true (retIds T.ks T.kp n h.length vs) h)
    | none => False) := fun hr => by
    split at hr
    · rename_i vs c' he
      obtain ⟨h1, h2⟩ := andB_ok hr
      have h1 := okC_ok h1
      obtain ⟨h3, h4⟩ := allc_app h1
      refine chk_of (fun x hx => ?_) (hq _ _ h2)
      rcases List.mem_append.1 hx with hx | hx
      · rcases List.mem_append.1 hx with hx | hx
        · exact hc x hx
        · exact h3 x hx
      · exact h4 x hx
    · cases hr
  cases e with
  | exit id => cases hr
  | normal => exact key hr
  | ret => exact key hr

theorem allB_ok {α : Type} {f : α → Bool} {g : α → Prop} (hfg : ∀ a, f a = true → g a) : ∀ {l : List α}, allB f l = true → Alls g l
  | [], _ => trivial
  | [a], h => hfg a (andB_ok h).1
  | a :: b :: l, h => ⟨hfg a (andB_ok h).1, allB_ok hfg (l := b :: l) (andB_ok h).2⟩

/-- What a task says. -/
def Says (p : Unit → Program) (n : Nat) (T : Tb) (t : Task) (s : List AV) (h : List Blk) (K : Ex → List AV → List Blk → Bool) : Prop := match t with
  | .go hd k c => ∀ K' : Ex → List AV → List Blk → Cd → Prop, (∀ e s h c, allc c → K e s h = true → K' e s h c) → Dn T p K' n hd k s h c
  | .loop x => ∀ Q : Ex → List AV → List Blk → Prop, (∀ e s h, e ≠ .normal → K e s h = true → Q e s h) → LP T.rd p x Q s h

def Good (p : Unit → Program) (n : Nat) (rn : Rn) : Prop := ∀ (T : Tb), T.Of (p ()) → ∀ (t : Task) (s : List AV) (h : List Blk) (K : Ex → List AV → List Blk → Bool), rn T t s h K = true → Says p n T t s h K

theorem callW_ok (hV : V.Ok p) (hm : (p ()).follows .mixedOrders = true) {n : Nat} {rn : Rn} (hg : Good p n rn) {f : FuncId} {xs : List AV} {h : List Blk} {q : AV → List Blk → Bool} {Post : AV → List Blk → Prop} (hr : callW V rn f xs h q = true) (hq : ∀ r h, q r h = true → Post r h) : SC p f xs h Post := by
  unfold callW at hr
  split at hr
  case h_2 => cases hr
  rename_i fn hF
  split at hr
  case h_2 => cases hr
  rename_i body hb
  obtain ⟨f1, f2⟩ := hV.F _ _ hF
  obtain ⟨hz, hr⟩ := andB_ok hr
  exact SC.of (hV.T f) hm f1 hb f2 hz (n := n * 4000) (Dn_ok n .none _ _ _ [] (hg _ (hV.T f) _ _ _ _ hr _ fun e s h c hc hk => retB_ok hq hc hk))

theorem endB_ok {n id : Nat} {j : Option Code} {q : AV → List Blk → Bool} {Post : AV → List Blk → Prop} (hq : ∀ r h, q r h = true → Post r h) {h : List Blk} (hr : endB n id j q h = true) : endRd n id j Post h := by
  unfold endB at hr
  unfold endRd
  split at hr
  · rename_i s d hi
    try simp only [hi]
    exact hq _ _ hr
  · cases hr

theorem roundW_ok (hm : (p ()).follows .mixedOrders = true) {n : Nat} {rn : Rn} (hg : Good p n rn) {T : Tb} (hT : T.Of (p ())) {id : Nat} {xs : List AV} {h : List Blk} {q : AV → List Blk → Bool} {Post : AV → List Blk → Prop} (hr : roundW rn T id xs h q = true) (hq : ∀ r h, q r h = true → Post r h) : YC p id xs h Post := by
  unfold roundW at hr
  split at hr
  case h_2 => cases hr
  rename_i s0 d hi
  obtain ⟨h1, h2⟩ := andB_ok hr
  simp only [Bool.and_eq_true] at h1
  obtain ⟨h1, hz⟩ := h1
  have hT' : (rdT T).Of (p ()) := ⟨hT.ti, hT.un, hT.eqs⟩
  refine YC.of (T := rdT T) (n := n * 4000) (m := n * 4000) hT' hm rfl hi (eqN_ok h1) hz (Dn_ok n .none _ _ _ [] (hg _ hT' _ _ _ _ h2 _ fun e s h₂ c hc hk => ?_))
  cases e with
  | exit _ => cases hk
  | ret => cases hk
  | normal =>
    refine chk_of hc ?_
    simp only at hk
    split at hk
    case h_2 => cases hk
    rename_i s' d' hi'
    split at hk
    case h_2 => cases hk
    rename_i hst
    try simp only [hi', hst]
    refine Dn_ok n .none _ _ _ [] (hg _ hT' _ _ _ _ hk _ fun e s h₃ c hc hk => ?_)
    cases e with
    | normal => exact chk_of hc (endB_ok hq hk)
    | exit i => exact chk_of hc (endB_ok hq hk)
    | ret => exact chk_of hc (endB_ok hq hk)

theorem cbW_ok (hV : V.Ok p) (hm : (p ()).follows .mixedOrders = true) {n : Nat} {rn : Rn} (hg : Good p n rn) {f : Operand} {ps : Array Tmp} {a x : Code} {s : List AV} {h : List Blk} {Q : Ex → List AV → List Blk → Bool} {Post : Ex → List AV → List Blk → Prop} (hr : cbW V rn f ps a x s h Q = true)
    (hq : ∀ e s h, Q e s h = true → Post e s h) : CB p (.rangeFunc f ps a x) Post s h := by
  unfold cbW at hr
  split at hr
  case h_2 => cases hr
  rename_i fid first cap hf
  obtain ⟨h1, h2⟩ := andB_ok hr
  refine CB.of hf (okC_ok h1) (callW_ok hV hm hg h2 fun r h' hl => ?_)
  unfold loopEndB at hl
  unfold loopEnd
  split at hl
  case h_2 => cases hl
  rename_i s' d hi
  try simp only [hi]
  cases hst : d.st with
  | busy => rw [hst] at hl; cases hl
  | _ =>
    all_goals
      rw [hst] at hl
      simp only at hl ⊢
      split at hl
      · rename_i hp; have hl := hq _ _ _ hl; simp only [hp] at hl ⊢; exact hl
      · rename_i hp; have hl := hq _ _ _ hl; simp only [hp] at hl ⊢; exact hl
      · rename_i hp; have hl := hq _ _ _ hl; simp only [hp] at hl ⊢; exact hl
      · cases hl

theorem run_ok (hV : V.Ok p) (hm : (p ()).follows .mixedOrders = true) : ∀ (n : Nat), Good p n (run V n)
  | 0, _, _, _, _, _, _, hr => by unfold run at hr; cases hr
  | n + 1, T, hT, t, s, h, K, hr => by
    have ih := run_ok hV hm n
    unfold run at hr
    split at hr
    · rename_i x
      intro Q hQ
      refine LP.of hT hm (n := n * 4000) (Dn_ok n .none [.code x] s h [] ?_)
      refine ih T hT _ _ _ _ hr _ fun e s h c hc hk => ?_
      cases e with
      | normal => exact chk_of hc (ih T hT (.loop x) _ _ _ hk Q hQ)
      | exit id => exact chk_of hc (hQ _ _ _ (by simp) hk)
      | ret => exact chk_of hc (hQ _ _ _ (by simp) hk)
    · rename_i hd k c
      intro K' hK
      show den T p K' (Dn T p K' n) (exec T 4000 hd k s h c)
      have goD : ∀ {hd k c s h}, run V n T (.go hd k c) s h K = true → Dn T p K' n hd k s h c := fun hh => ih T hT _ _ _ _ hh K' hK
      have aft : ∀ {x : Cx} {k : List Item} {s : List AV} {r : AV} {h' : List Blk}, (match afterOp T x r s h' [] with
          | some (hd, s, c) => run V n T (.go hd k c) s h' K
          | none => false) = true → (match afterOp T x r s h' [] with
          | some (hd, s, c) => Dn T p K' n hd k s h' c
          | none => False) := fun hh => by
        split at hh
        · exact goD hh
        · cases hh
      revert hr
      generalize exec T 4000 hd k s h c = st
      intro hr
      cases st with
      | bad => cases hr
      | fin e s h c =>
        obtain ⟨h1, h2⟩ := andB_ok hr
        exact hK _ _ _ _ (okC_ok h1) h2
      | br c b k₁ k₂ s h =>
        obtain ⟨h1, h2⟩ := andB_ok hr
        refine chk_okC h1 ⟨fun hb => ?_, fun hb => ?_⟩
        · simp only [hb] at h2
          exact goD h2
        · simp only [hb] at h2
          exact goD h2
      | gd c g x k s h =>
        obtain ⟨h1, h2⟩ := andB_ok hr
        refine chk_okC h1 ⟨fun hb => ?_, fun hb => ?_⟩
        · simp only [hb] at h2
          exact goD h2
        · simp only [hb] at h2
          exact aft h2
      | call c tg xs x k s h =>
        obtain ⟨h1, h2⟩ := andB_ok hr
        refine chk_okC h1 ?_
        cases tg with
        | yld id => exact roundW_ok hm ih hT h2 fun r h' hh => aft hh
        | fn f =>
        show SC p f xs h _
        simp only at h2
        split at h2
        · rename_i hO
          refine (hV.O _ _ _ _ _ hO).mono fun r h' hp => ?_
          obtain ⟨rfl, rfl⟩ := hp
          exact aft h2
        · exact callW_ok hV hm ih h2 fun r h' hh => aft hh
      | alls c ops pr s0 m done qs k s h =>
        obtain ⟨h1, h2⟩ := andB_ok hr
        exact chk_okC h1 (allB_ok (fun q hq => goD hq) h2)
      | loop c x k s h =>
        obtain ⟨h1, h2⟩ := andB_ok hr
        refine chk_okC h1 (ih T hT (.loop _) _ _ _ h2 _ fun e s h he hk => ?_)
        unfold outK at hk
        cases e with
        | normal => exact absurd rfl he
        | exit id =>
          simp only at hk ⊢
          split at hk
          · rename_i k2 hk2
            rw [hk2]
            exact goD hk
          · rename_i hk2
            rw [hk2]
            exact hK _ _ _ _ allc_nil hk
        | ret => exact hK _ _ _ _ allc_nil hk
      | cut c x k s h => cases hr
      | cb c f ps a x k s h =>
        obtain ⟨h1, h2⟩ := andB_ok hr
        refine chk_okC h1 (CB.to (ghostS_to T.gh s h) (cbW_ok hV hm ih h2 fun e s h hk => ?_))
        unfold outN at hk
        cases e with
        | normal => exact goD hk
        | exit id =>
          simp only at hk ⊢
          split at hk
          · rename_i k2 hk2
            rw [hk2]
            exact goD hk
          · rename_i hk2
            rw [hk2]
            exact hK _ _ _ _ allc_nil hk
        | ret => exact hK _ _ _ _ allc_nil hk

theorem SC.ofRun (hV : V.Ok p) (hm : (p ()).follows .mixedOrders = true) {n : Nat} {f : FuncId} {xs : List AV} {h : List Blk} {q : AV → List Blk → Bool} {Post : AV → List Blk → Prop} (hr : callB V n f xs h q = true) (hq : ∀ r h, q r h = true → Post r h) : SC p f xs h Post :=
  callW_ok hV hm (run_ok hV hm n) hr hq
end
end Go.Proofs.Ytlcgliadpalgfaa.Vm
