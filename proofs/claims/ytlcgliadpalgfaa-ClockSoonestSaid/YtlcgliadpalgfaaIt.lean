/- The abstract machine: the rounds of a range over a function, in direct style. -/
import Derived.Test.YtlcgliadpalgfaaCon
set_option linter.unusedSimpArgs false
set_option linter.unusedVariables false
namespace Go.Proofs.Ytlcgliadpalgfaa.Vm
set_option linter.unusedVariables false
open Go Go.Proofs
section
variable {T : Tb} {p : Unit → Program} {P : Program}
theorem YC.ofG (hT : T.Of (p ())) (hm : (p ()).follows .mixedOrders = true) (hrd : T.rd = true) {id : Nat} {xs : List AV} {h : List Blk} {Post : AV → List Blk → Prop} {s : List AV} {d : LoopD} {n m : Nat} {D : List AV → List Blk → Prop} (hD : ∀ s h₂, D s h₂ → W T p (endK h.length id Post) m [.code d.x] s h₂ []) (hi : h[id]? = some (.loop s d)) (hlen : xs.length = d.ps.size)
    (hW : W T p (begK D id) n [.code d.a] (putPs d.ps.toList xs s) h []) : YC p id xs h Post := by
  have hKe : ∀ e s h' c, endK h.length id Post e s h' c → allc c := fun e s h' c hk => by cases e <;> exact (chk_ok hk).1
  have hKb : ∀ e s h' c, begK D id e s h' c → allc c := fun e s h' c hk => by
    cases e with
    | normal => exact (chk_ok hk).1
    | _ => exact hk.elim
  refine ⟨fun G R vs H ha => ?_⟩
  obtain ⟨ha1, ha2⟩ := ha
  obtain ⟨l, b1, b2, b3, b4, b5, b6, b7, _⟩ := H.loopSet hi
  have hid : id < R.m := H.len ▸ (List.getElem?_eq_some_iff.1 hi).1
  have hsz : vs.size = l.params.size := by rw [b2, ← hlen, ha1]
  refine ⟨_, _, _, _, run_yield b1 hsz, fun c cs => ?_⟩
  let b : FBr T.rd := ⟨⟨l.fn, .normal, some (R.α id).b⟩, fun hf => by rw [hrd] at hf; cases hf⟩
  have hsl : SL R (putPs d.ps.toList xs s) ((l.params.zip vs).foldl (fun tmps (t, a) => tmps.setIfInBounds t a) l.tmps) := by
    rw [← Array.foldl_toList, Array.toList_zip, b2]
    exact putPs_ok _ _ _ (by rw [ha1]; simp) (fun j c hj => by
      have := ha2 j c hj
      rw [Array.getD_eq_getD_getElem?] at this
      rw [List.getD_eq_getElem?_getD, Array.getElem?_toList]
      exact this) b7
  obtain ⟨e, s1, h1, R1, t1, ds1, ⟨c1, hk1⟩, i1, x1, l1, sl1, d1, eq1, A1⟩ := (W_ok (R₀ := R) (h₀ := h) hT hm hKb n _ _ h [] hW).2 R _ (Inv.refl H) hsl b [] [.beginRound, .code d.x] (c :: cs) ⟨[], rfl, List.nodup_nil, fun r hr => by cases hr⟩
  cases e with
  | exit _ => exact hk1.elim
  | ret => exact hk1.elim
  | normal =>
  have eq1 := eq1 (by simp [b])
  subst eq1
  obtain ⟨_, hk1⟩ := chk_ok hk1
  split at hk1
  case h_2 => exact hk1.elim
  rename_i s2 d2 hi1
  obtain ⟨l2, e1, e2, e3, e4, e5, e6, e7, e8⟩ := i1.hr.loopSet hi1
  have hα1 : R1.α id = R.α id := x1.α id hid
  split at hk1
  case h_2 => exact hk1.elim
  rename_i hst
  obtain ⟨R2, w2, α2, H2, x2, l2le⟩ := e8 .busy d2.pe
  have hbeg : (Instr.beginRound (R.α id).b).run (p ()) R1.w = .ok () R2.w := by
    rw [w2, ← hα1, ← e6]
    exact run_beginRound e1 (e5.trans hst)
  have i2 : Inv R h R2 (h1.set id (.loop s2 { d2 with st := .busy })) := i1.step H2 x2 l2le
  obtain ⟨e, s3, h3, R3, t3, ds3, ⟨c3, hk3⟩, i3, x3, l3, sl3, d3, eq3, A3⟩ := (W_ok (R₀ := R) (h₀ := h) hT hm hKe m _ _ _ [] (hD _ _ hk1)).2 R2 _ i2 (sl1.mono l2le) b [] [] (c :: cs) (d1.ext i1.hr x2)
  have st1 : Steps (p ()) (lone (Frame.round (R.α id).b l.fn ((l.params.zip vs).foldl (fun tmps (t, a) => tmps.setIfInBounds t a) l.tmps) l.assign l.body .normal) (c :: cs) R.w) (lone (mkF b.1 t1 [] [.code d.x]) (c :: cs) R2.w) := by
    have hfr : Frame.round (R.α id).b l.fn ((l.params.zip vs).foldl (fun tmps (t, a) => tmps.setIfInBounds t a) l.tmps) l.assign l.body .normal = mkF b.1 ((l.params.zip vs).foldl (fun tmps (t, a) => tmps.setIfInBounds t a) l.tmps) [] ([.code d.a] ++ [.beginRound, .code d.x]) := by
      rw [← b3, ← b4]; rfl
    rw [hfr]
    refine Steps.trans A1 (.one ?_)
    rw [mkF_atR, mkF_atR]
    exact stepR_beginRound (b := { (default : Frame) with fn := b.1.fn, kind := b.1.kind, roundOf := b.1.roundOf }) rfl hbeg
  have fin : ∀ (j : Option Code), endRd h.length id j Post h3 → (∀ v w', (Instr.endRound (R.α id).b j).run (p ()) R3.w = .ok v w' → Steps (p ()) (lone (mkF b.1 t1 [] [.code d.x]) (c :: cs) R2.w) (lone (c.finish v) cs w')) →
      ∃ v R' r h', Steps (p ()) (lone (Frame.round (R.α id).b l.fn ((l.params.zip vs).foldl (fun tmps (t, a) => tmps.setIfInBounds t a) l.tmps) l.assign l.body .normal) (c :: cs) R.w) (lone (c.finish v) cs R'.w) ∧ HR G R' h' ∧ Ext R h R' h' ∧ R.le R' ∧ VR R' r v ∧ Post r h' := fun j hj hst => by
    unfold endRd at hj
    split at hj
    case h_2 => exact hj.elim
    rename_i s4 d4 hi3
    obtain ⟨l4, f1, f2, f3, f4, f5, f6, f7, f8⟩ := i3.hr.loopSet hi3
    obtain ⟨R4, w4, α4, H4, x4, l4le⟩ := f8 (if j.isNone then .ready else .done) j
    have hα3 : R3.α id = R.α id := i3.ext.α id hid
    have hend : (Instr.endRound (R.α id).b j).run (p ()) R3.w = .ok (.bool j.isNone) R4.w := by
      rw [w4, ← hα3]
      exact run_endRound j f1
    have i4 := i3.step H4 x4 l4le
    obtain ⟨R5, w5, H5, x5, l5, _⟩ := i4.leave H (keeps_range h.length (Nat.le_refl _) (by rw [H.len, i4.hr.len]; exact i4.le.m))
    exact ⟨_, R5, .bool fun _ => j.isNone, _, by rw [w5]; exact Steps.trans st1 (hst _ _ hend), H5, x5, l5, .pure _ _ (.bool _), hj⟩
  cases e with
  | normal =>
    refine fin none (chk_ok hk3).2 fun v w' hr => Steps.trans A3 (.one ?_)
    rw [mkF_atR]
    exact stepR_round_end rfl rfl hr
  | exit i =>
    obtain ⟨pre, q1, q2⟩ := A3
    refine fin (some (.exit i)) (chk_ok hk3).2 fun v w' hr => Steps.trans q2 (.one ?_)
    rw [mkF_atR]
    exact stepR_round_exit rfl rfl (by rw [q1]; rfl) hr
  | ret =>
    obtain ⟨todo, q2⟩ := A3
    refine fin (some .ret) (chk_ok hk3).2 fun v w' hr => Steps.trans q2 (.one ?_)
    rw [mkF_atR]
    exact stepR_round_ret rfl rfl hr


end

/-- The table for rounds. -/
def tbR (kp rs : Bool) (cs : List Nat) : Tb := { tb with kp, rs, cuts := cs, rd := true }
theorem hTR (kp rs : Bool) (cs : List Nat) : (tbR kp rs cs).Of ((fun _ => Try.prog : Unit → Program) ()) := ⟨tbTi_ok, tbUn_ok, tbEq_ok⟩

/-- A round: the assignments, then the body. -/
theorem yieldR (kp rs : Bool) (cs : List Nat) {id : Nat} {xs : List AV} {h : List Blk} {Post : AV → List Blk → Prop} {s : List AV} {d : LoopD} (hi : h[id]? = some (.loop s d)) (hlen : xs.length = d.ps.size)
    (hW : Dn (tbR kp rs cs) (fun _ => Try.prog) (begK (fun s h₂ => Dn (tbR kp rs cs) (fun _ => Try.prog) (endK h.length id Post) 100 .none [.code d.x] s h₂ []) id) 20 .none [.code d.a] (putPs d.ps.toList xs s) h []) : YC (fun _ => Try.prog) id xs h Post :=
  YC.ofG (T := tbR kp rs cs) (m := 100 * 4000) (n := 20 * 4000) (D := fun s h₂ => Dn (tbR kp rs cs) (fun _ => Try.prog) (endK h.length id Post) 100 .none [.code d.x] s h₂ []) (hTR kp rs cs) hm rfl (fun s h₂ hd => Dn_ok 100 .none _ _ _ _ hd) hi hlen (Dn_ok 20 .none _ _ _ _ hW)

/-- A range over a function that is handed to it. -/
theorem rangeS {f : Operand} {ps : Array Tmp} {a x : Code} {Q : Ex → List AV → List Blk → Prop} {s : List AV} {h : List Blk} {fid : FuncId} {first cap : List AV} (hf : strip (ev s f) = .fn fid first cap) (hc : allc (stripC (ev s f)))
    (H : SC (fun _ => Try.prog) fid (first ++ [.yld h.length] ++ cap) (h ++ [.loop s ⟨ps, a, x, .ready, none⟩]) fun _ h' => loopEnd Q s h.length h') : CB (fun _ => Try.prog) (.rangeFunc f ps a x) Q s h := CB.of hf hc H

/-- What a round leaves behind, told with less. -/
theorem YC.less {p : Unit → Program} {id : Nat} {xs : List AV} {h : List Blk} {Post : AV → List Blk → Prop} (H : YC p id xs h fun r h' => ∃ r₂ h₂, To [r] h' [r₂] h₂ ∧ Post r₂ h₂) : YC p id xs h Post :=
  ⟨fun G R vs hr ha => let ⟨f, tmps, a, x, h1, h2⟩ := H.run G R vs hr ha; ⟨f, tmps, a, x, h1, fun c cs => by
    obtain ⟨v, R', r, h', b1, b3, b4, b5, b6, r₂, h₂, hto, b7⟩ := h2 c cs
    obtain ⟨R'', c1, c2, c3, c4, c5⟩ := hto G R' #[v] b3 ⟨rfl, fun i a hi => by
      cases i with
      | zero => simp at hi; subst hi; exact b6
      | succ i => simp at hi⟩
    exact ⟨v, R'', r₂, h₂, by rw [c1]; exact b1, c2, b4.trans c3, b5.trans c4, c5.2 0 r₂ rfl, b7⟩⟩⟩

/-- The same, told with less: L: the slots that live; ex: room for slices that are nil; hc: the blocks that are told otherwise. -/
theorem rangeT {f : Operand} {ps : Array Tmp} {a x : Code} {Q : Ex → List AV → List Blk → Prop} {s : List AV} {h : List Blk} (L : List Nat) (ex : List Blk) (hc : List (Nat × Blk)) {fid : FuncId} {first cap : List AV}
    (hto : To s h (Vm.keep L s) (setH (h ++ ex) hc)) (hf : strip (ev (Vm.keep L s) f) = .fn fid first cap) (hcs : allc (stripC (ev (Vm.keep L s) f)))
    (H : SC (fun _ => Try.prog) fid (first ++ [.yld (setH (h ++ ex) hc).length] ++ cap) (setH (h ++ ex) hc ++ [.loop (Vm.keep L s) ⟨ps, a, x, .ready, none⟩]) fun _ h' => loopEnd Q (Vm.keep L s) (setH (h ++ ex) hc).length h') : CB (fun _ => Try.prog) (.rangeFunc f ps a x) Q s h := CB.to hto (CB.of hf hcs H)

/-- A loop inside a round. -/
theorem loopR (kp rs : Bool) (cs : List Nat) {x : Code} {Q : Ex → List AV → List Blk → Prop} {s : List AV} {h : List Blk} {ι : Type} (L : List Nat) (ex : List Blk) (ch : ι → List (Nat × AV)) (hc : ι → List (Nat × Blk)) (inv : ι → Prop) (μ : ι → Nat) (i : ι)
    (hi : inv i) (hto : To (Vm.keep L s) h (setS (Vm.keep L s) (ch i)) (setH (h ++ ex) (hc i)))
    (step : ∀ i, inv i → Dn (tbR kp rs cs) (fun _ => Try.prog) (indK L (fun i => setS (Vm.keep L s) (ch i)) (fun i => setH (h ++ ex) (hc i)) inv μ i (h ++ ex).length Q) 100 .none [.code x] (setS (Vm.keep L s) (ch i)) (setH (h ++ ex) (hc i)) []) : LP true (fun _ => Try.prog) x Q s h :=
  LP.indD (T := tbR kp rs cs) (hTR kp rs cs) hm L (fun i => setS (Vm.keep L s) (ch i)) (fun i => setH (h ++ ex) (hc i)) inv μ i (h ++ ex).length (fun _ => setH_length _ _) hi hto step
end Go.Proofs.Ytlcgliadpalgfaa.Vm
