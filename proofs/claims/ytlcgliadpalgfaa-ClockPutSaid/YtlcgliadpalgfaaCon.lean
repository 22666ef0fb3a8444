/- The abstract machine at this program: contracts and loops. -/
import Derived.Test.YtlcgliadpalgfaaTbl
import Derived.Test.YtlcgliadpalgfaaM5
set_option linter.unusedSimpArgs false
set_option linter.unusedVariables false
namespace Go.Proofs.Ytlcgliadpalgfaa.Vm
open Go Go.Proofs
set_option maxRecDepth 100000

theorem nc (i : Nat) : (NatCast.natCast i : Int) = (i : Int) := rfl
theorem allc0 : allc [] ↔ True := ⟨fun _ => trivial, fun _ => allc_nil⟩
theorem allcC {x : Cn} {c : Cd} : allc (x :: c) ↔ x.p ∧ allc c := ⟨fun h => ⟨h x (List.mem_cons_self ..), fun q hq => h q (List.mem_cons_of_mem _ hq)⟩, fun h q hq => by
  rcases List.mem_cons.1 hq with rfl | hq
  · exact h.1
  · exact h.2 q hq⟩
theorem allc1 {P : Unit → Prop} {b : Unit → Bool} {ok : b () = true → P ()} {c : Cd} : allc (.d P b ok :: c) ↔ P () ∧ allc c := allcC
theorem allcE {v w : Unit → AV} {c : Cd} : allc (.e v w :: c) ↔ (v () = w () ∨ Imp (v ()) (w ())) ∧ allc c := allcC
theorem allcI {g : Unit → Bool} {x : Cn} {c : Cd} : allc (.i g x :: c) ↔ (g () = true → x.p) ∧ allc c := allcC

theorem all_cons {x : Cn} {c : Cd} (h1 : x.p) (h2 : allc c) : allc (x :: c) := allcC.2 ⟨h1, h2⟩
theorem pd {P : Unit → Prop} {b : Unit → Bool} {ok : b () = true → P ()} (h : P ()) : (Cn.d P b ok).p := h
theorem pe {v w : Unit → AV} (h : v () = w () ∨ Imp (v ()) (w ())) : (Cn.e v w).p := h
theorem pi {g : Unit → Bool} {x : Cn} (h : g () = true → x.p) : (Cn.i g x).p := h

theorem tdivE (n k : Int) : (0 ≤ n → n.tdiv k = n / k) ∧ (n < 0 → n.tdiv k = -((-n) / k)) := by
  refine ⟨fun h => Int.tdiv_eq_ediv_of_nonneg h, fun h => ?_⟩
  have := Int.neg_tdiv (-n) k
  rw [Int.neg_neg] at this
  rw [this, Int.tdiv_eq_ediv_of_nonneg (by omega)]
theorem tmodE (n k : Int) : (0 ≤ n → n.tmod k = n % k) ∧ (n < 0 → n.tmod k = -((-n) % k)) := by
  refine ⟨fun h => Int.tmod_eq_emod_of_nonneg h, fun h => ?_⟩
  have := Int.neg_tmod (-n) k
  rw [Int.neg_neg] at this
  rw [this, Int.tmod_eq_emod_of_nonneg (by omega)]

/-- A call that is handed values alone. -/
theorem call0 {f : FuncId} {xs ys : List AV} {h : List Blk} {Post Q : AV → List Blk → Prop} (H : SC (fun _ => Try.prog) f ys [] Q) (hx : xs.map (tell false [] h 5) = ys) (hq : ∀ r h₂, Q r h₂ → Post (ren (phi [] h.length) 5 r) (back [] h h₂)) : SC (fun _ => Try.prog) f xs h Post :=
  SC.frame [] List.nodup_nil (fun i hi => by cases hi) (by rw [hx]; exact H) hq
/-- A call that is handed some blocks. -/
theorem callL (l : List Nat) {f : FuncId} {xs ys : List AV} {h hc : List Blk} {Post Q : AV → List Blk → Prop} (H : SC (fun _ => Try.prog) f ys hc Q) (hnd : l.Nodup) (hlt : ∀ i ∈ l, i < h.length) (hx : xs.map (tell false l h 5) = ys) (hh : sel false l h = hc) (hq : ∀ r h₂, Q r h₂ → Post (ren (phi l h.length) 5 r) (back l h h₂)) : SC (fun _ => Try.prog) f xs h Post :=
  SC.frame l hnd hlt (by rw [hx, hh]; exact H) hq

theorem Br.isT {b : Unit → Bool} {A B : Unit → Prop} (h : b () = true) (ha : A ()) : Br b A B := ⟨fun _ => ha, fun h' => (by rw [h] at h'; cases h')⟩
theorem Br.isF {b : Unit → Bool} {A B : Unit → Prop} (h : b () = false) (hb : B ()) : Br b A B := ⟨fun h' => (by rw [h] at h'; cases h'), fun _ => hb⟩

/-- What comes behind a loop is put aside. -/
theorem loopQ {rd : Bool} {x : Code} {Q' : Ex → List AV → List Blk → Prop} {s : List AV} {h : List Blk} (H : ∀ Q : Ex → List AV → List Blk → Prop, (∀ e s h, Q' e s h → Q e s h) → LP rd (fun _ => Try.prog) x Q s h) : LP rd (fun _ => Try.prog) x Q' s h := H Q' fun _ _ _ h => h

/-- Slots that are told. -/
def mkS (n : Nat) (l : List (Nat × AV)) : List AV := l.foldl (fun s p => s.set p.1 p.2) (List.replicate n .undef)

theorem con {f : FuncId} {fn : Func} {body : Code} (hf : Try.prog.funcs[f]? = some fn) (hb : fn.body = some body) (hn : (fn.name == "runtime.NumGoroutine") = false) {xs : List AV} {h : List Blk} {Post : AV → List Blk → Prop}
    (hW : Dn tb (fun _ => Try.prog) (retK tb fn.results.toList h.length Post) 100 .none [.code body] (entry fn.ntmps xs) h []) : SC (fun _ => Try.prog) f xs h Post := SC.ofD (T := tb) hT hm hf hb hn hW
theorem conF (kp rs : Bool) {f : FuncId} {fn : Func} {body : Code} (hf : Try.prog.funcs[f]? = some fn) (hb : fn.body = some body) (hn : (fn.name == "runtime.NumGoroutine") = false) {xs : List AV} {h : List Blk} {Post : AV → List Blk → Prop}
    (hW : Dn (tbF kp rs) (fun _ => Try.prog) (retK (tbF kp rs) fn.results.toList h.length Post) 100 .none [.code body] (entry fn.ntmps xs) h []) : SC (fun _ => Try.prog) f xs h Post := SC.ofD (T := tbF kp rs) (hTF kp rs) hm hf hb hn hW

theorem loopA {x : Code} {Q : Ex → List AV → List Blk → Prop} {s : List AV} {h : List Blk} {ι : Type} (L : List Nat) (st : ι → List AV) (hp : ι → List Blk) (inv : ι → Prop) (μ : ι → Nat) (i : ι) (n : Nat)
    (hn : ∀ i, (hp i).length = n) (hi : inv i) (hto : To (Vm.keep L s) h (st i) (hp i)) (step : ∀ i, inv i → Dn tb (fun _ => Try.prog) (indK L st hp inv μ i n Q) 100 .none [.code x] (st i) (hp i) []) : LP false (fun _ => Try.prog) x Q s h :=
  LP.indD (T := tb) hT hm L st hp inv μ i n hn hi hto step
theorem loopF (kp rs : Bool) {x : Code} {Q : Ex → List AV → List Blk → Prop} {s : List AV} {h : List Blk} {ι : Type} (L : List Nat) (st : ι → List AV) (hp : ι → List Blk) (inv : ι → Prop) (μ : ι → Nat) (i : ι) (n : Nat)
    (hn : ∀ i, (hp i).length = n) (hi : inv i) (hto : To (Vm.keep L s) h (st i) (hp i)) (step : ∀ i, inv i → Dn (tbF kp rs) (fun _ => Try.prog) (indK L st hp inv μ i n Q) 100 .none [.code x] (st i) (hp i) []) : LP false (fun _ => Try.prog) x Q s h :=
  LP.indD (T := tbF kp rs) (hTF kp rs) hm L st hp inv μ i n hn hi hto step

/-- The table, with flags, and with regions ahead of which ways meet. -/
def tbX (kp rs : Bool) (cs : List Nat) : Tb := { tb with kp, rs, cuts := cs }
theorem hTX (kp rs : Bool) (cs : List Nat) : (tbX kp rs cs).Of ((fun _ => Try.prog : Unit → Program) ()) := ⟨tbTi_ok, tbUn_ok, tbEq_ok⟩

def setS (s : List AV) (l : List (Nat × AV)) : List AV := l.foldl (fun s p => s.set p.1 p.2) s
def setH (h : List Blk) (l : List (Nat × Blk)) : List Blk := l.foldl (fun s p => s.set p.1 p.2) h
theorem setH_length (l : List (Nat × Blk)) : ∀ (h : List Blk), (setH h l).length = h.length := by
  induction l with
  | nil => intro h; rfl
  | cons p l ih => intro h; show (setH (h.set p.1 p.2) l).length = _; rw [ih]; simp

theorem conX (kp rs : Bool) (cs : List Nat) {f : FuncId} {fn : Func} {body : Code} (hf : Try.prog.funcs[f]? = some fn) (hb : fn.body = some body) (hn : (fn.name == "runtime.NumGoroutine") = false) {xs : List AV} {h : List Blk} {Post : AV → List Blk → Prop}
    (hW : Dn (tbX kp rs cs) (fun _ => Try.prog) (retK (tbX kp rs cs) fn.results.toList h.length Post) 100 .none [.code body] (entry fn.ntmps xs) h []) : SC (fun _ => Try.prog) f xs h Post := SC.ofD (T := tbX kp rs cs) (hTX kp rs cs) hm hf hb hn hW

/-- A loop: L: the slots that live; ch: those that change, and what they hold; ex: room for slices that are nil; hc: the blocks that change. -/
theorem loopS (kp rs : Bool) (cs : List Nat) {x : Code} {Q : Ex → List AV → List Blk → Prop} {s : List AV} {h : List Blk} {ι : Type} (L : List Nat) (ex : List Blk) (ch : ι → List (Nat × AV)) (hc : ι → List (Nat × Blk)) (inv : ι → Prop) (μ : ι → Nat) (i : ι)
    (hi : inv i) (hto : To (Vm.keep L s) h (setS (Vm.keep L s) (ch i)) (setH (h ++ ex) (hc i)))
    (step : ∀ i, inv i → Dn (tbX kp rs cs) (fun _ => Try.prog) (indK L (fun i => setS (Vm.keep L s) (ch i)) (fun i => setH (h ++ ex) (hc i)) inv μ i (h ++ ex).length Q) 100 .none [.code x] (setS (Vm.keep L s) (ch i)) (setH (h ++ ex) (hc i)) []) : LP false (fun _ => Try.prog) x Q s h :=
  LP.indD (T := tbX kp rs cs) (hTX kp rs cs) hm L (fun i => setS (Vm.keep L s) (ch i)) (fun i => setH (h ++ ex) (hc i)) inv μ i (h ++ ex).length (fun _ => setH_length _ _) hi hto step

/-- Ways that meet: L: the slots that live behind; ch, hc: what has changed there. -/
theorem cutS (kp rs : Bool) (cs : List Nat) {x : Code} {Q : Ex → List AV → List Blk → Prop} {s : List AV} {h : List Blk} {ι : Type} (L : List Nat) (ch : ι → List (Nat × AV)) (hc : ι → List (Nat × Blk)) (inv : ι → Prop)
    (step : Dn (tbX kp rs cs) (fun _ => Try.prog) (cutK L (fun i => setS (Vm.keep L s) (ch i)) (fun i => setH h (hc i)) inv h.length Q) 100 .none [.code x] s h [])
    (rest : ∀ i, inv i → Q .normal (setS (Vm.keep L s) (ch i)) (setH h (hc i))) : XP false (fun _ => Try.prog) x Q s h :=
  XP.byD (T := tbX kp rs cs) (hTX kp rs cs) hm L (fun i => setS (Vm.keep L s) (ch i)) (fun i => setH h (hc i)) inv step rest

/-- The same, and what comes behind with a purse of its own. -/
theorem cutD (kp rs : Bool) (cs : List Nat) (m0 : Nat) {m : Nat} {T : Tb} {K : Ex → List AV → List Blk → Cd → Prop} {x : Code} {k : List Item} {Q : Ex → List AV → List Blk → Prop} {s : List AV} {h : List Blk} {ι : Type} (L : List Nat) (ch : ι → List (Nat × AV)) (hc : ι → List (Nat × Blk)) (inv : ι → Prop)
    (hQ : ∀ s h, Dn T (fun _ => Try.prog) K m .none k s h [] → Q .normal s h) (hle : m0 ≤ m)
    (step : Dn (tbX kp rs cs) (fun _ => Try.prog) (cutK L (fun i => setS (Vm.keep L s) (ch i)) (fun i => setH h (hc i)) inv h.length Q) 100 .none [.code x] s h [])
    (rest : ∀ i, inv i → Dn T (fun _ => Try.prog) K m0 .none k (setS (Vm.keep L s) (ch i)) (setH h (hc i)) []) : XP false (fun _ => Try.prog) x Q s h :=
  cutS kp rs cs L ch hc inv step fun i hi => hQ _ _ (Dn_le hle (rest i hi))
theorem Br.join {b : Unit → Bool} {A B : Unit → Prop} {M : Prop} (hA : b () = true → M → A ()) (hB : b () = false → M → B ()) (hM : M) : Br b A B := ⟨fun h => hA h hM, fun h => hB h hM⟩
theorem Br.join1 {b : Unit → Bool} {A B : Unit → Prop} {α : Type} {G P : α → Prop} (hA : b () = true → (∀ a, P a → G a) → A ()) (hB : b () = false → (∀ a, P a → G a) → B ()) (hM : ∀ a, P a → G a) : Br b A B := ⟨fun h => hA h hM, fun h => hB h hM⟩
theorem Br.join2 {b : Unit → Bool} {A B : Unit → Prop} {α β : Type} {G P : α → β → Prop} (hA : b () = true → (∀ a c, P a c → G a c) → A ()) (hB : b () = false → (∀ a c, P a c → G a c) → B ()) (hM : ∀ a c, P a c → G a c) : Br b A B := ⟨fun h => hA h hM, fun h => hB h hM⟩

theorem nb1 {x : Bool} (h : x = false) : (!x) = true := by rw [h]; rfl
theorem nb2 {x : Bool} (h : (!x) = true) : x = false := by cases x; rfl; cases h
theorem nb3 {x : Bool} (h : x = true) : (!x) = false := by rw [h]; rfl
theorem nb4 {x : Bool} (h : (!x) = false) : x = true := by cases x; cases h; rfl

/-- A call that is handed values alone, told with less. -/
theorem call0T {f : FuncId} {xs ys : List AV} {h : List Blk} {Post Q : AV → List Blk → Prop} (H : SC (fun _ => Try.prog) f ys [] Q) (hto : To xs h ys h) (hx : ys.map (tell false [] h 5) = ys) (hq : ∀ r h₂, Q r h₂ → Post (ren (phi [] h.length) 5 r) (back [] h h₂)) : SC (fun _ => Try.prog) f xs h Post :=
  SC.to hto (call0 H hx hq)
/-- A call that is handed some blocks, told with less. -/
theorem callLT (l : List Nat) {f : FuncId} {xs zs ys : List AV} {h h' hc : List Blk} {Post Q : AV → List Blk → Prop} (H : SC (fun _ => Try.prog) f ys hc Q) (hto : To xs h zs h') (hnd : l.Nodup) (hlt : ∀ i ∈ l, i < h'.length) (hx : zs.map (tell false l h' 5) = ys) (hh : sel false l h' = hc) (hq : ∀ r h₂, Q r h₂ → Post (ren (phi l h'.length) 5 r) (back l h' h₂)) : SC (fun _ => Try.prog) f xs h Post :=
  SC.to hto (callL l H hnd hlt hx hh hq)
end Go.Proofs.Ytlcgliadpalgfaa.Vm
