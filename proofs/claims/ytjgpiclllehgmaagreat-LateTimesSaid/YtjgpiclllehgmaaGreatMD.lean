/- Lemmas. -/
import Derived.Test.YtjgpiclllehgmaaGreatM4
set_option linter.all false
open Bool renaming false_eq_true->aX
open Nat renaming le_add_right->ip
open Option.some renaming injEq->aC
open Prod.mk renaming injEq->aK
namespace Go.Proofs.YtjgpiclllehgmaaGreat
namespace Vm
open Go
section
variable {T:Tb} {p:Unit->Program} {K:Ex->List AV->List Zh->Cd->Prop}
def ZgQ (T:Tb) (p:Unit->Program) (K:Ex->List AV->List Zh->Cd->Prop) (n:Nat) (x:Cx) (k:List Item) (s:List AV) (v:AV) (h:List Zh) (c:Cd):Prop:=match x with
 |.u ops o r=>Zjc T p ops r (putO s o.dst v) h c fun s h c=>W T p K n k (Zd7 T h s) h c
 |.d ops A G m done q=>WDk T p ops A G (fun s h c=>W T p K n k (Zd7 T h s) h c) m done s q v h c
def Zl7 (T:Tb) (p:Unit->Program) (K:Ex->List AV->List Zh->Cd->Prop) (n:Nat) (G:Hd) (k:List Item) (s:List AV) (h:List Zh) (c:Cd):Prop:=match G with
 |.none=>W T p K n k s h c
 |.ops ops l=>Zjc T p ops l s h c fun s h c=>W T p K n k (Zd7 T h s) h c
 |.drawn ops A H m done=>WD T p ops A H (fun s h c=>W T p K n k (Zd7 T h s) h c) m done s h c
 |.gev x=>Wop T p x.ops x.o (ev s) h c (ZgQ T p K n x k s)
 |.event x=>Zje T p x.o (ev s) h c (ZgQ T p K n x k s)
theorem Zn3 {o:Oper} {E:Operand->AV} {h:List Zh} {c:Cd} {K A:AV->List Zh->Cd->Prop} (G:∀v h c,K v h c->A v h c) (hW:Zje T p o E h c K):Zje T p o E h c A:=by
 unfold Zje at*;split at hW
 ·exact hW
 ·exact G _ _ _ hW
 exact Qb (fun h=>h.mono fun r H hr=>G _ _ _ hr) hW
theorem Zkk {n m:Nat} (A:n<=m) {x:Cx} {k:List Item} {s:List AV} (v:AV) (h:List Zh) (c:Cd) (H:ZgQ T p K n x k s v h c):ZgQ T p K m x k s v h c:=by
 cases x with
 |u ops o r=>exact ZcL (fun s h c G=>ZkF A G) H
 |d ops S J I done q=>exact Zg5 (ZfF (fun s h c G=>ZkF A G) I) v h c H
theorem ZcM {n m:Nat} (A:n<=m) {H:Hd} {k:List Item} {s:List AV} {h:List Zh} {c:Cd} (G:Zl7 T p K n H k s h c):Zl7 T p K m H k s h c:=by
 cases H with
 |none=>exact ZkF A G
 |ops ops l=>exact ZcL (fun s h c I=>ZkF A I) G
 |drawn ops S J U done=>exact ZfF (fun s h c I=>ZkF A I) _ _ _ _ _ G
 |gev x=>exact ZdU (Zkk A) G
 |event x=>exact Zn3 (Zkk A) G
theorem Zdj {n:Nat} {x:Cx} {k:List Item} {v:AV} {s s':List AV} {h:List Zh} {c c':Cd} {H:Hd} (A:Jn T x v s h c=some (H,s',c')) (G:Zl7 T p K n H k s' h c'):ZgQ T p K n x k s v h c:=by
 cases x with
 |u ops o r=>
  simp only[Jn,aC,aK]at A;obtain⟨rfl,rfl,rfl⟩:=A;exact G
 |d ops S J m done q=>
  simp only[Jn]at A;split at A
  ·rename_i I hr;simp only[aC,aK]at A;obtain⟨rfl,rfl,rfl⟩:=A;simp only[ZgQ,WDk,hr];exact G
  cases A
theorem ZmK {D : Hd -> List Item -> List AV -> List Zh -> Cd -> Prop} {N : Nat} (hD : ∀ G k s h c, D G k s h c -> Zl7 T p K N G k s h c) : ∀ (f : Nat) (G : Hd) (k : List Item) (s : List AV) (h : List Zh) (c : Cd), den T p K D (exec T f G k s h c) -> Zl7 T p K (N + f) G k s h c
  | 0, _, _, _, _, _, G => by simp only [exec, den] at G
  | f + 1, G, k, s, h, c, hden => by
    have Z := ZmK hD f;have H := fun k s h c G => Z .none k s h c G;have V : ∀ k s h c, D .none k s h c -> W T p K (N + f) k s h c := fun k s h c Y => ZkF (ip _ _) (hD _ _ _ _ _ Y);have ab : ∀ G k s h c, D G k s h c -> Zl7 T p K (N + (f + 1)) G k s h c := fun G k s h c Y => ZcM (ip _ _) (hD _ _ _ _ _ Y)
    have S : ∀ (id : Nat) (k : List Item) (s : List AV) (h : List Zh), (match exitTo id k with
        | some k => D .none k s h []
        | none => K (.exit id) s h []) -> (match exitTo id k with
        | some k => W T p K (N + f) k s h []
        | none => K (.exit id) s h []) := fun id k s h Y => by
      split at Y
      · exact V _ _ _ _ Y
      · exact Y
    have U : N + f <= N + (f + 1) := Nat.le_succ _;cases G with
    | none =>
      show W T p K (N + f + 1) k s h c;unfold exec at hden;simp only at hden;unfold W;split at hden
      · exact hden
      · exact H _ _ _ _ hden
      · exact H _ _ _ _ hden
      · split at hden
        · exact H _ _ _ _ hden
        · exact H _ _ _ _ hden
        · exact H _ _ _ _ hden
        · split at hden
          · rename_i J
            simp only [J, if_true];refine Qb (fun h => h.mono fun e s h I => ?_) hden;cases e with
            | normal => exact V _ _ _ _ I
            | exit id => exact S _ _ _ _ I
            | ret => exact I
          rename_i J;simp only [J, aX, if_false];split at hden
          · rename_i b hb
            simp only [hb];exact Qb (fun h => ⟨fun e => V _ _ _ _ (h.t e), fun e => V _ _ _ _ (h.f e)⟩) hden
          · exact False.elim hden
        · split at hden
          · rename_i J
            simp only [J, if_true];refine Qb (fun h => h.mono fun e s h I => ?_) hden;cases e with
            | normal => exact V _ _ _ _ I
            | exit id => exact S _ _ _ _ I
            | ret => exact I
          rename_i J;simp only [J, aX, if_false];exact H _ _ _ _ hden
        · exact H _ _ _ _ hden
        · split at hden
          · rename_i J
            simp only [J, if_true];exact hden
          rename_i J;simp only [J, aX, if_false];refine Qb (fun h => h.mono fun e s h I => ?_) hden;cases e with
          | normal => exact I
          | exit id => exact S _ _ _ _ I
          | ret => exact I
        · rename_i id
          split at hden
          · rename_i k2 aa
            simp only [aa];exact H _ _ _ _ hden
          · rename_i aa
            simp only [aa];exact hden
        · split at hden
          · rename_i k2 aa
            simp only [aa];split at hden
            · rename_i A
              simp only [A, if_true];exact hden
            · exact False.elim hden
          · exact False.elim hden
        · exact hden
        · rename_i id ops d
          split at hden
          · rename_i J
            simp only [J, if_true];exact hden
          rename_i J;simp only [J, aX, if_false];cases d with
          | true =>
            simp only [if_true] at hden;exact Z _ _ _ _ _ hden
          | false =>
            simp only [aX, if_false] at hden;exact Z _ _ _ _ _ hden
        · split at hden
          · exact False.elim hden
          rename_i ai;simp only [if_neg ai];refine Qb (fun h => h.mono fun e s h I => ?_) hden;cases e with
          | normal => exact V _ _ _ _ I
          | exit id => exact S _ _ _ _ I
          | ret => exact I
        · exact False.elim hden
      · split at hden
        · rename_i A
          simp only [A, if_true];exact hden
        · exact False.elim hden
      · exact False.elim hden
    | ops ops l =>
      unfold exec at hden;cases l with
      | nil => exact ZkF U (H _ _ _ _ hden)
      | cons o r =>
        simp only at hden;split at hden
        · rename_i A
          split at hden
          · rename_i v c' hv
            have := ZcM U (Z _ _ _ _ _ hden);show Wop T p ops o (ev s) h c fun v h c => Zjc T p ops r (putO s o.dst v) h c fun s h c => W T p K (N + (f + 1)) k (Zd7 T h s) h c;unfold Wop;unfold Xk at A;split at A
            · cases A
            · cases A
            · cases A
            · cases A
            · first
              | (simp only [hv]; exact this)
              | (split
                 · contradiction
                 · contradiction
                 · contradiction
                 · contradiction
                 · simp only [hv]
                   exact this)
          · exact False.elim hden
        · have := ZcM U (Z (.gev (.u ops o r)) k s h c hden)
          exact this
    | drawn ops pr s0 m done =>
      unfold exec at hden;cases m with
      | zero => exact False.elim hden
      | succ m =>
        simp only at hden;show WD T p ops pr s0 (fun s h c => W T p K (N + (f + 1)) k (Zd7 T h s) h c) (m + 1) done s h c;simp only [WD];split at hden
        · exact False.elim hden
        rename_i s1 ac c1 hf;split at hden;case isFalse => exact False.elim hden
        rename_i ah;simp only [hf];rw [if_pos ah];generalize Yd pr ac = l at hden |-;match l, hden with
        | [], hden =>
          simp only at hden |-;split at hden
          · rename_i ha
            rw [if_pos ha];exact ZkF U (H _ _ _ _ hden)
          · exact False.elim hden
        | [q], hden =>
          have := ZcM U (Z (.gev (.d ops pr s0 m ac q)) k s1 h c1 hden);exact this
        | q :: q' :: r, hden => exact Qb (fun h => ZcO (fun q Y => ab _ _ _ _ _ Y) h) hden
    | gev x =>
      unfold exec at hden;simp only at hden;split at hden
      · exact False.elim hden
      rename_i A;have A : Xk x.o.op = false := by simpa using A
      split at hden
      · exact False.elim hden
      · rename_i hg
        exact Zq5 A hg (ZcM U (Z _ _ _ _ _ hden))
      · rename_i g hg
        refine Zq5 A hg (Qb (fun h => ⟨fun e => ?_, fun e => ?_⟩) hden)
        · exact ab _ _ _ _ _ (h.t e)
        · have : (match Jn T x .undef s _ [] with
            | some (G, s, c) => D G k s _ c
            | none => False) := h.f e
          split at this
          · rename_i ae s' c' he
            exact Zdj he (ab _ _ _ _ _ this)
          · exact this.elim
    | event x =>
      unfold exec at hden;simp only at hden;show Zje T p x.o (ev s) h c (ZgQ T p K (N + (f + 1)) x k s);unfold Zje;split at hden
      · exact False.elim hden
      · rename_i v h' c' he
        try simp only [he]
        split at hden
        · rename_i ae s' c2 ha
          exact Zdj ha (ZcM U (Z _ _ _ _ _ hden))
        · exact False.elim hden
      · rename_i aj xs c' he
        try simp only [he]
        refine Qb (fun h => h.mono fun r h' hr => ?_) hden;split at hr
        · rename_i ae s' c2 ha
          exact Zdj ha (ab _ _ _ _ _ hr)
        · exact hr.elim
theorem Zg7:∀(m:Nat) (A:Hd) (k:List Item) (s:List AV) (h:List Zh) (c:Cd),Dn T p K m A k s h c->Zl7 T p K (m*4000) A k s h c
 |0,_,_,_,_,_,h=>by simp only[Dn]at h
 |m+1,A,k,s,h,c,hh=>by
  have:=ZmK (D:=Dn T p K m) (N:=m*4000) (Zg7 m) 4000 A k s h c hh;rw[Nat.succ_mul];exact this
theorem SC.ofD (hT:T.Of (p ())) (hm:(p ()).follows .mixedOrders=true) {f:FuncId} {fn:Func} {body:Code} (S:(p ()).funcs[f]? =some fn) (I:fn.body=some body) (H:(fn.name== "runtime.NumGoroutine")=false) {xs:List AV} {h:List Zh} {A:AV->List Zh->Prop}
  (J:zOk h=true) (G:T.fl=true->h.length<=T.nb) (hW:Dn T p (Zfj T fn.results.toList h.length A) 100 .none [.code body] (entry fn.ntmps xs) h []):SC p f xs h A:=SC.of hT hm S I H J (Zg7 _ _ _ _ _ _ hW) G
theorem LP.indD (hT:T.Of (p ())) (hm:(p ()).follows .mixedOrders=true) (G:T.fl=false) {x:Code} {Q:Ex->List AV->List Zh->Prop} {s:List AV} {h:List Zh} {ι:Type} (L:List Nat) (st:ι->List AV) (A:ι->List Zh) (inv:ι->Prop) (H:ι->Nat) (i:ι) (n:Nat)
  (J:∀i,(A i).length=n) (hi:inv i) (I:To (Vm.keep L s) h (st i) (A i)) (step:∀i,inv i->Dn T p (Zfq L st A inv H i n Q) 100 .none [.code x] (st i) (A i) []):LP T.rd p x Q s h:=
 LP.ind hT hm G L st A inv H i n J hi I fun i hi=>Zg7 _ _ _ _ _ _ (step i hi)
theorem XP.byD (hT:T.Of (p ())) (hm:(p ()).follows .mixedOrders=true) (G:T.fl=false) {x:Code} {Q:Ex->List AV->List Zh->Prop} {s:List AV} {h:List Zh} {ι:Type} (L:List Nat) (st:ι->List AV) (A:ι->List Zh) (inv:ι->Prop)
  (step:Dn T p (ZlT L st A inv h.length Q) 100 .none [.code x] s h []) (rest:∀i,inv i->Q .normal (st i) (A i)):XP T.rd p x Q s h:=XP.by hT hm G L st A inv (Zg7 _ _ _ _ _ _ step) rest
theorem ZqF {D D':Hd->List Item->List AV->List Zh->Cd->Prop} (H:∀I k s h c,D I k s h c->D' I k s h c):∀(x:St),den T p K D x->den T p K D' x
 |.bad,h=>h
 |.fin ..,h=>h
 |.br c b k₁ k₂ s h,A=>Qb (fun h=>⟨fun e=>H _ _ _ _ _ (h.t e),fun e=>H _ _ _ _ _ (h.f e)⟩) A
 |.gd c g x k s h,A=>Qb (fun b=>⟨fun e=>H _ _ _ _ _ (b.t e),fun e=>by
   have:=b.f e;revert this;cases Jn T x .undef s h []with
   |none=>exact id
   |some p=>exact H _ _ _ _ _⟩) A
 |.call c f xs x k s h,A=>Qb (fun b=>b.mono fun r J hr=>by
   revert hr;cases Jn T x r s J []with
   |none=>exact id
   |some p=>exact H _ _ _ _ _) A
 |.alls c ops pr s0 n done qs k s h,A=>Qb (fun h=>ZcO (fun q A=>H _ _ _ _ _ A) h) A
 |.loop c x k s h,A=>Qb (fun b=>b.mono fun e s h G=>by
   cases e with
   |normal=>exact G
   |exit id=>
    revert G;dsimp only;cases exitTo id k with
    |none=>exact fun h=>h
    |some k=>exact H _ _ _ _ _
   |ret=>exact G) A
 |.cb c f ps a x k s h,A=>Qb (fun b=>b.mono fun e s h G=>by
   cases e with
   |normal=>exact H _ _ _ _ _ G
   |exit id=>
    revert G;dsimp only;cases exitTo id k with
    |none=>exact fun h=>h
    |some k=>exact H _ _ _ _ _
   |ret=>exact G) A
 |.cut c x k s h,A=>Qb (fun b=>b.mono fun e s h G=>by
   cases e with
   |normal=>exact H _ _ _ _ _ G
   |exit id=>
    revert G;dsimp only;cases exitTo id k with
    |none=>exact fun h=>h
    |some k=>exact H _ _ _ _ _
   |ret=>exact G) A
 |.hand c k s h,A=>A
theorem ZmV:∀(m:Nat) (A:Hd) (k:List Item) (s:List AV) (h:List Zh) (c:Cd),Dn T p K m A k s h c->Dn T p K (m+1) A k s h c
 |0,_,_,_,_,_,h=>by simp only[Dn]at h
 |m+1,A,k,s,h,c,hh=>ZqF (ZmV m) _ hh
theorem Zus {m m':Nat} (A:m<=m') {G:Hd} {k:List Item} {s:List AV} {h:List Zh} {c:Cd} (H:Dn T p K m G k s h c):Dn T p K m' G k s h c:=by
 induction A with
 |refl=>exact H
 |step _ I=>exact ZmV _ _ _ _ _ _ I
theorem HP.ofD (hT:T.Of (p ())) (hm:(p ()).follows .mixedOrders=true) {k:List Item} {s:List AV} {h:List Zh} {n:Nat} (hW:Dn T p K n .none k s h []):HP T.rd T.nb p k K s h:=HP.ofW hT hm (Zg7 _ _ _ _ _ _ hW)
end
end Vm
end Go.Proofs.YtjgpiclllehgmaaGreat
