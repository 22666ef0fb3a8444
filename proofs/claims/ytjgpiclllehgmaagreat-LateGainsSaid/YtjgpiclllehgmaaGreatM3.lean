/- Lemmas. -/
import Derived.Test.YtjgpiclllehgmaaGreatML
set_option linter.all false
open Array renaming all_eq_true->ik,append_assoc->dC,getD_eq_getD_getElem?->aI,getElem?_append_left->dF,getElem?_append_right->dX,getElem?_eq_getElem->aY,getElem?_eq_none->eD,getElem?_eq_some_iff->aM,getElem?_setIfInBounds->bS,mem_toList_iff->cL,replicate->dK
open Bool renaming and_eq_true->aS,not_eq_true'->cG,not_true->d9,or_eq_true->cX,or_false->eO
open List renaming all_eq_true->bM,append_assoc->dU,cons_append->iq,countP->iO,countP_cons->fP,getD_eq_getElem?_getD->aA,getElem?_append->dZ,getElem?_eq_none->cD,mem_append_left->eh,mem_cons->bG,mem_cons_of_mem->aR,mem_cons_self->aU,mem_filter->fe,mem_map->bE,mem_range->bZ,mem_singleton->aN,range->aT,range'->eG
open Nat renaming le_refl->aJ,lt_or_ge->fk,sub_self->eJ,testBit_and->iD,testBit_or->iF
open Go.Op renaming operands->bD
open Option renaming bind_some->gJ,getD_some->bY,map_some->cI
open Option.some renaming injEq->aD
open Prod.mk renaming injEq->aK
open Go.Result renaming andThen_ok->aH
open Go.Sem renaming run_bind->aQ,run_pure->bC
namespace Go.Proofs.YtjgpiclllehgmaaGreat
namespace Vm
open Go Conc1
inductive Ex where
 |normal
 |exit (id:Nat)
 |ret
def Arr (P:Program) (cx:Option Nat) (m:Cf) (b:FB) (k:List Item) (cs:List Frame) (t:Array Value) (ds:List Deferred) (w:World):Ex->Prop
 |.normal=>Steps P cx m (ZN (mkF b t ds k) cs w)
 |.exit id=>∃A,(∀k,exitTo id (A++k)=exitTo id k)/\Steps P cx m (ZN (mkF b t ds (.code (.exit id)::(A++k))) cs w)
 |.ret=>∃G,Steps P cx m (ZN (mkF b t ds (.code .ret::G)) cs w)
theorem Arr.of_steps {P:Program} {cx:Option Nat} {m A:Cf} {b:FB} {k:List Item} {cs:List Frame} {t:Array Value} {ds:List Deferred} {w:World} {e:Ex} (h:Steps P cx m A) (h':Arr P cx A b k cs t ds w e):Arr P cx m b k cs t ds w e:=by
 cases e with
 |normal=>exact h.trans h'
 |exit id=>obtain⟨I,G,J⟩:=h';exact⟨I,G,h.trans J⟩
 |ret=>obtain⟨H,G⟩:=h';exact⟨H,h.trans G⟩
theorem ZvJ {P:Program} {R R':RC} {m:Cf} {b:FB} {k:List Item} {cs:List Frame} {t:Array Value} {ds:List Deferred} {w:World} {e:Ex} (h:R.le R') (s:Arr P R'.cx m b k cs t ds w e):Arr P R.cx m b k cs t ds w e:=h.cx▸s
theorem Arr.pass {P:Program} {cx:Option Nat} {m:Cf} {b:FB} {x:Item} {k:List Item} {cs:List Frame} {t:Array Value} {ds:List Deferred} {w:World} {e:Ex} (J:∀id k,exitTo id (x::k)=exitTo id k) (G:e≠ .normal)
  (h:Arr P cx m b (x::k) cs t ds w e):Arr P cx m b k cs t ds w e:=by
 cases e with
 |normal=>exact absurd rfl G
 |exit id=>
  obtain⟨A,I,H⟩:=h;exact⟨A++[x],λk=>by rw[dU];exact(I _).trans (J id k),by simpa using H⟩
 |ret=>exact h
theorem YE {P:Program} {R R':RC} {a b:Cf} (h:R.le R') (s:Steps P R'.cx a b):Steps P R.cx a b:=h.cx▸s
theorem Zq9 {P:Program} {R R':RC} {f:FuncId} {vs:Array Value} {cs:List Frame} {w w':World} {v:Value} (h:R.le R') (s:ZiA P R'.cx f vs cs w v w'):ZiA P R.cx f vs cs w v w':=h.cx▸s
def Zea (base:List Deferred) (n0:Nat) (w:World) (ds:List Deferred):Prop:=
 ∃rs:List Nat,ds=rs.map (λr=>{target:=.collected r,args:= #[]})++base/\rs.Nodup/\∀r∈rs,n0<=r/\w.heap[r]? =some (.deferred (some []))
structure Inv (R₀:RC) (h₀:List Zi) (R:RC) (h:List Zi):Prop where
 hr:HR (Gof R₀ h₀) R h
 ext:Xs R₀ h₀ R h
 le:R₀.le R
 len:h₀.length=R₀.m
 st:h₀.length<=R₀.n0
theorem Inv.refl {G:Nat->Nat->Nat->Prop} {R:RC} {h:List Zi} (H:HR G R h) (A:h.length<=R.n0):Inv R h R h:=⟨H.entry,Xs.refl _ _,RC.le.refl _,H.len,A⟩
theorem Inv.step {R₀ R R':RC} {h₀ h h':List Zi} (H:Inv R₀ h₀ R h) (hr:HR (Gof R₀ h₀) R' h') (G:Xs R h R' h') (A:R.le R'):Inv R₀ h₀ R' h':=⟨hr,H.ext.trans G,H.le.trans A,H.len,H.st⟩
theorem Zea.ext {base:List Deferred} {n0:Nat} {G:Nat->Nat->Nat->Prop} {R R':RC} {h h':List Zi} {ds:List Deferred} (H:HR G R h) (hx:Xs R h R' h') (hd:Zea base n0 R.w ds):Zea base n0 R'.w ds:=by
 obtain⟨rs,h1,h2,h3⟩:=hd;refine⟨rs,h1,h2,λr hr=>⟨(h3 r hr).1,?_⟩⟩;have I:=(h3 r hr).2;rw[hx.frame r (aM.1 I).1 (λid blk hi A=>?_)]
 ·exact I
 have J:=H.blk id blk hi;cases blk with
 |cells cs=>obtain⟨arr,ty,e,_⟩:=J;rw[show(R.α id).b=r from A,I]at e;cases e
 |arr s n f=>obtain⟨arr,ty,_,e,_⟩:=J;rw[show(R.α id).b=r from A,I]at e;cases e
 |mapB m=>obtain⟨es,c,e,_⟩:=J;rw[show(R.α id).b=r from A,I]at e;cases e
 |loop s d=>obtain⟨l,e,_⟩:=J;rw[show(R.α id).b=r from A,I]at e;cases e
 |dead=>exact A
 |main=>exact A
 |gob g=>obtain⟨o,e,h1,_⟩:=J;rw[show(R.α id).b=r from A,I]at e;cases e;cases h1
 |fro s n f=>exact A
 |gar s n f=>
  obtain⟨a,l,c,S,e2,e3⟩:=A;obtain⟨_,⟨_,a3,V⟩|⟨Z,o,len,aa,arr,ty,_,_,V,U,_⟩⟩:=J
  ·rw[V]at S;cases S;omega
  rw[V]at S;cases S;rw[show Z=r from e3,I]at U;cases U
 |vgar s n f=>
  obtain⟨arr,ty,e⟩:=J.2.heap A;rw[I]at e;cases e
 |fam z s n m g=>
  obtain⟨us,hv,i,v,hu,A⟩:=A;obtain⟨_,_,ab,Y,_,ha,_⟩:=J;rw[hv]at Y;cases Y;obtain⟨arr,ty,e⟩:=(ha i v hu).heap A;rw[I]at e;cases e
 |tok s hw=>
  obtain⟨a,n,c,S,e2,e3⟩:=A;obtain⟨_,⟨_,a3,V⟩|⟨Z,o,len,aa,_,_,V,U⟩⟩:=J
  ·rw[V]at S;cases S;omega
  rw[V]at S;cases S;obtain⟨arr,ty,U,_⟩:=U e2;rw[show Z=r from e3,I]at U;cases U
structure SC (p:Unit->Program) (f:FuncId) (xs:List AV) (h:List Zi) (Post:AV->List Zi->Prop):Prop where
 enter:∃fn c,(p ()).funcs[f]? =some fn/\fn.body=some c/\(fn.name== "runtime.NumGoroutine")=false
 run:∀(G:Nat->Nat->Nat->Prop) (R:RC) (vs:Array Value),HR G R h->Yf R xs vs->
  ∀(cs:List Frame),∃v R' r h',ZiA (p ()) R.cx f vs cs R.w v R'.w/\HR G R' h'/\Xs R h R' h'/\R.le R'/\VR R' r v/\Post r h'
structure YC (p:Unit->Program) (id:Nat) (xs:List AV) (h:List Zi) (Post:AV->List Zi->Prop):Prop where
 run:∀(G:Nat->Nat->Nat->Prop) (R:RC) (vs:Array Value),HR G R h->Yf R xs vs->∃f tmps a x,(Instr.yield (R.α id).b vs).run (p ()) R.w= .ok (.round (R.α id).b f tmps a x) R.w/\
  ∀(c:Frame) (cs:List Frame),∃v R' r h',Steps (p ()) R.cx (ZN (Frame.round (R.α id).b f tmps a x .normal) (c::cs) R.w) (ZN (c.finish v) cs R'.w)/\HR G R' h'/\Xs R h R' h'/\R.le R'/\VR R' r v/\Post r h'
theorem YC.mono {p:Unit->Program} {id:Nat} {xs:List AV} {h:List Zi} {Q Q':AV->List Zi->Prop} (H:YC p id xs h Q) (J:∀r A,Q r A->Q' r A):YC p id xs h Q':=
 ⟨λG R I hr S=>let ⟨f,tmps,a,x,h1,h2⟩:=H.run G R I hr S;⟨f,tmps,a,x,h1,λc cs=>let ⟨v,R',r,A,a1,a2,a3,a4,a5,a6⟩:=h2 c cs;⟨v,R',r,A,a1,a2,a3,a4,a5,J _ _ a6⟩⟩⟩
structure NC (p:Unit->Program) (id:Nat) (h:List Zi) (Post:AV->List Zi->Prop):Prop where
 run:∀(G:Nat->Nat->Nat->Prop) (R:RC),HR G R h->∃v R' r h',(∀ty,(Instr.next (.pointer (some ⟨(R.α id).b,0,none⟩)) false ty).run (p ()) R.w= .ok v R'.w)/\HR G R' h'/\Xs R h R' h'/\R.le R'/\VR R' r v/\Post r h'
theorem NC.mono {p:Unit->Program} {id:Nat} {h:List Zi} {Q Q':AV->List Zi->Prop} (H:NC p id h Q) (I:∀r A,Q r A->Q' r A):NC p id h Q':=
 ⟨λG R hr=>let ⟨v,R',r,A,a1,a2,a3,a4,a5,a6⟩:=H.run G R hr;⟨v,R',r,A,a1,a2,a3,a4,a5,I _ _ a6⟩⟩
inductive Tg where
 |fn (f:FuncId)
 |yld (id:Nat)
 |nxt (id:Nat)
theorem SC.mono {p:Unit->Program} {f:FuncId} {xs:List AV} {h:List Zi} {Q Q':AV->List Zi->Prop} (H:SC p f xs h Q) (J:∀r A,Q r A->Q' r A):SC p f xs h Q':=
 ⟨H.enter,λG R I hr S cs=>let ⟨v,R',r,A,a1,a2,a3,a4,a5,a6⟩:=H.run G R I hr S cs;⟨v,R',r,A,a1,a2,a3,a4,a5,J _ _ a6⟩⟩
def SCt (p:Unit->Program) (t:Tg) (xs:List AV) (h:List Zi) (A:AV->List Zi->Prop):Prop:=match t with
 |.fn f=>SC p f xs h A
 |.yld id=>YC p id xs h A
 |.nxt id=>NC p id h A
theorem SCt.mono {p:Unit->Program} {t:Tg} {xs:List AV} {h:List Zi} {Q Q':AV->List Zi->Prop} (H:SCt p t xs h Q) (A:∀r G,Q r G->Q' r G):SCt p t xs h Q':=by
 cases t with
 |fn f=>exact SC.mono H A
 |yld id=>exact YC.mono H A
 |nxt id=>exact NC.mono H A
def ZpZ:AV->Option (Tg×List AV×List AV)
 |.fn f a b=>some (.fn f,a,b)
 |.yld id=>some (.yld id,[],[])
 |_=>none
structure Chk (c:Cd) (G:Prop):Prop where
 c:ZV c
 g:G
structure Br (b:Unit->Bool) (A B:Unit->Prop):Prop where
 t:b ()=true->A ()
 f:b ()=false->B ()
def chk (c:Cd) (G:Prop):Prop:=match c with
 |[]=>G
 |_=>Chk c G
theorem Qb {c:Cd} {G:Prop} (h:chk c G):ZV c/\G:=by
 unfold chk at h;split at h
 ·exact⟨Yp,h⟩
 exact⟨h.c,h.g⟩
def putO (s:List AV):Option Tmp->AV->List AV
 |some d,v=>s.set d v
 |none,_=>s
def Zeq:Op->Nat
 |.alloc _|.box .. |.store .. |.makeMap .. |.mapUpdate .. |.range .. |.makeSlice .. =>1
 |.send .. =>5
 |.next _ false=>6
 |.call {callee:=.builtin .copy,.. }=>1
 |.call {callee:=.builtin .clear,.. }=>1
 |.call {callee:=.builtin .append,.. }=>1
 |.call {callee:=.value _,.. }=>2
 |.pick .. =>3
 |.buildSlice .. =>4
 |_=>0
def Zm8 (ops:Array Oper):Option (Nat×Bool)->List Operand
 |some (j,_)=>(match(ops[j]?).bind (·.dst)with
  |some d=>[.tmp d]
  |none=>[])
 |none=>[]
def ZhY (ops:Array Oper) (o:Oper):List Operand:=o.op.operands.toList++Zm8 ops o.guard
def ZgW (ops:Array Oper) (E:Operand->AV):Option (Nat×Bool)->Option (Option (Unit->Bool))
 |none=>some none
 |some (j,w)=>(match(ops[j]?).bind (·.dst)with
  |some d=>(match E (.tmp d)with
   |.bool b=>some (some (if w then b else λ_=> !b ()))
   |.ob g b=>some (some (if w then λ_=>bif g ()then b ()else false else λ_=>bif g ()then !b ()else false))
   |_=>none)
  |none=>none)
def gdC (E:Operand->AV):List Operand->Cd
 |[]=>[]
 |x::r=>ZaB (E x)++gdC E r
def Zjt:Op->Option (Operand×List Operand)
 |.call {callee:=.value f,args,.. }=>some (f,args.toList)
 |_=>none
def Zvi (g:Unit->Bool):Cd->Cd
 |[]=>[]
 |x::r=>.i g x::Zvi g r
def gW (g:Unit->Bool):AV->AV
 |.bool b=>.ob g b
 |v=>.gd g v
def ZbZ (v:AV) (c:Cd):Option (Unit->Bool)->AV×Cd
 |none=>(v,c)
 |some g=>(gW g v,Zvi g c)
def JM (T:Tb) (ops:Array Oper) (o:Oper) (E:Operand->AV) (h:List Zi):Option (AV×Cd):=
 match ZgW ops E o.guard with
 |none=>none
 |some g=>(match Zeq o.op with
  |0=>(match Zg0 T (λx=>strip (E x)) h o.op with
   |some (v,c)=>some (ZbZ v (gdC E o.op.operands.toList++c) g)
   |none=>(match g with
    |some g=>some (.undef,[dd λ_=>g ()=false])
    |none=>none))
  |3=>(match Zg0 T E h o.op with
   |some (v,c)=>some (ZbZ v c g)
   |none=>none)
  |4=>(match o.op with
   |.buildSlice t n ps=>(match Yv T (λx=>strip (E x)) t n ps.toList with
    |some v=>some (ZbZ v (gdC E o.op.operands.toList) g)
    |none=>none)
   |_=>none)
  |_=>none)
def skV (T:Tb):AV:=match T.nov with
 |true=>.ob (λ_=>false) λ_=>false
 |false=>.undef
theorem Zu3 {T:Tb} {R:RC}:VR R (skV T) undef:=by
 unfold skV;split
 ·exact .ob _ _ _ (λh=>by cases h) λ_=>rfl
 exact .undef _
def Zc1 (c:Cd) (g:Option (Unit->Bool)) (A:Cd->Prop) (B:Unit->Prop):Prop:=match g with
 |none=>A c
 |some g=>chk c (Br g (λ_=>A []) B)
def ZkL:List Zi->Nat->Option (Nat×Nat×(Unit->List Bool))
 |[],_=>none
 |.gob (.chq c l)::_,i=>some (i,c,l)
 |_::r,i=>ZkL r (i+1)
def ZjP (h:List Zi) (a b:AV):Option (List Zi×Cd):=match a,b with
 |.cch c,.bool v=>(match ZkL h 0 with
  |some (id,c',l)=>some (h.set id (.gob (.chq c' λ_=>l ()++[v ()])),[dd λ_=>c=c'])
  |none=>none)
 |_,_=>none
def ZiM:Op->Option (Operand×Operand)
 |.send c x=>some (c,x)
 |_=>none
def ZiU:Op->Option Operand
 |.next x false=>some x
 |_=>none
def ZmY:AV->Option Nat
 |.mit id=>some id
 |_=>none
def Wop (T:Tb) (p:Unit->Program) (ops:Array Oper) (o:Oper) (E:Operand->AV) (h:List Zi) (c:Cd) (K:AV->List Zi->Cd->Prop):Prop:=
 match Zeq o.op with
 |1=>(match ZgW ops E o.guard with
  |none=>False
  |some g=>Zc1 c g (λc=>match ZqY T (λx=>strip (E x)) h o.op with
   |some (v,A,c')=>K v A (c++(gdC E o.op.operands.toList++c'))
   |none=>False) (λ_=>K (skV T) h []))
 |2=>(match ZgW ops E o.guard with
  |none=>False
  |some g=>Zc1 c g (λc=>match Zjt o.op with
   |some (f,xs)=>(match ZpZ (strip (E f))with
    |some (tg,a,b)=>chk (c++gdC E o.op.operands.toList) (SCt p tg (a++(xs.map λx=>strip (E x))++b) h λr A=>K r A [])
    |none=>False)
   |none=>False) (λ_=>K (skV T) h []))
 |5=>(match ZgW ops E o.guard with
  |none=>False
  |some g=>Zc1 c g (λc=>match ZiM o.op with
   |some (a,b)=>(match ZjP h (strip (E a)) (strip (E b))with
    |some (A,c')=>K .undef A (c++(gdC E o.op.operands.toList++c'))
    |none=>False)
   |none=>False) (λ_=>K (skV T) h []))
 |6=>(match ZgW ops E o.guard with
  |none=>False
  |some g=>Zc1 c g (λc=>match ZiU o.op with
   |some x=>(match ZmY (strip (E x))with
    |some id=>chk (c++gdC E o.op.operands.toList) (SCt p (.nxt id) [] h λr A=>K r A [])
    |none=>False)
   |none=>False) (λ_=>K (skV T) h []))
 |_=>(match JM T ops o E h with
  |some (v,c')=>K v h (c++c')
  |none=>False)
section
variable {P:Program} {T:Tb} {p:Unit->Program} {R₀:RC} {h₀:List Zi}
theorem SL.ev {R:RC} {s:List AV} {t:Array Value} (A:SL R s t) (x:Operand):VR R (Vm.ev s x) (QV t x):=by
 cases x with
 |tmp i=>exact A.getD i
 |const v=>exact Zgq v
 |global g=>exact .undef _
 |func f=>exact .fn f [] [] #[] #[] rfl rfl (λj c h=>by simp at h) (λj c h=>by simp at h)
theorem VR.strip {R:RC} {a:AV} {v:Value} (h:VR R a v) (A:ZV (ZaB a)):VR R (Vm.strip a) v:=by
 cases a with
 |gd g x=>exact h.gd_inv (A _ (aN.2 rfl))
 |ob g x=>
  rw[h.ob_inv (A _ (aN.2 rfl))];exact .pure _ _ (.bool _)
 |_=>exact h
theorem ZfO {E:Operand->AV}:∀ {l:List Operand},ZV (gdC E l)->∀x∈l,ZV (ZaB (E x))
 |[],_,x,A=>by cases A
 |y::l,h,x,A=>by
  obtain⟨G,H⟩:=Z7 h;rcases bG.1 A with rfl|A
  ·exact G
  exact ZfO H x A
theorem Zm4 {g:Unit->Bool}:∀ {c:Cd},ZV (Zvi g c)->g ()=true->ZV c
 |[],_,_=>Yp
 |p::c,h,hg=>λq A=>by
  rcases bG.1 A with rfl|A
  ·exact h _ (aU ..) hg
  exact Zm4 (c:=c) (λr hr=>h r (aR _ hr)) hg q A
theorem SL.putO {R:RC} {s:List AV} {t:Array Value} (A:SL R s t) {a:AV} {v:Value} (hv:VR R a v) (d:Option Tmp):SL R (Vm.putO s d a) (Z8 t d v):=by
 cases d with
 |none=>exact A
 |some d=>exact A.set hv d
def Zm9:Option (Unit->Bool)->Bool
 |none=>true
 |some g=>g ()
def EOK (R:RC) (ops:Array Oper) (o:Oper) (E:Operand->AV) (t:Array Value):Prop:=∀x∈ZhY ops o,VR R (E x) (QV t x)
theorem ZfN {R:RC} {E:Operand->AV} {t:Array Value} {ops:Array Oper} {o:Oper} {g:Option (Unit->Bool)} (Y:EOK R ops o E t) (A:ZgW ops E o.guard=some g):
  Region.wanted o (yielded ops t)=Zm9 g:=by
 have J:∀x∈Zm8 ops o.guard,VR R (E x) (QV t x):=λx Z=>Y x (List.mem_append_right _ Z);unfold ZgW at A;unfold Region.wanted;split at A
 ·rename_i hn;simp only[aD]at A;subst A;rw[hn];rfl
 rename_i j H U;rw[U]at J|-;split at A
 ·rename_i d I;split at A
  ·rename_i b S;simp only[aD]at A;subst A;have hv:=J (.tmp d) (by simp[Zm8,I]);rw[S]at hv;have hv:t.getD d undef= .bool (b ()):=hv.bool_inv;have G:d<t.size:=by
    rcases fk d t.size with h|h
    ·exact h
    rw[aI,eD h]at hv;cases hv
   have:yielded ops t j=some (b ()):=by
    unfold yielded;rw[I];simp only[gJ];rw[aI,aY G,bY]at hv;rw[aY G,hv]
   simp only[this];cases H<;>cases hbb:b ()<;>simp[Zm9,hbb]
  ·rename_i V b S;simp only[aD]at A;subst A;have hv:=J (.tmp d) (by simp[Zm8,I]);rw[S]at hv;cases hgg:V ()
   ·have hv:t.getD d undef=undef:=hv.ob_none hgg;have:yielded ops t j=none:=by
     unfold yielded;rw[I];simp only[gJ];rw[aI]at hv;cases he:t[d]? with
     |none=>rfl
     |some u=>
      rw[he,bY]at hv;subst hv;rfl
    simp only[this];cases H<;>simp[Zm9,hgg]
   have hv:t.getD d undef= .bool (b ()):=hv.ob_inv hgg;have G:d<t.size:=by
    rcases fk d t.size with h|h
    ·exact h
    rw[aI,eD h]at hv;cases hv
   have:yielded ops t j=some (b ()):=by
    unfold yielded;rw[I];simp only[gJ];rw[aI,aY G,bY]at hv;rw[aY G,hv]
   simp only[this];cases H<;>cases hbb:b ()<;>simp[Zm9,hbb,hgg]
  cases A
 cases A
def Zd9 (P:Program) (R₀:RC) (h₀:List Zi) (ops:Array Oper) (i:Nat) (o:Oper) (E:Operand->AV) (h:List Zi) (K:AV->List Zi->Prop):Prop:=
 ∀(R:RC) (t:Array Value),Inv R₀ h₀ R h->EOK R ops o E t->∀(b:FB) (I:List Deferred) (k:List Item) (cs:List Frame) (G:List Nat),
  ∃v H A u,K v H/\Inv R₀ h₀ A H/\Xs R h A H/\R.le A/\VR A v u/\
   Steps P R.cx (ZN (mkF b t I (.inRegion ops (i::G)::k)) cs R.w) (ZN (mkF b (Z8 t o.dst u) I (.inRegion ops G::k)) cs A.w)
theorem Zbp {o:Op} {n:Nat} (h:Zeq o=n) (A:n≠0):∀c,o≠ .defer c:=λc e=>by
 subst e;exact A h.symm
theorem Zig {E:Operand->AV} {h:List Zi} {o:Op} {x:AV×Cd} (hv:JG P E h o=some x):∀c,o≠ .defer c:=λc e=>by
 subst e;simp[JG]at hv
theorem ZsI {id:Nat} {o:Oper} {f:Operand} {xs:Array Operand} {J:Array TypeId} {t:Array Value} {R:RC} (H:o.op= .call {callee:=.value f,args:=xs,argTypes:=J})
  (G:VR R (.yld id) (QV t f)) (A:List AV) (hy:A.length=xs.size) (U:∀j c,A[j]? =some c->VR R c ((xs.map (QV t)).getD j undef)) (w:World):
  ∃I,(execOp (QV t) o).run P w=(Instr.yield (R.α id).b I).run P w/\Yf R A I:=by
 have S:QV t f= .func (.yield (R.α id).b) #[] #[]:=by
  generalize QV t f=u at G;cases G with
  |pure _ _ Z=>cases Z
  |yld _ _=>rfl
 refine⟨xs.map (QV t),?_,by simp[hy],U⟩;obtain⟨aa,op,ty,pos,V,Y⟩:=o;simp only at H;subst H;show((do let d<-resolve (QV t) {callee:=.value f,args:=xs,argTypes:=J} ty;invoke d.target d.args):Sem Next).run P w=_;simp only[resolve,S,Deferred.ofValue,aQ,bC,aH,invoke];simp
theorem ZjV {fid:FuncId} {a b:List AV} {o:Oper} {f:Operand} {xs:Array Operand} {ts:Array TypeId} {t:Array Value} {R:RC} (ho:o.op= .call {callee:=.value f,args:=xs,argTypes:=ts})
  (Z:VR R (.fn fid a b) (QV t f)) (hx:∀x∈xs,∃y,VR R y (QV t x)) (w:World) (hE:∃fn c,P.funcs[fid]? =some fn/\fn.body=some c/\(fn.name== "runtime.NumGoroutine")=false)
  (J:List AV) (hy:J.length=xs.size) (Y:∀j c,J[j]? =some c->VR R c ((xs.map (QV t)).getD j undef)):
  ∃G,(execOp (QV t) o).run P w= .ok (.enter fid G) w/\Yf R (a++J++b) G:=by
 obtain⟨fn,c,e1,e2,e3⟩:=hE;have V:∃I G:Array Value,QV t f= .func (.func fid) I G/\a.length=I.size/\b.length=G.size/\(∀j c,a[j]? =some c->VR R c (I.getD j undef))/\(∀j c,b[j]? =some c->VR R c (G.getD j undef)):=by
  generalize QV t f=u at Z;cases Z with
  |pure _ _ hp=>cases hp
  |fn _ _ _ I G h1 h2 h3 h4=>exact⟨I,G,rfl,h1,h2,h3,h4⟩
 obtain⟨I,G,aa,S,l2,r1,r2⟩:=V;refine⟨I++xs.map (QV t)++G,?_,?_,?_⟩
 ·have ab:∀A:Array Value,(callFunc fid A).run P w= .ok (.enter fid A) w:=λA=>by
   have ac:fn.name≠ "runtime.NumGoroutine" :=by simpa using e3
   simp[callFunc,e1,e2,ac]
  obtain⟨ak,op,ty,pos,ah,ae⟩:=o;simp only at ho;subst ho;show((do let d<-resolve (QV t) {callee:=.value f,args:=xs,argTypes:=ts} ty;invoke d.target d.args):Sem Next).run P w=_;simp only[resolve,aa,Deferred.ofValue,aQ,bC,aH,invoke,ab]
 ·simp[S,l2,hy]
 intro j c H;rw[aI];simp only[dU]at H;rw[dZ]at H;split at H
 ·rename_i U;have:=r1 j c H;rw[aI]at this;rw[dC,dF (by omega)];exact this
 rename_i aj;rw[dC,dX (by omega)];rw[dZ]at H;split at H
 ·rename_i U;have:=Y _ c H;rw[aI]at this;rw[dF (by simp;omega),<-S];exact this
 rename_i ai;have:=r2 _ c H;rw[aI]at this;rw[dX (by simp;omega)];simp only[Array.size_map,<-S,<-hy];exact this
theorem ZiJ {ops:Array Oper} {i:Nat} {o:Oper} (H:ops[i]? =some o) {h:List Zi} {R:RC} {t:Array Value} {v:AV} {K:AV->List Zi->Prop} (hw:Region.wanted o (yielded ops t)=false) (hi:Inv R₀ h₀ R h) (hv:VR R v undef) (I:K v h)
  (b:FB) (ds:List Deferred) (k:List Item) (cs:List Frame) (rest:List Nat):
  ∃v G A u,K v G/\Inv R₀ h₀ A G/\Xs R h A G/\R.le A/\VR A v u/\
   Steps P R.cx (ZN (mkF b t ds (.inRegion ops (i::rest)::k)) cs R.w) (ZN (mkF b (Z8 t o.dst u) ds (.inRegion ops rest::k)) cs A.w):=by
 refine⟨v,h,R,undef,I,hi,Xs.refl _ _,RC.le.refl _,hv,.one ?_⟩;have:=Znt (P:=P) (cx:=R.cx) (b:=b) (t:=t) (ds:=ds) (k:=k) (cs:=cs) (w:=R.w) (ops:=ops) (i:=i) (rest:=rest) (by rw[H];simpa using hw);rw[H]at this;exact this
theorem ZwO {R:RC} {g:Unit->Bool} {v:AV} (A:g ()=false):VR R (gW g v) undef:=by
 unfold gW;split
 ·exact .ob _ _ _ (λh=>by rw[A]at h;cases h) λ_=>rfl
 exact .gd _ _ _ λh=>by rw[A]at h;cases h
theorem Zvj {R:RC} {g:Unit->Bool} {v:AV} {u:Value} (A:g ()=true) (h:VR R v u):VR R (gW g v) u:=by
 unfold gW;split
 ·exact .ob _ _ _ (λ_=>h.bool_inv) λh=>by rw[A]at h;cases h
 exact .gd _ _ _ λ_=>h
theorem ZiB {ops:Array Oper} {i:Nat} {o:Oper} (Z:ops[i]? =some o) {E:Operand->AV} {h:List Zi} {g:Option (Unit->Bool)} (hg:ZgW ops E o.guard=some g) {v:AV} {c:Cd} (hc:ZV (ZbZ v c g).2) (hd:∀c,o.op≠ .defer c)
  (main:ZV c->∀(R:RC) (t:Array Value),Inv R₀ h₀ R h->EOK R ops o E t->J2 R (Gof R₀ h₀) h v h ((execOp (QV t) o).run P R.w)/\ZA P (λ_=>False) (execOp (QV t) o)):
  Zd9 P R₀ h₀ ops i o E h λJ U=>J=(ZbZ v c g).1/\U=h:=by
 intro R t I Y b ds k cs aa;have hw:=ZfN Y hg;cases g with
 |none=>
  obtain⟨⟨nv,u,R',V,S,h3,A,G,h6⟩,H⟩:=main hc R t I Y;exact⟨v,h,R',u,⟨rfl,rfl⟩,I.step h3 A G,A,G,h6,.one (ZaP Z hw hd H V S)⟩
 |some g=>
  cases hgg:g ()
  ·exact ZiJ (v:=gW g v) (K:=λJ U=>J=gW g v/\U=h) Z (by rw[hw];exact hgg) I (ZwO hgg) ⟨rfl,rfl⟩ b ds k cs aa
  obtain⟨⟨nv,u,R',V,S,h3,A,G,h6⟩,H⟩:=main (Zm4 hc hgg) R t I Y;exact⟨gW g v,h,R',u,⟨rfl,rfl⟩,I.step h3 A G,A,G,Zvj hgg h6,.one (ZaP Z (by rw[hw];exact hgg) hd H V S)⟩
theorem Zie (hT:T.Of P) {ops:Array Oper} {i:Nat} {o:Oper} (ho:ops[i]? =some o) {E:Operand->AV} {h:List Zi} {v:AV} {c:Cd} (hv:JM T ops o E h=some (v,c)) (G:ZV c):
  Zd9 P R₀ h₀ ops i o E h λH h'=>H=v/\h'=h:=by
 have ab:∀ {E':Operand->AV} {v:AV} {c:Cd},JG P E' h o.op=some (v,c)->ZV c->∀(R:RC) (t:Array Value),Inv R₀ h₀ R h->(∀x∈o.op.operands,VR R (E' x) (QV t x))->J2 R (Gof R₀ h₀) h v h ((execOp (QV t) o).run P R.w)/\ZA P (λ_=>False) (execOp (QV t) o):=by
  intro E' v c hv G R t J I;obtain⟨u,h1,h2⟩:=Zvl J.hr (ρ:=QV t) (λ_=>rfl) I hv G;exact⟨⟨.value u,u,R,h1,.inl rfl,J.hr,Xs.refl _ _,RC.le.refl _,h2⟩,ZqW (λ_=>rfl) I hv⟩
 have S:∀ {R:RC} {t:Array Value},EOK R ops o E t->ZV (gdC E o.op.operands.toList)->∀x∈o.op.operands,VR R (strip (E x)) (QV t x):=λI G x hx=>
  (I x (eh _ (cL.2 hx))).strip (ZfO G x (cL.2 hx))
 unfold JM at hv;split at hv
 ·cases hv
 rename_i g hg;split at hv
 ·split at hv;case h_2=>
   split at hv;case h_2=>cases hv
   rename_i g ae;simp only[aD,aK]at hv;obtain⟨rfl,rfl⟩:=hv;intro R t J I b ds k cs ac;have hw:=ZfN I hg;exact ZiJ (v:=.undef) (K:=λH h'=>H= .undef/\h'=h) ho (by rw[hw];exact G _ (aN.2 rfl)) J (.undef _) ⟨rfl,rfl⟩ b ds k cs ac
  rename_i H U A;replace A:=Znb hT A;simp only[aD]at hv;have Y:(ZbZ H (gdC E o.op.operands.toList++U) g).1=v:=by rw[hv]
  have V:(ZbZ H (gdC E o.op.operands.toList++U) g).2=c:=by rw[hv]
  rw[<-Y];exact ZiB ho hg (by rw[V];exact G) (Zig A) λG R t J I=>ab A (Z7 G).2 R t J (S I (Z7 G).1)
 ·split at hv;case h_2=>cases hv
  rename_i H U A;replace A:=Znb hT A;simp only[aD]at hv;have Y:(ZbZ H U g).1=v:=by rw[hv]
  have V:(ZbZ H U g).2=c:=by rw[hv]
  rw[<-Y];exact ZiB ho hg (by rw[V];exact G) (Zig A) λG R t J I=>ab A G R t J λx hx=>I x (eh _ (cL.2 hx))
 ·rename_i Z;split at hv;case h_2=>cases hv
  rename_i tt n ps aa;split at hv;case h_2=>cases hv
  rename_i H A;replace A:=JP hT A;simp only[aD]at hv;have Y:(ZbZ H (gdC E o.op.operands.toList) g).1=v:=by rw[hv]
  have V:(ZbZ H (gdC E o.op.operands.toList) g).2=c:=by rw[hv]
  rw[<-Y];refine ZiB ho hg (by rw[V];exact G) (Zbp Z (by decide)) λG R t J I=>?_;exact⟨ZqX (gr:=false) (E:=λx=>strip (E x)) (c:=[]) J.hr (S I G) (by rw[aa];simp only[evE,A,cI]) Yp,ZkC (gr:=false) (E:=λx=>strip (E x)) (c:=[]) (h:=h) (v:=H) (h':=h) (S I G) (by rw[aa];simp only[evE,A,cI])⟩
 cases hv
theorem ZkK:∀ {h:List Zi} {i id:Nat} {c:Nat} {l:Unit->List Bool},ZkL h i=some (id,c,l)->i<=id/\h[id-i]? =some (Zi.gob (.chq c l))
 |[],_,_,_,_,h=>by cases h
 |b::r,i,id,c,l,h=>by
  have A:ZkL r (i+1)=some (id,c,l)->i<=id/\(b::r)[id-i]? =some (Zi.gob (.chq c l)):=λh=>by
   obtain⟨J,G⟩:=ZkK h;refine⟨by omega,?_⟩;rw[show id-i=(id-(i+1))+1 by omega];exact G
  cases b with
  |gob g=>
   cases g with
   |chq I H=>
    simp only[ZkL,aD,aK]at h;obtain⟨rfl,rfl,rfl⟩:=h;exact⟨aJ _,by rw[eJ];rfl⟩
   |_=>exact A h
  |_=>exact A h
theorem ZsF {G:Nat->Nat->Nat->Prop} {R:RC} {h h':List Zi} (H:HR G R h) {a b:AV} {u v:Value} {c:Cd} (ha:VR R a u) (hb:VR R b v) (hv:ZjP h a b=some (h',c)) (hc:ZV c):
  ∃Y x ab s r I J,R.cx=some Y/\u= .chan (some Y)/\v= .bool x/\R.w.heap[Y]? =some (.chan 0 ab false s r I)/\J.w=R.w.setChan Y 0 (ab.push (.bool x)) false (s+1) r I/\HR G J h'/\Xs R h J h'/\R.le J:=by
 unfold ZjP at hv;split at hv;case h_2=>cases hv
 rename_i S x;split at hv;case h_2=>cases hv
 rename_i id c' l hq;cases hv;obtain⟨_,hi⟩:=ZkK hq;rw[Nat.sub_zero]at hi;have e:=(Cn.out (hc _ (aN.2 rfl)));subst e;obtain⟨o,Z,hk,A,aa,s,r,I,rfl⟩:=H.blk id _ hi;obtain⟨J,hw,_,V,H',ac,U⟩:=H.upd hi rfl (blk':=.gob (.chq S λ_=>l ()++[x ()])) rfl (R.w.setChan S 0 (((l ()).map Value.bool).toArray.push (.bool (x ()))) false (s+1) r I) rfl rfl rfl (by simp[World.setChan])
  (λb hb=>by
   show(R.w.heap.setIfInBounds S _)[b]? =_
   rw[Array.getElem?_setIfInBounds_ne (by rw[<-A];exact Ne.symm hb)]) (λJ U V hw=>⟨.chan 0 (((l ()).map Value.bool).toArray.push (.bool (x ()))) false (s+1) r I,by
   rw[hw,V,A];show(R.w.heap.setIfInBounds S _)[S]? =_;rw[A]at Z
   rw[Array.getElem?_setIfInBounds_self_of_lt (aM.1 Z).1],rfl,by rw[V];exact A,U.cx.trans aa,s+1,r,I,by simp⟩)
 refine⟨S,x (),_,s,r,I,J,aa,?_,hb.bool_inv,by rw[A]at Z;exact Z,hw,H',ac,U⟩;cases ha with
 |pure _ _ hp=>cases hp;rfl
theorem ZjB (hT:T.Of (p ())) {ops:Array Oper} {i:Nat} {o:Oper} (ho:ops[i]? =some o) {E:Operand->AV} {h:List Zi} {c:Cd} {K:AV->List Zi->Cd->Prop} (hK:∀v h c,K v h c->ZV c) (hW:Wop T p ops o E h c K):
  ZV c/\Zd9 (p ()) R₀ h₀ ops i o E h λv h=>∃c,K v h c:=by
 unfold Wop at hW
 have aw:∀ {g:Option (Unit->Bool)} {A:Cd->Prop} {B:Unit->Prop},ZgW ops E o.guard=some g->Zc1 c g A B->(∀c,A c->ZV c/\∀ {R:RC} {t:Array Value},Inv R₀ h₀ R h->EOK R ops o E t->Region.wanted o (yielded ops t)=true->
    ∀(b:FB) (ds:List Deferred) (k:List Item) (cs:List Frame) (G:List Nat),
    ∃v S U u,(∃c,K v S c)/\Inv R₀ h₀ U S/\Xs R h U S/\R.le U/\VR U v u/\
     Steps (p ()) R.cx (ZN (mkF b t ds (.inRegion ops (i::G)::k)) cs R.w) (ZN (mkF b (Z8 t o.dst u) ds (.inRegion ops G::k)) cs U.w))->
   (B ()->K (skV T) h [])->ZV c/\Zd9 (p ()) R₀ h₀ ops i o E h λv h=>∃c,K v h c:=by
  intro g A B hg a9 I hB;unfold Zc1 at a9;split at a9
  ·obtain⟨h1,h2⟩:=I c a9;exact⟨h1,λR t J Y=>h2 J Y (ZfN Y hg)⟩
  rename_i g;obtain⟨h1,h2⟩:=Qb a9;refine⟨h1,λR t J Y b ds k cs G=>?_⟩;have hw:=ZfN Y hg;cases hgg:g ()
  ·exact ZiJ (v:=skV T) (K:=λv h=>∃c,K v h c) ho (by rw[hw];exact hgg) J Zu3 ⟨_,hB (h2.f hgg)⟩ b ds k cs G
  exact(I [] (h2.t hgg)).2 J Y (by rw[hw];exact hgg) b ds k cs G
 have aj:∀ {R:RC} {t:Array Value},EOK R ops o E t->ZV (gdC E o.op.operands.toList)->∀x∈o.op.operands,VR R (strip (E x)) (QV t x):=λhE hc x hx=>
  (hE x (eh _ (cL.2 hx))).strip (ZfO hc x (cL.2 hx))
 split at hW
 ·
  rename_i ah;split at hW
  ·exact hW.elim
  rename_i g hg;refine aw hg hW (λc I=>?_) (λh=>h);split at I;case h_2=>exact I.elim
  rename_i v S c' hv;replace hv:=Ztb hT hv;obtain⟨a1,a2⟩:=Z7 (hK _ _ _ I);refine⟨a1,λ{R t} J Y hw b ds k cs G=>?_⟩;obtain⟨b1,b2⟩:=Z7 a2;obtain⟨nv,u,U,h1,h2,h3,h4,h5,h6⟩:=ZqX (E:=λx=>strip (E x)) J.hr (ρ:=QV t) (aj Y b1) hv b2;exact⟨v,S,U,u,⟨_,I⟩,J.step h3 h4 h5,h4,h5,h6,.one (ZaP ho hw (Zbp ah (by decide)) (ZkC (E:=λx=>strip (E x)) (aj Y b1) hv) h1 h2)⟩
 ·
  split at hW
  ·exact hW.elim
  rename_i g hg;refine aw hg hW (λc I=>?_) (λh=>h);split at I;case h_2=>exact I.elim
  rename_i f xs ab;split at I;case h_2=>exact I.elim
  rename_i tg a b V;obtain⟨al,Z⟩:=Qb I;obtain⟨a1,a2⟩:=Z7 al;refine⟨a1,λ{R t} J Y hw b' ds k cs G=>?_⟩;obtain⟨ac,ts,H,rfl⟩:∃(ac:Array Operand) (ts:Array TypeId),o.op= .call {callee:=.value f,args:=ac,argTypes:=ts}/\xs=ac.toList:=by
   unfold Zjt at ab;split at ab
   ·rename_i f' bc bw bt;simp only[aD,aK]at ab;obtain⟨rfl,rfl⟩:=ab;exact⟨bc,bw,bt,rfl⟩
   cases ab
  have ai:=aj Y a2;have bq:f∈o.op.operands:=by rw[H];simp[bD,Call.operands]
  have bh:∀x∈ac,x∈o.op.operands:=λx hx=>by rw[H];simp[bD,Call.operands,hx]
  have ae:=ai f bq;obtain⟨l1,r1⟩:=ZeS (E:=λx=>strip (E x)) (ρ:=QV t) (xs:=ac) (R:=R) (λx hx=>ai x (bh x hx));have be:∀c,o.op≠ .defer c:=λc e=>by rw[H]at e;cases e
  cases tg with
  |nxt id=>
   unfold ZpZ at V;split at V<;>cases V
  |yld id=>
   obtain⟨he,rfl,rfl⟩:strip (E f)= .yld id/\a=[]/\b=[]:=by
    unfold ZpZ at V;split at V
    ·cases V
    ·rename_i he;simp only[aD,aK,Tg.yld.injEq]at V;obtain⟨rfl,rfl,rfl⟩:=V;exact⟨he,rfl,rfl⟩
    cases V
   rw[he]at ae;obtain⟨vs,am,ao⟩:=ZsI (P:=p ()) H ae (ac.toList.map λx=>strip (E x)) (by simp) r1 R.w;obtain⟨bx,bz,b9,ca,bm,bp⟩:=Z.run _ R vs J.hr (by simpa using ao);have bo:ZA (p ()) (λ_=>False) (execOp (QV t) o):=by
    have ak:QV t f= .func (.yield (R.α id).b) #[] #[]:=by
     generalize QV t f=u at ae;cases ae with
     |pure _ _ hp=>cases hp
     |yld _ _=>rfl
    obtain⟨bk,op,ty,pos,ap,au⟩:=o;simp only at H;subst H;exact ZlJ ak
   obtain⟨v,U,r,S,aa,h3,h4,h5,h6,h7⟩:=bp (mkF b' t ds (.inRegion ops (i::G)::k)) cs;refine⟨r,S,U,v,⟨_,h7⟩,J.step h3 h4 h5,h4,h5,h6,.head (Zlm ho hw be bo (am.trans bm)) ?_⟩;rw[XF,ho]at aa;exact aa
  |fn bg=>
  have V:strip (E f)= .fn bg a b:=by
   unfold ZpZ at V;split at V
   ·rename_i he;simp only[aD,aK,Tg.fn.injEq]at V;obtain⟨rfl,rfl,rfl⟩:=V;exact he
   ·cases V
   cases V
  rw[V]at ae;have Z:SC p bg (a++(ac.toList.map λx=>strip (E x))++b) h λr S=>K r S []:=Z;obtain⟨vs,am,ao⟩:=ZjV (P:=p ()) H ae (λx hx=>⟨_,ai x (bh x hx)⟩) R.w Z.enter (ac.toList.map λx=>strip (E x)) (by simp) r1;have be:∀c,o.op≠ .defer c:=λc e=>by rw[H]at e;cases e
  have bu:ZA (p ()) (λ_=>False) (execOp (QV t) o):=by
   obtain⟨fn,c,e1,e2,e3⟩:=Z.enter;have ak:∃us vs:Array Value,QV t f= .func (.func bg) us vs:=by
    generalize QV t f=u at ae;cases ae with
    |pure _ _ hp=>cases hp
    |fn _ _ _ us vs _ _ _ _=>exact⟨us,vs,rfl⟩
   obtain⟨us,vs,ak⟩:=ak;obtain⟨bk,op,ty,pos,ap,au⟩:=o;simp only at H;subst H;exact Zgz ak e1 e2 e3
  obtain⟨v,U,r,S,aa,h3,h4,h5,h6,h7⟩:=Z.run _ R vs J.hr ao (mkF b' t ds (.inRegion ops (i::G)::k)::cs);have aa:=aa.call;refine⟨r,S,U,v,⟨_,h7⟩,J.step h3 h4 h5,h4,h5,h6,.head (Znv ho hw be bu am) ?_⟩;rw[XF,ho]at aa;exact aa
 ·
  rename_i ah;split at hW
  ·exact hW.elim
  rename_i g hg;refine aw hg hW (λc I=>?_) (λh=>h);split at I;case h_2=>exact I.elim
  rename_i a b az;split at I;case h_2=>exact I.elim
  rename_i S c' hv;obtain⟨a1,a2⟩:=Z7 (hK _ _ _ I);refine⟨a1,λ{R t} J Y hw b' ds k cs G=>?_⟩;obtain⟨b1,b2⟩:=Z7 a2;have H:o.op= .send a b:=by
   unfold ZiM at az;split at az
   ·rename_i e;cases az;exact e
   cases az
  have ai:=aj Y b1;obtain⟨ch,x,ce,s,r,tm,U,h0,h1,h2,h3,h4,h5,h6,h7⟩:=ZsF J.hr (ai a (by rw[H];simp[bD])) (ai b (by rw[H];simp[bD])) hv b2;have ba:=Znu (P:=p ()) (b:=b') (t:=t) (ds:=ds) (k:=k) (cs:=cs) (rest:=G) ho hw H h1 h2 h3;rw[<-h4]at ba;refine⟨.undef,S,U,undef,⟨_,I⟩,J.step h5 h6 h7,h6,h7,.undef _,?_⟩;rw[h0];exact .one ba
 ·
  rename_i ah;split at hW
  ·exact hW.elim
  rename_i g hg;refine aw hg hW (λc I=>?_) (λh=>h);split at I;case h_2=>exact I.elim
  rename_i it ar;split at I;case h_2=>exact I.elim
  rename_i id aq;obtain⟨al,Z⟩:=Qb I;obtain⟨a1,a2⟩:=Z7 al;refine⟨a1,λ{R t} J Y hw b ds k cs G=>?_⟩;have H:o.op= .next it false:=by
   unfold ZiU at ar;split at ar
   ·rename_i e;cases ar;exact e
   cases ar
  have hv:=aj Y a2 it (by rw[H];simp[bD]);have bl:strip (E it)= .mit id:=by
   unfold ZmY at aq;split at aq
   ·rename_i e;cases aq;exact e
   cases aq
  rw[bl]at hv;have he:QV t it= .pointer (some ⟨(R.α id).b,0,none⟩):=by
   generalize QV t it=u at hv;cases hv with
   |pure _ _ hp=>cases hp
   |mit _ _ _=>rfl
  have Z:NC p id h λr S=>K r S []:=Z;obtain⟨v,U,r,S,h1,h3,h4,h5,h6,h7⟩:=Z.run _ R J.hr;have hm:ZA (p ()) (λ_=>False) (execOp (QV t) o)/\(execOp (QV t) o).run (p ()) R.w= .ok (.value v) U.w:=by
   obtain⟨bk,op,ty,pos,ap,au⟩:=o;simp only at H;subst H;refine⟨QW λK=>ZnP,?_⟩;show(do let z<-Instr.next (QV t it) false ty;pure (Next.value z):Sem Next).run (p ()) R.w=_;rw[he];simp only[aQ,h1 ty,aH,bC]
  exact⟨r,S,U,v,⟨_,h7⟩,J.step h3 h4 h5,h4,h5,h6,.one (ZaP ho hw (Zbp ah (by decide)) hm.1 hm.2 (.inl rfl))⟩
 split at hW;case h_2=>exact hW.elim
 rename_i v c' hv;obtain⟨a1,a2⟩:=Z7 (hK _ _ _ hW);refine⟨a1,λR t J Y b ds k cs G=>?_⟩;obtain⟨v',S,U,u,⟨rfl,rfl⟩,h2⟩:=Zie hT (R₀:=R₀) (h₀:=h₀) ho hv a2 R t J Y b ds k cs G;exact⟨v',S,U,u,⟨_,hW⟩,h2⟩
end
end Vm
namespace Vm
open Go Conc1
def ZjA (T:Tb) (p:Unit->Program) (ops:Array Oper):List Oper->List AV->List Zi->Cd->(List AV->List Zi->Cd->Prop)->Prop
 |[],s,h,c,K=>K s h c
 |o::r,s,h,c,K=>Wop T p ops o (ev s) h c λv h c=>ZjA T p ops r (putO s o.dst v) h c K
def ZbK (P:Program) (R₀:RC) (h₀:List Zi) (ops:Array Oper) (G:List Nat) (s:List AV) (h:List Zi) (K:List AV->List Zi->Prop):Prop:=
 ∀(R:RC) (t:Array Value),Inv R₀ h₀ R h->SL R s t->∀(b:FB) (S:List Deferred) (k:List Item) (cs:List Frame),
  ∃I H A J,K I H/\Inv R₀ h₀ A H/\Xs R h A H/\R.le A/\SL A I J/\
   Steps P R.cx (ZN (mkF b t S (.inRegion ops G::k)) cs R.w) (ZN (mkF b J S k) cs A.w)
theorem SL.eok {R:RC} {s:List AV} {t:Array Value} (A:SL R s t) (ops:Array Oper) (o:Oper):EOK R ops o (Vm.ev s) t:=λx _=>A.ev x
section
variable {T:Tb} {p:Unit->Program} {R₀:RC} {h₀:List Zi}
theorem Znk (hT:T.Of (p ())) {ops:Array Oper} {K:List AV->List Zi->Cd->Prop} (V:∀s h c,K s h c->ZV c):∀(l:List Oper) (j:Nat) (s:List AV) (h:List Zi) (c:Cd),(∀m,m<l.length->ops[j+m]? =l[m]?)->ZjA T p ops l s h c K->
  ZV c/\ZbK (p ()) R₀ h₀ ops (eG j l.length) s h λs h=>∃c,K s h c
 |[],j,s,h,c,_,hW=>⟨V _ _ _ hW,λR t J A b I k cs=>⟨s,h,R,t,⟨_,hW⟩,J,Xs.refl _ _,RC.le.refl _,A,.one Ji⟩⟩
 |o::r,j,s,h,c,hl,hW=>by
  have ho:ops[j]? =some o:=by simpa using hl 0 (by simp)
  have ih:=λs h c=>Znk hT V r (j+1) s h c (λm hm=>by have:=hl (m+1) (by simpa using hm);rw[show j+1+m=j+(m+1) by omega];simpa using this);obtain⟨h1,h2⟩:=ZjB hT (R₀:=R₀) (h₀:=h₀) ho (λv h c G=>(ih _ _ _ G).1) hW;refine⟨h1,λR t J A b I k cs=>?_⟩;obtain⟨v,h',R',u,⟨c',G⟩,a1,a2,H,a4,a5⟩:=h2 R t J (A.eok ops o) b I k cs (eG (j+1) r.length);obtain⟨Y,U,Z,S,b1,b2,b3,b4,b5,b6⟩:=(ih _ _ _ G).2 R' _ a1 ((A.mono H).putO a4 o.dst) b I k cs;exact⟨Y,U,Z,S,b1,b2,a2.trans b3,H.trans b4,b5,a5.trans (YE H b6)⟩
theorem Zms (hT:T.Of (p ())) {ops:Array Oper} {K:List AV->List Zi->Cd->Prop} (A:∀s h c,K s h c->ZV c) {s:List AV} {h:List Zi} {c:Cd} (hW:ZjA T p ops ops.toList s h c K):
  ZV c/\ZbK (p ()) R₀ h₀ ops (aT ops.size) s h λs h=>∃c,K s h c:=by
 have:=Znk hT (R₀:=R₀) (h₀:=h₀) A ops.toList 0 s h c (λm hm=>by simp) hW;rw[List.range_eq_range'];simpa using this
end
def Y0 (m i:Nat):Bool:=Nat.testBit m i
def add (m i:Nat):Nat:=m|||(1<<<i)
def sub (a b:Nat):Bool:=ZK (a&&&b) a
theorem Jb (m i j:Nat):Y0 (add m i) j=(Y0 m j||decide (i=j)):=by
 simp[Y0,add,iF,Nat.one_shiftLeft,Nat.testBit_two_pow]
theorem Za4 (j:Nat):Y0 0 j=false:=by simp[Y0]
theorem ZsA {a b j:Nat} (h:sub a b=true) (A:Y0 a j=true):Y0 b j=true:=by
 have e:a&&&b=a:=ZF h;have:=iD a b j;rw[e]at this;simp only[Y0]at*;rw[A]at this;simpa using this.symm
def Zmn (e:Edge):Bool:=match e.ground with
 |.textOnly _|.gcOnly _=>false
 |_=>true
theorem Zip (e:Edge):Zmn e=Region.binds .any e:=by
 unfold Zmn Region.binds;cases e.ground<;>rfl
def aft (o:Oper):List Nat:=(o.after.toList.filter Zmn).map (·.on)
def Zhj (m:Nat):List Nat->Nat
 |[]=>m
 |i::r=>Zhj (add m i) r
theorem ZgT {j:Nat}:∀ {l:List Nat} {m:Nat},Y0 (Zhj m l) j=true↔Y0 m j=true\/j∈l
 |[],m=>by simp[Zhj]
 |i::r,m=>by
  rw[Zhj,ZgT,Jb];simp only[cX,iR,bG];constructor
  ·rintro((h|h)|h)
   ·exact .inl h
   ·exact .inr (.inl h.symm)
   exact .inr (.inr h)
  rintro(h|h|h)
  ·exact .inl (.inl h)
  ·exact .inl (.inr h.symm)
  exact .inr h
def Zhi (o:Oper):Nat:=Zhj 0 (aft o)
theorem ZdU {o:Oper} {j:Nat}:Y0 (Zhi o) j=true↔j∈aft o:=by rw[Zhi,ZgT,Za4];simp
def XA (o:Op):Bool:=match Zeq o with
 |1|2|5|6=>false
 |_=>true
def ZdI:Op->Bool
 |.load .. |.lookup .. |.entry _=>true
 |_=>false
def YK (ops:Array Oper) (d j:Nat):Bool:=match ops[j]? with
 |some o=>(match o.dst with
  |some A=>ZK A d
  |none=>false)
 |none=>false
theorem Zao {ops:Array Oper} {d j:Nat} {o:Oper} (A:ops[j]? =some o):YK ops d j=true↔o.dst=some d:=by
 unfold YK;rw[A];cases h:o.dst with
 |none=>simp[h]
 |some G=>simp[h,ZK]
def Zrq (ops:Array Oper) (j:Nat):Nat:=match ops[j]? with
 |some o=>Zhi o
 |none=>0
def Zql (ops:Array Oper):Bool:=(aT ops.size).all λi=>match ops[i]? with
 |some o=>(aft o).all (ltN · i)&&
  (match o.dst with
   |some d=>(aT ops.size).all λj=>ZK i j|| !YK ops d j
   |none=>true)&&
  (ZhY ops o).all λx=>match x with
   |.tmp d=>(aT ops.size).all λj=> !YK ops d j||Y0 (Zhi o) j||Y0 (Zrq ops j) i
   |_=>true
 |none=>true
structure ZbQ (ops:Array Oper):Prop where
 back:∀(i:Nat) (o:Oper),ops[i]? =some o->∀j∈aft o,j<i
 once:∀(i j:Nat) (o o':Oper) (d:Tmp),ops[i]? =some o->ops[j]? =some o'->o.dst=some d->o'.dst=some d->i=j
 ord:∀(i j:Nat) (o o':Oper) (d:Tmp),ops[i]? =some o->ops[j]? =some o'->.tmp d∈ZhY ops o->o'.dst=some d->j∈aft o\/i∈aft o'
theorem ZbQ.of {ops:Array Oper} (h:Zql ops=true):ZbQ ops:=by
 have H:∀i o,ops[i]? =some o->_:=λi o G=>by
  have U:i<ops.size:=(aM.1 G).1;have:=bM.1 h i (bZ.2 U);rw[G]at this;exact this
 refine⟨λi o G j S=>?_,λi j o V d G A J I=>?_,λi j o V d G A Y I=>?_⟩
 ·have:=H i o G;simp only[aS]at this;have:=bM.1 this.1.1 j S;exact ZaD this
 ·have:=H i o G;simp only[aS,J]at this;have:=bM.1 this.1.2 j (bZ.2 (aM.1 A).1);simp only[(Zao A).2 I,d9,eO]at this;exact ZF this
 have:=H i o G;simp only[aS]at this;have:=bM.1 (bM.1 this.2 _ Y) j (bZ.2 (aM.1 A).1);simp only[(Zao A).2 I,d9,Bool.false_or,cX,Zrq,A]at this;exact this.imp ZdU.1 ZdU.1
structure Pr where
 i:Nat
 o:Oper
 m:Nat
 a:Nat
 fl:Bool
def Zir (A:List Nat) (m:Nat):List Nat->Nat
 |[]=>m
 |j::r=>Zir A (add (m|||A.getD j 0) j) r
def ZiT:List Oper->Nat->List Nat->List Pr
 |[],_,_=>[]
 |o::r,i,acc=>⟨i,o,Zhi o,Zir acc 0 (aft o),XA o.op⟩::ZiT r (i+1) (acc++[Zir acc 0 (aft o)])
def ZsO (ops:Array Oper):List Pr:=ZiT ops.toList 0 []
def Ze0 (ops:Array Oper) (D:Nat->Prop):Prop:=∀i o,ops[i]? =some o->D i->∀j∈aft o,D j
theorem Ziq {G:List Nat} {D:Nat->Prop}:∀ {l:List Nat} {m:Nat},(∀j∈l,D j)->(∀j∈l,∀x,Y0 (G.getD j 0) x=true->D x)->(∀x,Y0 m x=true->D x)->∀x,Y0 (Zir G m l) x=true->D x
 |[],m,_,_,hm,x,hx=>hm x hx
 |j::l,m,h1,h2,hm,x,hx=>by
  refine Ziq (l:=l) (λj H=>h1 j (aR _ H)) (λj H=>h2 j (aR _ H)) (λy A=>?_) x hx;rw[Jb]at A;simp only[cX,iR]at A;rcases A with A|rfl
  ·have:Y0 (m|||G.getD j 0) y=(Y0 m y||Y0 (G.getD j 0) y):=by simp[Y0,iF]
   rw[this,cX]at A;rcases A with A|A
   ·exact hm y A
   exact h2 j (aU ..) y A
  exact h1 _ (aU ..)
theorem Zb9 {ops:Array Oper} (D:Nat->Prop) (V:Ze0 ops D):∀(l:List Oper) (i:Nat) (G:List Nat),(∀m,m<l.length->ops[i+m]? =l[m]?)->G.length=i->(∀j,D j->∀x,Y0 (G.getD j 0) x=true->D x)->
  ∀p∈ZiT l i G,ops[p.i]? =some p.o/\p.m=Zhi p.o/\p.fl=XA p.o.op/\((∀j∈aft p.o,D j)->∀x,Y0 p.a x=true->D x)
 |[],_,_,_,_,_,p,I=>by cases I
 |o::r,i,G,hl,hlen,hacc,p,I=>by
  have S:ops[i]? =some o:=by simpa using hl 0 (by simp)
  have H:(∀j∈aft o,D j)->∀x,Y0 (Zir G 0 (aft o)) x=true->D x:=λJ=>Ziq J (λj U=>hacc j (J j U)) (λx A=>by rw[Za4]at A;cases A);rcases bG.1 I with rfl|I
  ·exact⟨S,rfl,rfl,H⟩
  refine Zb9 D V r (i+1) _ (λm hm=>by have:=hl (m+1) (by simpa using hm);rw[show i+1+m=i+(m+1) by omega];simpa using this) (by simp[hlen]) (λj J x A=>?_) p I;rw[aA,dZ]at A;split at A
  ·exact hacc j J x (by rw[aA];exact A)
  rename_i Y;by_cases e:j=i
  ·subst e;rw[hlen,eJ]at A;exact H (λx A=>V _ _ S J x A) x A
  rw[cD (by simp;omega)]at A;simp[Za4]at A
theorem Zgl {i:Nat}:∀(l:List Oper) (A:List Nat) (m:Nat) (o:Oper),l[m]? =some o->∃p∈ZiT l i A,p.i=i+m/\p.o=o
 |[],_,_,_,h=>by cases h
 |x::r,A,0,o,h=>by
  simp only[List.getElem?_cons_zero,aD]at h;exact⟨_,aU ..,rfl,h⟩
 |x::r,A,m+1,o,h=>by
  obtain⟨p,G,I,H⟩:=Zgl (i:=i+1) r (A++[Zir A 0 (aft x)]) m o (by simpa using h);exact⟨p,aR _ G,by omega,H⟩
def evR (ops:Array Oper) (s0 s:List AV) (o:Oper):Operand->AV
 |.tmp d=>if(aft o).any (YK ops d)then ev s (.tmp d)else ev s0 (.tmp d)
 |x=>ev s x
def Zuy (s:List AV):Option Tmp->AV
 |some d=>s.getD d .undef
 |none=>.undef
def Yl (T:Tb) (ops:Array Oper) (h:List Zi):List Pr->List AV->Nat->Cd->Option (List AV×Nat×Cd)
 |[],s,done,c=>some (s,done,c)
 |p::r,s,done,c=>if p.fl&& !Y0 done p.i&&sub p.m done then(match JM T ops p.o (ev s) h with
   |some (v,c')=>Yl T ops h r (putO s p.o.dst v) (add done p.i) (c++c')
   |none=>none)
  else Yl T ops h r s done c
def ZhU:List Pr->Nat->Bool
 |[],_=>true
 |p::r,done=>(!p.fl||Y0 done p.i|| !sub p.m done)&&ZhU r done
def Yr:List Pr->Nat->List Pr
 |[],_=>[]
 |p::r,done=>if !p.fl&& !Y0 done p.i&&sub p.m done then p::Yr r done else Yr r done
def Zro:List Pr->Nat->Bool
 |[],_=>true
 |p::r,done=>Y0 done p.i&&Zro r done
def YU (T:Tb) (ops:Array Oper) (s0 s:List AV) (h:List Zi) (a done:Nat):List Pr->Option Cd
 |[]=>some []
 |p::r=>if p.fl&&Y0 done p.i&& !Y0 a p.i&&ZdI p.o.op then(match JM T ops p.o (evR ops s0 s p.o) h,YU T ops s0 s h a done r with
   |some (v,c),some c'=>some (c++(.e (λ_=>v) (λ_=>Zuy s p.o.dst)::c'))
   |_,_=>none)
  else YU T ops s0 s h a done r
structure Zho (A B:Prop):Prop where
 l:A
 r:B
def Zot {α:Type} (f:α->Prop):List α->Prop
 |[]=>True
 |[a]=>f a
 |a::l=>Zho (f a) (Zot f l)
def WD (T:Tb) (p:Unit->Program) (ops:Array Oper) (pr:List Pr) (s0:List AV) (K:List AV->List Zi->Cd->Prop):Nat->Nat->List AV->List Zi->Cd->Prop
 |0,_,_,_,_=>False
 |n+1,done,s,h,c=>(match Yl T ops h pr s done c with
  |none=>False
  |some (s,done,c)=>if ZhU pr done then(match Yr pr done with
    |[]=>if Zro pr done then K s h c else False
    |[q]=>Wop T p ops q.o (ev s) h c λv h c=>(match YU T ops s0 (putO s q.o.dst v) h q.a done pr with
     |some A=>WD T p ops pr s0 K n (add done q.i) (putO s q.o.dst v) h (c++A)
     |none=>False)
    |ps=>chk c (Zot (λq:Pr=>Wop T p ops q.o (ev s) h [] λv h c=>(match YU T ops s0 (putO s q.o.dst v) h q.a done pr with
     |some A=>WD T p ops pr s0 K n (add done q.i) (putO s q.o.dst v) h (c++A)
     |none=>False)) ps))
   else False)
def Zmt (T:Tb) (p:Unit->Program) (ops:Array Oper) (s:List AV) (h:List Zi) (c:Cd) (K:List AV->List Zi->Cd->Prop):Prop:=
 WD T p ops (ZsO ops) s K (ops.size+1) 0 s h (c++[dd λ_=>Zql ops=true])
end Vm
namespace Vm
open Go Conc1
theorem Zu2 {a b:Nat} (h:∀j,Y0 a j=true->Y0 b j=true):sub a b=true:=by
 have:a&&&b=a:=Nat.eq_of_testBit_eq λj=>by
  rw[iD];have:=h j;simp only[Y0]at this;cases ha:a.testBit j with
  |false=>rfl
  |true=>rw[this ha];rfl
 simp[sub,this,ZK]
theorem Zd9.congr {P:Program} {R₀:RC} {h₀ h:List Zi} {ops:Array Oper} {i:Nat} {o:Oper} {E A:Operand->AV} {K:AV->List Zi->Prop} (H:Zd9 P R₀ h₀ ops i o E h K) (J:∀x∈ZhY ops o,E x=A x):Zd9 P R₀ h₀ ops i o A h K:=
 λR t S I=>H R t S λx G=>by rw[J x G];exact I x G
theorem Zkv {T:Tb} {ops:Array Oper} {o:Oper} {E:Operand->AV} (h h':List Zi) (hr:ZdI o.op=false):JM T ops o E h=JM T ops o E h':=by
 have A:∀E,Zg0 T E h o.op=Zg0 T E h' o.op:=λE=>by
  unfold Zg0;split<;>first
   |rfl
   |(rename_i e;rw[e]at hr;cases hr)
 unfold JM;simp only[A]
structure CnS (ops:Array Oper) (s0 s:List AV) (done:Nat):Prop where
 cl:Ze0 ops (λi=>Y0 done i=true)
 keep:∀d:Nat,(∀(i:Nat) (o:Oper),ops[i]? =some o->o.dst=some d->Y0 done i=false)->s.getD d .undef=s0.getD d .undef
 bound:∀i,Y0 done i=true->i<ops.size
 len:s.length=s0.length
structure Ct (R₀:RC) (h₀:List Zi) (ops:Array Oper) (s0 s:List AV) (h:List Zi) (done:Nat) (D:Nat->Prop) (R:RC) (t:Array Value):Prop where
 inv:Inv R₀ h₀ R h
 sz:t.size=s.length
 sub:∀i,D i->Y0 done i=true
 ev:∀(i:Nat) (o:Oper),ops[i]? =some o->XA o.op=false->Y0 done i=true->D i
 cl:Ze0 ops D
 slotD:∀(i:Nat) (o:Oper) (d:Nat),ops[i]? =some o->o.dst=some d->D i->VR R (s.getD d .undef) (t.getD d undef)
 slot0:∀d:Nat,(∀(i:Nat) (o:Oper),ops[i]? =some o->o.dst=some d->¬D i)->VR R (s0.getD d .undef) (t.getD d undef)
def Ziy (T:Tb) (ops:Array Oper) (s0 s:List AV) (h:List Zi) (done:Nat) (D:Nat->Prop):Prop:=
 ∀(i:Nat) (o:Oper),ops[i]? =some o->XA o.op=true->Y0 done i=true->¬D i->
  ∃E v c,(∀x∈ZhY ops o,E x=evR ops s0 s o x)/\JM T ops o E h=some (v,c)/\ZV c/\∀d,o.dst=some d->d<s.length->Imp v (s.getD d .undef)
section
variable {T:Tb} {R₀:RC} {h₀:List Zi} {ops:Array Oper} {s0:List AV}
theorem Zal {o:Oper} {d:Nat}:(aft o).any (YK ops d)=true↔∃j∈aft o,∃G,ops[j]? =some G/\G.dst=some d:=by
 rw[List.any_eq_true];constructor
 ·rintro⟨j,hj,hw⟩;refine⟨j,hj,?_⟩;unfold YK at hw;split at hw
  ·rename_i G A;exact⟨G,A,(Zao A).1 (by unfold YK;rw[A];exact hw)⟩
  cases hw
 rintro⟨j,hj,G,A,hd⟩;exact⟨j,hj,(Zao A).2 hd⟩
theorem ZgZ {R:RC} {s:List AV} {t:Array Value} {x:Operand} (A:∀d,x≠ .tmp d):VR R (Vm.ev s x) (QV t x):=by
 cases x with
 |tmp i=>exact absurd rfl (A i)
 |const v=>exact Zgq v
 |global g=>exact .undef _
 |func f=>exact .fn f [] [] #[] #[] rfl rfl (λj c h=>by simp at h) (λj c h=>by simp at h)
theorem Ct.eok (J:ZbQ ops) {s:List AV} {h:List Zi} {done:Nat} {D:Nat->Prop} {R:RC} {t:Array Value} (H:Ct R₀ h₀ ops s0 s h done D R t) {i:Nat} {o:Oper} (Y:ops[i]? =some o) (hn:¬D i) (V:∀j∈aft o,D j):
  EOK R ops o (evR ops s0 s o) t:=λx hx=>by
 cases x with
 |tmp d=>
  by_cases hw:(aft o).any (YK ops d)=true
  ·simp only[evR,hw,if_true];obtain⟨j,Z,G,A,I⟩:=Zal.1 hw;exact H.slotD j G d A I (V j Z)
  simp only[evR,iP hw];refine H.slot0 d λj G A I U=>?_;rcases J.ord i j o G d Y A hx I with S|S
  ·exact hw (Zal.2 ⟨j,S,G,A,I⟩)
  exact hn (H.cl j G A U i S)
 |const v=>exact ZgZ (s:=s) (x:=.const v) (λd h=>by cases h)
 |global g=>exact ZgZ (s:=s) (x:=.global g) (λd h=>by cases h)
 |func f=>exact ZgZ (s:=s) (x:=.func f) (λd h=>by cases h)
theorem CnS.evR (G:ZbQ ops) {s:List AV} {done:Nat} (H:CnS ops s0 s done) {i:Nat} {o:Oper} (U:ops[i]? =some o) (Y:Y0 done i=false):∀x∈ZhY ops o,Vm.ev s x=Vm.evR ops s0 s o x:=λx V=>by
 cases x with
 |tmp d=>
  by_cases hw:(aft o).any (YK ops d)=true
  ·simp only[Vm.evR,hw,if_true]
  simp only[Vm.evR,iP hw];refine H.keep d λj J A S=>?_;cases hj:Y0 done j with
  |false=>rfl
  |true=>
   rcases G.ord i j o J d U A V S with I|I
   ·exact absurd (Zal.2 ⟨j,I,J,A,S⟩) hw
   have this:Y0 done i=true:=H.cl j J A hj i I;rw[Y]at this;cases this
 |_=>rfl
theorem Jm {s:List AV} {d:Option Tmp} {v:AV} {e:Nat} (A:d≠some e):(putO s d v).getD e .undef=s.getD e .undef:=by
 cases d with
 |none=>rfl
 |some d=>
  have:d≠e:=λh=>A (by rw[h]);simp[putO,aA,this]
theorem Zcl {s:List AV} {d:Nat} {v:AV} (A:d<s.length):(putO s (some d) v).getD d .undef=v:=by
 simp[putO,aA,A]
theorem YZ {s:List AV} {d:Option Tmp} {v:AV}:(putO s d v).length=s.length:=by cases d<;>simp[putO]
theorem ZkB (A:ZbQ ops) {s:List AV} {done:Nat} (I:Ze0 ops (λi=>Y0 done i=true)) {i k:Nat} {o G:Oper} (V:ops[i]? =some o) (hi:Y0 done i=true) (J:ops[k]? =some G) (U:Y0 done k=false) (v:AV) (x:Operand):
  evR ops s0 (putO s G.dst v) o x=evR ops s0 s o x:=by
 cases x with
 |tmp d=>
  by_cases hw:(aft o).any (YK ops d)=true
  ·simp only[evR,hw,if_true];obtain⟨j,Y,Z,H,S⟩:=Zal.1 hw;refine Jm λe=>?_;have:=A.once j k Z G d H J S e;subst this;have this:Y0 done j=true:=I i o V hi j Y;rw[U]at this;cases this
  simp only[evR,iP hw]
 |_=>rfl
theorem CnS.put (Z:ZbQ ops) {s:List AV} {done:Nat} (H:CnS ops s0 s done) {i:Nat} {o:Oper} (I:ops[i]? =some o) (Y:∀j∈aft o,Y0 done j=true) (v:AV):CnS ops s0 (putO s o.dst v) (add done i):=by
 refine⟨λj J G A x V=>?_,λd S=>?_,λj A=>?_,by rw[YZ];exact H.len⟩
 ·simp only[Jb,cX,iR]at A|-;rcases A with A|rfl
  ·exact .inl (H.cl j J G A x V)
  rw[I]at G;cases G;exact .inl (Y x V)
 ·rw[Jm (λe=>by have:=S i o I e;simp[Jb]at this)];exact H.keep d λj J G U=>by
   have:=S j J G U;rw[Jb]at this;simp at this;exact this.1
 simp only[Jb,cX,iR]at A;rcases A with A|rfl
 ·exact H.bound j A
 exact(aM.1 I).1
theorem Zl0 (J:ZbQ ops) {s:List AV} {h:List Zi} {done:Nat} (H:CnS ops s0 s done) {i:Nat} {o:Oper} (Z:ops[i]? =some o) (hf:XA o.op=true) (hn:Y0 done i=false) {v:AV} {c:Cd} (hv:JM T ops o (ev s) h=some (v,c)) (hc:ZV c)
  {D:Nat->Prop} {R:RC} {t:Array Value} (C:Ct R₀ h₀ ops s0 s h done D R t) (G:Ziy T ops s0 s h done D):
  Ct R₀ h₀ ops s0 (putO s o.dst v) h (add done i) D R t/\Ziy T ops s0 (putO s o.dst v) h (add done i) D:=by
 have ab:¬D i:=λhD=>by have:=C.sub i hD;rw[hn]at this;cases this
 refine⟨⟨C.inv,by rw[YZ];exact C.sz,λj I=>by rw[Jb,C.sub j I];rfl,λj U A Y I=>?_,C.cl,λj U d A S hD=>?_,C.slot0⟩,λj U A Y I ac=>?_⟩
 ·simp only[Jb,cX,iR]at I;rcases I with I|rfl
  ·exact C.ev j U A Y I
  rw[Z]at A;cases A;rw[hf]at Y;cases Y
 ·rw[Jm (λe=>ab (by have:=J.once j i U o d A Z S e;exact this▸hD))];exact C.slotD j U d A S hD
 simp only[Jb,cX,iR]at I;by_cases e:i=j
 ·subst e;rw[Z]at A;cases A;refine⟨ev s,v,c,λx hx=>?_,hv,hc,λd S V=>?_⟩
  ·rw[H.evR J Z hn x hx];cases x with
   |tmp d=>
    by_cases hw:(aft o).any (YK ops d)=true
    ·simp only[evR,hw,if_true];obtain⟨k,hk,U,A,S⟩:=Zal.1 hw;exact(Jm λe=>by have:=J.once k i U o d A Z S e;subst this;exact absurd (J.back _ _ Z _ hk) (Nat.lt_irrefl _)).symm
    simp only[evR,iP hw]
   |_=>rfl
  rw[S]at*;rw[YZ]at V;rw[Zcl V];exact Imp.refl _
 have aa:Y0 done j=true:=by
  rcases I with I|I
  ·exact I
  exact absurd I e
 obtain⟨E,v',c',h1,h2,h3,h4⟩:=G j U A Y aa ac;refine⟨E,v',c',λx hx=>(h1 x hx).trans (ZkB J H.cl A aa Z hn v x).symm,h2,h3,λd S V=>?_⟩;rw[Jm (λe'=>e (J.once i j o U d Z A e' S))];exact h4 d S (by rw[YZ]at V;exact V)
theorem Zcm (I:ZbQ ops) {h:List Zi}:∀(l:List Pr) (s:List AV) (done:Nat) (c:Cd) (S:List AV) (A:Nat) (Y:Cd),(∀p∈l,ops[p.i]? =some p.o/\p.m=Zhi p.o/\p.fl=XA p.o.op)->
  Yl T ops h l s done c=some (S,A,Y)->ZV Y->ZV c/\(CnS ops s0 s done->CnS ops s0 S A/\∀ {U:RC} {V:List Zi} {D:Nat->Prop} {R:RC} {t:Array Value},Ct U V ops s0 s h done D R t->Ziy T ops s0 s h done D->
   Ct U V ops s0 S h A D R t/\Ziy T ops s0 S h A D)
 |[],s,done,c,S,A,Y,_,hv,hc=>by
  simp only[Yl,aD,aK]at hv;obtain⟨rfl,rfl,rfl⟩:=hv;exact⟨hc,λH=>⟨H,λC G=>⟨C,G⟩⟩⟩
 |p::r,s,done,c,S,A,Y,hl,hv,hc=>by
  obtain⟨e1,e2,e3⟩:=hl p (aU ..);have Z:=λq hq=>hl q (aR _ hq);simp only[Yl]at hv;split at hv
  ·rename_i J;simp only[aS,cG]at J;obtain⟨⟨f1,f2⟩,f3⟩:=J;split at hv;case h_2=>cases hv
   rename_i v c1 aa;obtain⟨a1,a2⟩:=Zcm I r _ _ _ _ _ _ Z hv hc;obtain⟨b1,b2⟩:=Z7 a1;refine⟨b1,λH=>?_⟩;have H':=H.put I e1 (λj hj=>ZsA f3 (by rw[e2];exact ZdU.2 hj)) v;obtain⟨d1,d2⟩:=a2 H';refine⟨d1,λC G=>?_⟩;obtain⟨T',G'⟩:=Zl0 I H e1 (by rw[<-e3];exact f1) f2 aa b2 C G;exact d2 T' G'
  exact Zcm I r _ _ _ _ _ _ Z hv hc
theorem Zbo {s:List AV} {h:List Zi} {a done:Nat}:∀(l:List Pr) (c:Cd),YU T ops s0 s h a done l=some c->ZV c->∀p∈l,p.fl=true->Y0 done p.i=true->Y0 a p.i=false->ZdI p.o.op=true->
  ∃v U,JM T ops p.o (evR ops s0 s p.o) h=some (v,U)/\ZV U/\Imp v (Zuy s p.o.dst)
 |[],_,_,_,p,A=>by cases A
 |q::r,c,hv,hc,p,A=>by
  intro J I S H;simp only[YU]at hv;split at hv
  ·split at hv;case h_2=>cases hv
   rename_i v c1 c2 h1 Z;simp only[aD]at hv;subst hv;obtain⟨Y,V⟩:=Z7 hc;rcases bG.1 A with rfl|A
   ·exact⟨v,c1,h1,Y,(V _ (aU ..)).elim (λe=>by simp only at e;rw[e];exact Imp.refl _) id⟩
   exact Zbo r _ Z (λx hx=>V x (aR _ hx)) p A J I S H
  rename_i G;rcases bG.1 A with rfl|A
  ·simp[J,I,S,H]at G
  exact Zbo r _ hv hc p A J I S H
theorem ZjT {done:Nat}:∀ {l:List Pr},ZhU l done=true->∀p∈l,p.fl=true->sub p.m done=true->Y0 done p.i=true
 |[],_,p,A=>by cases A
 |q::r,h,p,A=>λG H=>by
  simp only[ZhU,aS]at h;rcases bG.1 A with rfl|A
  ·simpa [G,H]using h.1
  exact ZjT h.2 p A G H
theorem Zfa {done:Nat}:∀ {l:List Pr} {p:Pr},p∈l->p.fl=false->Y0 done p.i=false->sub p.m done=true->p∈Yr l done
 |[],_,A,_,_,_=>by cases A
 |q::r,p,A,h1,h2,h3=>by
  simp only[Yr];rcases bG.1 A with rfl|A
  ·simp[h1,h2,h3]
  have:=Zfa A h1 h2 h3;split
  ·exact aR _ this
  exact this
theorem YV {done:Nat}:∀ {l:List Pr} {p:Pr},p∈Yr l done->p∈l/\Y0 done p.i=false
 |[],_,A=>by cases A
 |q::r,p,A=>by
  simp only[Yr]at A;split at A
  ·rename_i G;rcases bG.1 A with rfl|A
   ·simp only[aS,cG]at G;exact⟨aU ..,G.1.2⟩
   exact⟨aR _ (YV A).1,(YV A).2⟩
  exact⟨aR _ (YV A).1,(YV A).2⟩
theorem Zlc {α:Type} {f:α->Prop}:∀ {l:List α},Zot f l->∀x∈l,f x
 |[],_,x,A=>by cases A
 |[a],h,x,A=>by
  rcases bG.1 A with rfl|A
  ·exact h
  cases A
 |a::b::l,h,x,A=>by
  rcases bG.1 A with rfl|A
  ·exact h.l
  exact Zlc h.r x A
theorem Ct.sl {s:List AV} {h:List Zi} {done:Nat} {D:Nat->Prop} {R:RC} {t:Array Value} (C:Ct R₀ h₀ ops s0 s h done D R t) (H:CnS ops s0 s done) (J:∀i,i<ops.size->D i):SL R s t:=by
 refine⟨C.sz,λd a U=>?_⟩;have S:s.getD d .undef=a:=by rw[aA,U];rfl
 by_cases hw:∃(i:Nat) (o:Oper),ops[i]? =some o/\o.dst=some d
 ·obtain⟨i,o,G,A⟩:=hw;rw[<-S];exact C.slotD i o d G A (J i (aM.1 G).1)
 have I:∀(i:Nat) (o:Oper),ops[i]? =some o->o.dst=some d->False:=λi o G A=>hw ⟨i,o,G,A⟩;rw[<-S,H.keep d λi o G A=>(I i o G A).elim];exact C.slot0 d λi o G A=>(I i o G A).elim
theorem Zic {t:Array Value} {d:Option Tmp} {u:Value} {e:Nat} (A:d≠some e):(Z8 t d u).getD e undef=t.getD e undef:=by
 cases d with
 |none=>rfl
 |some d=>
  have:d≠e:=λh=>A (by rw[h]);simp[Z8,aI,this]
theorem Znx {t:Array Value} {d:Option Tmp} {u:Value}:(Z8 t d u).size=t.size:=by cases d<;>simp[Z8]
theorem Ct.run (V:ZbQ ops) {s:List AV} {h h':List Zi} {done done':Nat} {D:Nat->Prop} {R R':RC} {t:Array Value} (C:Ct R₀ h₀ ops s0 s h done D R t) {i:Nat} {o:Oper} (S:ops[i]? =some o) (Z:¬D i) (hp:∀j∈aft o,D j) {s':List AV} {u:Value}
  (hi:Inv R₀ h₀ R' h') (U:R.le R') (Y:s'.length=s.length) (hs:∀d:Nat,o.dst≠some d->s'.getD d .undef=s.getD d .undef) (hv:∀d:Nat,o.dst=some d->d<s.length->VR R' (s'.getD d .undef) u)
  (J:∀j,Y0 done' j=true↔Y0 done j=true\/j=i):Ct R₀ h₀ ops s0 s' h' done' (λj=>D j\/j=i) R' (Z8 t o.dst u):=by
 have aa:∀(j:Nat) (H:Oper) (d:Nat),ops[j]? =some H->H.dst=some d->D j->o.dst≠some d:=λj H d A I hD e=>by
  have:=V.once i j o H d S A e I;subst this;exact Z hD
 refine⟨hi,by rw[Znx,Y];exact C.sz,λj G=>(J j).2 (G.imp (C.sub j) id),λj H A hf G=>?_,λj H A G x hx=>?_,λj H d A I G=>?_,λd I=>?_⟩
 ·exact((J j).1 G).imp (C.ev j H A hf) id
 ·rcases G with G|rfl
  ·exact .inl (C.cl j H A G x hx)
  rw[S]at A;cases A;exact .inl (hp x hx)
 ·rcases G with G|rfl
  ·have:=aa j H d A I G;rw[hs d this,Zic this];exact(C.slotD j H d A I G).mono U
  rw[S]at A;cases A;by_cases hlt:d<s.length
  ·have e:(Z8 t o.dst u).getD d undef=u:=by
    rw[I];simp[Z8,aI,C.sz,hlt]
   rw[e];exact hv d I hlt
  rw[aA,cD (by omega)];exact .undef _
 have:o.dst≠some d:=λe=>I i o S e (.inr rfl);rw[Zic this];exact(C.slot0 d λj H A ab G=>I j H A ab (.inl G)).mono U
end
end Vm
namespace Vm
open Go Conc1
section
variable {T:Tb} {p:Unit->Program} {R₀:RC} {h₀:List Zi} {ops:Array Oper} {s0:List AV} {K:List AV->List Zi->Cd->Prop}
def WDk (T:Tb) (p:Unit->Program) (ops:Array Oper) (pr:List Pr) (s0:List AV) (K:List AV->List Zi->Cd->Prop) (n done:Nat) (s:List AV) (q:Pr) (v:AV) (h:List Zi) (c:Cd):Prop:=
 match YU T ops s0 (putO s q.o.dst v) h q.a done pr with
 |some A=>WD T p ops pr s0 K n (add done q.i) (putO s q.o.dst v) h (c++A)
 |none=>False
theorem Zk3 {pr:List Pr} {n:Nat} (G:∀done s h c,WD T p ops pr s0 K n done s h c->ZV c) {done:Nat} {s:List AV} {q:Pr} {v:AV} {h:List Zi} {c:Cd} (A:WDk T p ops pr s0 K n done s q v h c):ZV c:=by
 unfold WDk at A;split at A
 ·exact(Z7 (G _ _ _ _ A)).1
 exact A.elim
theorem Zk4 (hT:T.Of (p ())) {pr:List Pr} {n done:Nat} {s:List AV} {h:List Zi} {c:Cd} (U:∀q∈pr,ops[q.i]? =some q.o) (hK:∀s h c,K s h c->ZV c) (ih:∀done s h c,WD T p ops pr s0 K n done s h c->ZV c) (hW:WD T p ops pr s0 K (n+1) done s h c):
  ∃I A J,Yl T ops h pr s done c=some (I,A,J)/\ZV J/\ZhU pr A=true/\(Yr pr A=[]->∃c,K I h c)/\
   ∀q∈Yr pr A,∃c',Wop T p ops q.o (ev I) h c' (WDk T p ops pr s0 K n A I q):=by
 simp only[WD]at hW;split at hW
 ·exact hW.elim
 rename_i I A J Y;refine⟨I,A,J,Y,?_⟩;split at hW;case isFalse=>exact hW.elim
 rename_i H;split at hW
 ·rename_i hr;split at hW
  ·exact⟨hK _ _ _ hW,H,λ_=>⟨_,hW⟩,λq G=>by rw[hr]at G;cases G⟩
  exact hW.elim
 ·rename_i q hr;have V:q∈pr:=(YV (done:=A) (by rw[hr];exact aU ..)).1;refine⟨(ZjB hT (R₀:=⟨default,0,0,λ_=>⟨0,0⟩,λ_=>0,λ_=>undef,λ_ _ _=>False,none⟩) (h₀:=[]) (U q V) (λv h c Z=>Zk3 ih Z) hW).1,H,λe=>(by rw[hr]at e;cases e),λq' G=>?_⟩;rw[hr]at G;rcases bG.1 G with rfl|G
  ·exact⟨_,hW⟩
  cases G
 rename_i S _;obtain⟨a1,a2⟩:=Qb hW;exact⟨a1,H,λe=>absurd e S,λq G=>⟨_,Zlc a2 q G⟩⟩
theorem ZaI {h:List Zi}:∀(l:List Pr) (s:List AV) (done:Nat) (c:Cd) (H:List AV) (A:Nat) (G:Cd),Yl T ops h l s done c=some (H,A,G)->ZV G->ZV c
 |[],s,done,c,H,A,G,hv,hc=>by
  simp only[Yl,aD,aK]at hv;obtain⟨rfl,rfl,rfl⟩:=hv;exact hc
 |p::r,s,done,c,H,A,G,hv,hc=>by
  simp only[Yl]at hv;split at hv
  ·split at hv;case h_2=>cases hv
   exact(Z7 (ZaI r _ _ _ _ _ _ hv hc)).1
  exact ZaI r _ _ _ _ _ _ hv hc
theorem Zd4 (hT:T.Of (p ())) {pr:List Pr} (G:∀q∈pr,ops[q.i]? =some q.o/\q.m=Zhi q.o/\q.fl=XA q.o.op) (H:∀s h c,K s h c->ZV c):∀(n done:Nat) (s:List AV) (h:List Zi) (c:Cd),WD T p ops pr s0 K n done s h c->ZV c
 |0,_,_,_,_,hW=>by simp only[WD]at hW
 |n+1,done,s,h,c,hW=>by
  obtain⟨U,A,V,I,S,_⟩:=Zk4 hT (λq J=>(G q J).1) H (Zd4 hT G H n) hW;exact ZaI pr s done c U A V I S
def Fin (P:Program) (R₀:RC) (h₀:List Zi) (ops:Array Oper) (K:List AV->List Zi->Cd->Prop) (R:RC) (h:List Zi) (t:Array Value) (G:List Nat):Prop:=
 ∀(b:FB) (S:List Deferred) (k:List Item) (cs:List Frame),∃I H A J,(∃c,K I H c)/\Inv R₀ h₀ A H/\Xs R h A H/\R.le A/\SL A I J/\
  Steps P R.cx (ZN (mkF b t S (.inRegion ops G::k)) cs R.w) (ZN (mkF b J S k) cs A.w)
def ZlT (ops:Array Oper) (A:Array Bool):Nat:=(aT ops.size).countP λi=> !A.getD i true
theorem ZnW {A:Array Bool} (H:A.size=ops.size) (h:ZlT ops A=0):∀i,i<ops.size->A.getD i false=true:=by
 intro i G;have:=List.countP_eq_zero.1 h i (bZ.2 G);simp only[Bool.not_eq_true,Bool.not_eq_false']at this;rw[aI,aY (by omega)]at this|-;exact this
theorem ZqH {A:Array Bool} (hs:A.size=ops.size) {i:Nat} (hi:i<ops.size) (hn:A.getD i true=false):ZlT ops (A.setIfInBounds i true)+1<=ZlT ops A:=by
 unfold ZlT;have U:∀j,j<ops.size->(A.setIfInBounds i true).getD j true=(A.getD j true||decide (i=j)):=λj G=>by
  rw[aI,aI,bS];by_cases e:i=j
  ·subst e;simp[hs,hi]
  simp[e]
 generalize S:aT ops.size=l;have H:l.Nodup:=S▸List.nodup_range;have J:i∈l:=S▸bZ.2 hi;have I:∀j∈l,j<ops.size:=λj G=>bZ.1 (S▸G);clear S;induction l with
 |nil=>cases J
 |cons x r Z=>
  rw[List.nodup_cons]at H;rw[fP,fP,U x (I x (aU ..))];rcases bG.1 J with rfl|hm
  ·have:iO (λj=> !(A.setIfInBounds i true).getD j true) r=iO (λj=> !A.getD j true) r:=List.countP_congr λj G=>by
    have Y:i≠j:=λe=>H.1 (e▸G);rw[U j (I j (aR _ G))];simp[Y]
   rw[this,hn];simp
  have V:i≠x:=λe=>H.1 (e▸hm);have:=Z H.2 hm (λj G=>I j (aR _ G));simp only[V,decide_false,eO];omega
theorem ZnI (H:ZbQ ops) {A:Array Bool} (Y:A.size=ops.size) (h:Region.ready .any ops A=[]):∀i,i<ops.size->A.getD i false=true:=by
 intro i;induction i using Nat.strongRecOn with
 |_ i V=>
  intro U;cases hl:A.getD i false with
  |true=>rfl
  |false=>
   have:i∈Region.ready .any ops A:=by
    unfold Region.ready;refine fe.2 ⟨bZ.2 U,?_⟩;have J:ops[i]? =some ops[i]:=aY U;have S:A.getD i true=false:=by
     rw[aI,aY (by omega)]at hl|-;exact hl
    rw[J,S];simp only[Bool.not_false,cI,bY,Bool.true_and];rw[ik];intro m hm;cases hb:Region.binds .any ops[i].after[m]with
    |false=>rfl
    |true=>
     have G:ops[i].after[m].on∈aft ops[i]:=bE.2 ⟨ops[i].after[m],fe.2 ⟨by simp,by rw[Zip];exact hb⟩,rfl⟩;have I:=H.back i _ J _ G;rw[V _ I (by omega)];rfl
   rw[h]at this;cases this
theorem ZnJ {A:Array Bool} {i:Nat} (h:i∈Region.ready .any ops A):i<ops.size/\A.getD i true=false/\∃o,ops[i]? =some o/\∀j∈aft o,A.getD j false=true:=by
 unfold Region.ready at h;obtain⟨Y,H⟩:=fe.1 h;have J:=bZ.1 Y;rw[aY J]at H;simp only[cI,bY,aS,cG]at H;refine⟨J,H.1,_,aY J,λj U=>?_⟩;obtain⟨e,V,rfl⟩:=bE.1 U;obtain⟨S,I⟩:=fe.1 V;rw[Zip]at I;have:=H.2;rw[ik]at this;obtain⟨m,hm,G⟩:=List.getElem_of_mem S;have:=this m (by simpa using hm);have G:ops[i].after[m]'(by simpa using hm)=e:=by simpa using G
 rw[G,I]at this;simpa using this
theorem Zn4 {A:Array Bool} {i j:Nat} (hi:i<A.size):(A.setIfInBounds i true).getD j false=true↔A.getD j false=true\/j=i:=by
 rw[aI,aI,bS];by_cases e:i=j
 ·subst e;simp[hi]
 simp only[iP e];constructor
 ·exact λh=>.inl h
 rintro(h|h)
 ·exact h
 exact absurd h.symm e
theorem Ct.congr {s:List AV} {h:List Zi} {done:Nat} {D D':Nat->Prop} {R:RC} {t:Array Value} (T:Ct R₀ h₀ ops s0 s h done D R t) (A:∀j,D' j↔D j):Ct R₀ h₀ ops s0 s h done D' R t:=by
 have:D'=D:=funext λj=>propext (A j);subst this;exact T
theorem Zxl (ab:T.Of (p ())) (I:ZbQ ops) {pr:List Pr} (bq:pr=ZsO ops) (hK:∀s h c,K s h c->ZV c):∀(n done:Nat) (s:List AV) (h:List Zi) (c:Cd),WD T p ops pr s0 K n done s h c->CnS ops s0 s done->
  ∀(H tape:Nat) (A:Array Bool) (R:RC) (t:Array Value),A.size=ops.size->Ct R₀ h₀ ops s0 s h done (λi=>A.getD i false=true) R t->Ziy T ops s0 s h done (λi=>A.getD i false=true)->
   ZlT ops A<=H->Fin (p ()) R₀ h₀ ops K R h t (Region.linearise.go .any ops H tape A []):=by
 have ao:∀(D:Nat->Prop),Ze0 ops D->∀q∈pr,ops[q.i]? =some q.o/\q.m=Zhi q.o/\q.fl=XA q.o.op/\((∀j∈aft q.o,D j)->∀x,Y0 q.a x=true->D x):=λD hD q hp=>
  Zb9 D hD ops.toList 0 [] (λm hm=>by simp) rfl (λj V x hx=>by simp[Za4]at hx) q (by rw[bq]at hp;exact hp)
 have bt:Ze0 ops λ_=>True:=λ_ _ _ _ _ _=>trivial;have J:∀q∈pr,ops[q.i]? =some q.o/\q.m=Zhi q.o/\q.fl=XA q.o.op:=λq hp=>let ⟨a,b,c,_⟩:=ao _ bt q hp;⟨a,b,c⟩;have ar:∀(i:Nat) (o:Oper),ops[i]? =some o->∃q∈pr,q.i=i/\q.o=o:=λi o U=>by
  obtain⟨q,h1,h2,h3⟩:=Zgl (i:=0) ops.toList [] i o (by simpa using U);exact⟨q,by rw[bq];exact h1,by omega,h3⟩
 intro n;induction n with
 |zero=>intro done s h c hW;simp only[WD]at hW
 |succ n b9=>
  intro done s h c hW hC H tape A R t aq bo hG cq;obtain⟨s1,G,c1,hf,cn,bx,bu,cj⟩:=Zk4 ab (λq hq=>(J q hq).1) hK (Zd4 ab J hK n) hW;obtain⟨_,Z⟩:=Zcm (s0:=s0) I pr s done c s1 G c1 J hf cn;obtain⟨C1,Z⟩:=Z hC;obtain⟨T1,G1⟩:=Z bo hG;clear bo hG Z hf hC hW;have ai:∀(A:Array Bool) (R:RC) (t:Array Value),Ct R₀ h₀ ops s0 s1 h G (λi=>A.getD i false=true) R t->(∀i,i<ops.size->A.getD i false=true)->Fin (p ()) R₀ h₀ ops K R h t []:=by
   intro A R t C hD b ds k cs;have ak:Yr pr G=[]:=by
    cases hr:Yr pr G with
    |nil=>rfl
    |cons q l=>
     obtain⟨h1,h2⟩:=YV (done:=G) (p:=q) (l:=pr) (by rw[hr];exact aU ..);have:=C.sub q.i (hD q.i (aM.1 (J q h1).1).1);rw[h2]at this;cases this
   exact⟨s1,h,R,t,bu ak,C.inv,Xs.refl _ _,RC.le.refl _,C.sl C1 hD,.one Ji⟩
  induction H generalizing tape A R t with
  |zero=>exact ai A R t T1 (ZnW aq (by omega))
  |succ H ci=>
   rw[Region.linearise.go]
   show Fin (p ()) R₀ h₀ ops K R h t (match(Region.ready .any ops A)[tape%(Region.ready .any ops A).length]? with
    |some i=>Region.linearise.go .any ops H (tape/(Region.ready .any ops A).length) (A.setIfInBounds i true) [i]
    |none=>[].reverse)
   cases hi:(Region.ready .any ops A)[tape%(Region.ready .any ops A).length]? with
   |none=>
    have ak:Region.ready .any ops A=[]:=by
     cases hr:Region.ready .any ops A with
     |nil=>rfl
     |cons x xs=>
      rw[hr]at hi;have S:tape%(x::xs).length<(x::xs).length:=Nat.mod_lt _ (by simp);rw[List.getElem?_eq_none_iff]at hi;omega
    exact ai A R t T1 (ZnI I aq ak)
   |some i=>
    obtain⟨S,au,o,U,hp⟩:=ZnJ (List.mem_of_getElem? hi);simp only[];rw[linearise_go_acc,List.reverse_singleton,List.singleton_append];have aj:¬A.getD i false=true:=by
     rw[aI,aY (by omega)]at au|-;simp only[bY]at au|-;rw[au];exact Bool.false_ne_true
    have bl:(A.setIfInBounds i true).size=ops.size:=by simpa using aq
    have ah:ZlT ops (A.setIfInBounds i true)<=H:=by have:=ZqH aq S au;omega
    have aa:∀j,(A.setIfInBounds i true).getD j false=true↔A.getD j false=true\/j=i:=λj=>Zn4 (by omega);have be:=T1.eok I U aj hp;obtain⟨q,am,rfl,rfl⟩:=ar i o U;obtain⟨_,hm,Z⟩:=J q am;have bg:sub q.m G=true:=Zu2 λj V=>T1.sub j (hp j (by rw[hm]at V;exact ZdU.1 V));intro b ds k cs;cases hff:XA q.o.op with
    |true=>
     have ae:=ZjT bx q am (by rw[Z];exact hff) bg;obtain⟨E,v,c',g1,g2,g3,g4⟩:=G1 q.i q.o U hff ae aj;obtain⟨v',h',R',u,⟨rfl,rfl⟩,a1,a2,a3,a4,a5⟩:=(Zie ab (R₀:=R₀) (h₀:=h₀) U g2 g3).congr g1 R t T1.inv be b ds k cs (Region.linearise.go .any ops H (tape/(Region.ready .any ops A).length) (A.setIfInBounds q.i true) []);have T2:=T1.run I (done':=G) (s':=s1) (u:=u) U aj hp a1 a3 rfl (λ_ _=>rfl) (λd Y S=>(g4 d Y S).f _ _ a4) (λj=>⟨.inl,λV=>V.elim id λe=>e▸ae⟩);have T2:=T2.congr (D':=λj=>(A.setIfInBounds q.i true).getD j false=true) aa;obtain⟨bc,ba,bh,aw,b1,b2,b3,b4,b5,b6⟩:=ci (tape/(Region.ready .any ops A).length) (A.setIfInBounds q.i true) R' (Z8 t q.o.dst u) bl ah T2 (λj o' ac al V ap=>G1 j o' ac al V λe=>ap ((aa j).2 (.inl e))) b ds k cs;exact⟨bc,ba,bh,aw,b1,b2,a2.trans b3,a3.trans b4,b5,a5.trans (YE a3 b6)⟩
    |false=>
     have ae:Y0 G q.i=false:=by
      cases e:Y0 G q.i with
      |false=>rfl
      |true=>exact absurd (T1.ev q.i q.o U hff e) aj
     obtain⟨cx,bw⟩:=cj q (Zfa am (by rw[Z];exact hff) ae bg);have ce:=C1.evR I U ae;obtain⟨_,bz⟩:=ZjB ab (R₀:=R₀) (h₀:=h₀) U (λv h c hk=>Zk3 (Zd4 ab J hK n) hk) bw;obtain⟨v,h',R',u,⟨c2,hk⟩,a1,a2,a3,a4,a5⟩:=bz.congr ce R t T1.inv be b ds k cs (Region.linearise.go .any ops H (tape/(Region.ready .any ops A).length) (A.setIfInBounds q.i true) []);unfold WDk at hk;split at hk;case h_2=>exact hk.elim
     rename_i c3 ck;have ca:=(Z7 (Zd4 ab J hK n _ _ _ _ hk)).2;have C2:=C1.put I U (λj V=>T1.sub j (hp j V)) v
     have T2:=T1.run I (done':=add G q.i) (s':=putO s1 q.o.dst v) (u:=u) U aj hp a1 a3 YZ (λd Y=>Jm Y) (λd Y S=>by rw[Y,Zcl S];exact a4) (λj=>by
      rw[Jb];simp only[cX,iR];exact⟨λh=>h.imp id Eq.symm,λh=>h.imp id Eq.symm⟩)
     have T2:=T2.congr (D':=λj=>(A.setIfInBounds q.i true).getD j false=true) aa;have G2:Ziy T ops s0 (putO s1 q.o.dst v) h' (add G q.i) λj=>(A.setIfInBounds q.i true).getD j false=true:=by
      intro j o' ac al V ap;have az:¬A.getD j false=true:=λe=>ap ((aa j).2 (.inl e));have bp:j≠q.i:=λe=>ap ((aa j).2 (.inr e));have a9:Y0 G j=true:=by
       rw[Jb]at V;simp only[cX,iR]at V;exact V.resolve_right λe=>bp e.symm
      have bk:∀d,o'.dst=some d->(putO s1 q.o.dst v).getD d .undef=s1.getD d .undef:=λd Y=>Jm λe=>bp (I.once j q.i o' q.o d ac U Y e);obtain⟨E,v1,c4,g1,g2,g3,g4⟩:=G1 j o' ac al a9 az;cases hrm:ZdI o'.op with
      |false=>exact⟨E,v1,c4,λx hx=>(g1 x hx).trans (ZkB I C1.cl ac a9 U ae v x).symm,by rw[Zkv h' h hrm];exact g2,g3,λd Y S=>by rw[bk d Y];exact g4 d Y (by rw[YZ]at S;exact S)⟩
      |true=>
       obtain⟨q2,bm,rfl,rfl⟩:=ar j o' ac;obtain⟨_,_,cg⟩:=J q2 bm;have cf:Y0 q.a q2.i=false:=by
        cases e:Y0 q.a q2.i with
        |false=>rfl
        |true=>exact absurd ((ao _ T1.cl q am).2.2.2 hp q2.i e) az
       obtain⟨v2,c5,k1,k2,k3⟩:=Zbo pr c3 ck ca q2 bm (by rw[cg];exact al) a9 cf hrm;exact⟨_,v2,c5,λx hx=>rfl,k1,k2,λd Y S=>by rw[Y]at k3;exact k3⟩
     obtain⟨bc,ba,bh,aw,b1,b2,b3,b4,b5,b6⟩:=b9 _ _ _ _ hk C2 H (tape/(Region.ready .any ops A).length) (A.setIfInBounds q.i true) R' (Z8 t q.o.dst u) bl T2 G2 ah b ds k cs;exact⟨bc,ba,bh,aw,b1,b2,a2.trans b3,a3.trans b4,b5,a5.trans (YE a3 b6)⟩
theorem Zit (J:T.Of (p ())) (Z:∀s h c,K s h c->ZV c) {s:List AV} {h:List Zi} {c:Cd} (hW:Zmt T p ops s h c K) (tape:Nat):ZV c/\ZbK (p ()) R₀ h₀ ops (Region.linearise .any ops tape) s h λs h=>∃c,K s h c:=by
 unfold Zmt at hW;have U:∀q∈ZsO ops,ops[q.i]? =some q.o/\q.m=Zhi q.o/\q.fl=XA q.o.op:=λq hp=>by
  obtain⟨V,S,h3,_⟩:=Zb9 (ops:=ops) (λ_=>True) (λ_ _ _ _ _ _=>trivial) ops.toList 0 [] (λm hm=>by simp) rfl (λj hj x hx=>by simp[Za4]at hx) q hp;exact⟨V,S,h3⟩
 obtain⟨V,S⟩:=Z7 (Zd4 J U Z _ _ _ _ _ hW);have Y:=ZbQ.of (S _ (aN.2 rfl));refine⟨V,λR t A hs b ds k cs=>?_⟩;have G:∀j,¬(dK ops.size false).getD j false=true:=λj=>by
  rw[aI,Array.getElem?_replicate];split<;>simp
 have H:∀(i:Nat) {p:Prop},Y0 0 i=true->p:=λi p A=>(by rw[Za4]at A;cases A);have C:CnS ops s s 0:=⟨λi o _ A=>H i A,λ_ _=>rfl,λi A=>H i A,rfl⟩;have C0:Ct R₀ h₀ ops s s h 0 (λi=>(dK ops.size false).getD i false=true) R t:=⟨A,hs.1,λi A=>absurd A (G i),λi _ _ _ A=>H i A,λi o _ A=>absurd A (G i),λi o d _ _ A=>absurd A (G i),λd _=>hs.getD d⟩;have I:ZlT ops (dK ops.size false)<=ops.size:=by
  have:=List.countP_le_length (p:=λi=> !(dK ops.size false).getD i true) (l:=aT ops.size);rw[List.length_range]at this;exact this
 exact Zxl J Y rfl Z _ _ _ _ _ hW C ops.size tape (dK ops.size false) R t (by simp) C0 (λi o _ _ A=>H i A) I b ds k cs
end
end Vm
namespace Vm
open Go Conc1
abbrev FBr (rd:Bool):={b:FB//rd=false->b.roundOf=none}
def CI (P:Program) (rd:Bool) (R₀:RC) (h₀:List Zi) (pre:List Item) (K:Ex->List AV->List Zi->Prop) (s:List AV) (h:List Zi):Prop:=
 ∀(R:RC) (t:Array Value),Inv R₀ h₀ R h->SL R s t->∀(b:FBr rd) (H:List Deferred) (k:List Item) (cs:List Frame),Zea b.1.base R₀.w.heap.size R.w H->
  ∃e I J G S A,K e I J/\Inv R₀ h₀ G J/\SL G I S/\Zea b.1.base R₀.w.heap.size G.w A/\(b.1.roundOf≠none->A=H)/\Arr P R.cx (ZN (mkF b.1 t H (pre++k)) cs R.w) b.1 k cs S A G.w e
structure LP (rd:Bool) (p:Unit->Program) (c:Code) (Q:Ex->List AV->List Zi->Prop) (s:List AV) (h:List Zi):Prop where
 run:∀(R₀:RC) (h₀:List Zi),CI (p ()) rd R₀ h₀ [.code c,.inLoop c] (λe s h=>e≠ .normal/\Q e s h) s h
structure CB (p:Unit->Program) (c:Code) (Q:Ex->List AV->List Zi->Prop) (s:List AV) (h:List Zi):Prop where
 run:∀(R₀:RC) (h₀:List Zi),CI (p ()) false R₀ h₀ [.code c] Q s h
structure XP (rd:Bool) (p:Unit->Program) (c:Code) (Q:Ex->List AV->List Zi->Prop) (s:List AV) (h:List Zi):Prop where
 run:∀(R₀:RC) (h₀:List Zi),CI (p ()) rd R₀ h₀ [.code c] Q s h
def ZgY:Nat->Code->Option Nat
 |0,_=>none
 |n+1,c=>(match c with
  |.region id _ _=>some id
  |.seq x _=>ZgY n x
  |.block _ x=>ZgY n x
  |.scope x=>ZgY n x
  |.loop x=>ZgY n x
  |_=>none)
def Zii (T:Tb):List Item->Bool
 |.code y::_=>(match T.cuts with
  |[]=>false
  |l=>(match ZgY 6 y with
   |some id=>l.any (ZK id)
   |none=>false))
 |.inBlock _::k=>Zii T k
 |.inScope _::k=>Zii T k
 |_=>false
def rsv (h:List Zi) (a:AV):AV:=match a with
 |.gsl id n=>(match h[id]? with
  |some (.fro s m f)=>.gd (λ_=>decide (n ()=m ())) (.isl s m f .none)
  |_=>.gsl id n)
 |a=>a
def Zek (T:Tb) (h:List Zi) (s:List AV):List AV:=if T.rs then s.map (rsv h)else s
theorem SL.rsv {G:Nat->Nat->Nat->Prop} {R:RC} {h:List Zi} (H:HR G R h) {s:List AV} {t:Array Value} (A:SL R s t) (T:Tb):SL R (Zek T h s) t:=by
 unfold Zek;split
 ·refine⟨by rw[List.length_map];exact A.1,λi a J=>?_⟩;rw[List.getElem?_map,Option.map_eq_some_iff]at J;obtain⟨x,hx,rfl⟩:=J;have hv:=A.2 i x hx;generalize t.getD i undef=u at hv|-;unfold Vm.rsv;split
  ·split
   ·rename_i id n _ s m f Z;cases hv with
    |pure _ _ S=>cases S
    |gsl _ _ a l c aa hn V _=>
     refine .gd _ _ _ λI=>?_;have I:=iU I;obtain⟨U,Y⟩:=H.blk id _ Z;rw[V (by rw[I,U])];exact .pure _ _ Y
   exact hv
  exact hv
 exact A
structure HP (rd:Bool) (nb:Nat) (p:Unit->Program) (k:List Item) (K:Ex->List AV->List Zi->Cd->Prop) (s:List AV) (h:List Zi):Prop where
 run:(∀e s h c,K e s h c->ZV c)->∀(R₀:RC) (h₀:List Zi),R₀.n0<=nb->CI (p ()) rd R₀ h₀ k (λe s h=>∃c,K e s h c) s h
def ZlY (T:Tb) (id:Nat):Bool:=match T.fl with
 |false=>false
 |true=>T.hand.any (ZK id)
def W (T:Tb) (p:Unit->Program) (K:Ex->List AV->List Zi->Cd->Prop):Nat->List Item->List AV->List Zi->Cd->Prop
 |0,_,_,_,_=>False
 |n+1,k,s,h,c=>(match k with
  |[]=>K .normal s h c
  |.inBlock _::k=>W T p K n k s h c
  |.inScope _::k=>W T p K n k s h c
  |.code x::k=>(match x with
   |.skip=>W T p K n k s h c
   |.label _=>W T p K n k s h c
   |.seq x y=>W T p K n (.code x:: .code y::k) s h c
   |.cond o x y=>if Zii T k then chk c (XP T.rd p (.cond o x y) (λe s h=>match e with
    |.normal=>W T p K n k s h []
    |.exit id=>(match exitTo id k with
     |some k=>W T p K n k s h []
     |none=>K (.exit id) s h [])
    |.ret=>K .ret s h []) s h)else(match strip (ev s o)with
    |.bool b=>chk (c++ZaB (ev s o)) (Br b (λ_=>W T p K n (.code x::k) s h []) (λ_=>W T p K n (.code y::k) s h []))
    |_=>False)
   |.block id x=>if Zii T k then chk c (XP T.rd p (.block id x) (λe s h=>match e with
    |.normal=>W T p K n k s h []
    |.exit id=>(match exitTo id k with
     |some k=>W T p K n k s h []
     |none=>K (.exit id) s h [])
    |.ret=>K .ret s h []) s h)else W T p K n (.code x:: .inBlock id::k) s h c
   |.scope x=>W T p K n (.code x:: .inScope x::k) s h c
   |.loop x=>if T.fl&&T.lp then chk c (HP T.rd T.nb p (.code x:: .inLoop x::k) K s h)else chk c (LP T.rd p x (λe s h=>match e with
    |.normal=>False
    |.exit id=>(match exitTo id k with
     |some k=>W T p K n k s h []
     |none=>K (.exit id) s h [])
    |.ret=>K .ret s h []) s h)
   |.exit id=>(match exitTo id k with
    |some k=>W T p K n k s h c
    |none=>K (.exit id) s h c)
   |.goto l=>(match gotoIn l k with
    |some k=>if T.fl then chk c (HP T.rd T.nb p k K s h)else False
    |none=>False)
   |.ret=>K .ret s h c
   |.region id ops d=>if ZlY T id then chk c (HP T.rd T.nb p (.code (.region id ops d)::k) K s h)else(match d with
    |false=>ZjA T p ops ops.toList s h c (λs h c=>W T p K n k (Zek T h s) h c)
    |true=>Zmt T p ops s h c (λs h c=>W T p K n k (Zek T h s) h c))
   |.rangeFunc f ps a x=>if T.rd then False else chk c (CB p (.rangeFunc f ps a x) (λe s h=>match e with
    |.normal=>W T p K n k s h []
    |.exit id=>(match exitTo id k with
     |some k=>W T p K n k s h []
     |none=>K (.exit id) s h [])
    |.ret=>K .ret s h []) s h)
   |_=>False)
  |.inLoop x::k=>if T.fl then chk c (HP T.rd T.nb p (.code x:: .inLoop x::k) K s h)else False
  |_=>False)
section
variable {P:Program} {rd:Bool} {R₀:RC} {h₀:List Zi}
theorem Zhf {R R':RC} {h h':List Zi} {m:Cf} {b:FB} {k:List Item} {cs:List Frame} {t:Array Value} {ds:List Deferred} {w:World} {e:Ex} (hi:Inv R₀ h₀ R h) (A:Inv R₀ h₀ R' h') (s:Arr P R'.cx m b k cs t ds w e):Arr P R.cx m b k cs t ds w e:=by
 rw[hi.le.cx,<-A.le.cx];exact s
theorem CI.mono {pre:List Item} {K A:Ex->List AV->List Zi->Prop} {s:List AV} {h:List Zi} (H:CI P rd R₀ h₀ pre K s h) (I:∀e s h,K e s h->A e s h):CI P rd R₀ h₀ pre A s h:=
 λR t U J b S k cs G=>let ⟨e,s',h',R',t',ds',a,r⟩:=H R t U J b S k cs G;⟨e,s',h',R',t',ds',I _ _ _ a,r⟩
theorem CI.here {pre:List Item} {K:Ex->List AV->List Zi->Prop} {s:List AV} {h:List Zi} (e:Ex) (I:K e s h) (G:∀ {cx:Option Nat} (b:FB) (t:Array Value) (A:List Deferred) (k:List Item) (cs:List Frame) (w:World),Arr P cx (ZN (mkF b t A (pre++k)) cs w) b k cs t A w e):CI P rd R₀ h₀ pre K s h:=
 λR t S J b A k cs H=>⟨e,s,h,R,t,A,I,S,J,H,λ_=>rfl,G b t A k cs R.w⟩
theorem CI.step {pre pre':List Item} {K:Ex->List AV->List Zi->Prop} {s:List AV} {h:List Zi} (H:CI P rd R₀ h₀ pre' K s h) (G:∀ {cx:Option Nat} (b:FB) (t:Array Value) (A:List Deferred) (k:List Item) (cs:List Frame) (w:World),Steps P cx (ZN (mkF b t A (pre++k)) cs w) (ZN (mkF b t A (pre'++k)) cs w)):CI P rd R₀ h₀ pre K s h:=
 λR t S J b A k cs I=>let ⟨e,s',h',R',t',ds',a1,a2,a5,a6,a7,a8⟩:=H R t S J b A k cs I;⟨e,s',h',R',t',ds',a1,a2,a5,a6,a7,Arr.of_steps (G b t A k cs R.w) a8⟩
theorem Inv.drawn {R:RC} {h:List Zi} (H:Inv R₀ h₀ R h) (n:Nat):Inv R₀ h₀ {R with w:={R.w with drawn:=n}} h/\Xs R h {R with w:={R.w with drawn:=n}} h/\R.le {R with w:={R.w with drawn:=n}}:=by
 have A:R.le {R with w:={R.w with drawn:=n}}:=⟨aJ _,λ_ _=>rfl,λ_ _=>⟨Int.le_refl _,λ_=>rfl⟩,λ_ _=>.refl _,λ_ _ _ h=>h,λ_ _ _ _ _ _=>rfl,λ_ _ _ _ h=>h,rfl⟩;have I:Xs R h {R with w:={R.w with drawn:=n}} h:=⟨rfl,rfl,rfl,rfl,aJ _,aJ _,λ_ _=>rfl,λ_ _ _ k=>k,λ_ _ _ _ _ _=>rfl,λ_ _ _=>rfl,λid blk b G J=>.inr ⟨id,blk,G,J,.inl rfl⟩⟩;exact⟨H.step ⟨H.hr.len,H.hr.okd,λid blk G=>(H.hr.blk id blk G).mono A rfl rfl rfl rfl (λ_ _=>rfl),H.hr.dis,H.hr.cl,H.hr.fresh,H.hr.tokG,H.hr.n0m⟩ I A,I,A⟩
theorem CI.region {id:Nat} {ops:Array Oper} {s:List AV} {h:List Zi} {K:List AV->List Zi->Prop} {I:Ex->List AV->List Zi->Prop} (H:ZbK P R₀ h₀ ops (aT ops.size) s h K) (U:∀s h,K s h->I .normal s h):CI P rd R₀ h₀ [.code (.region id ops false)] I s h:=
 λR t G hs b A k cs J=>by
  obtain⟨S,V,R',t',Y,Z,a3,a4,a5,a6⟩:=H R t G hs b.1 A k cs;exact⟨.normal,S,V,R',t',A,U _ _ Y,Z,a5,J.ext G.hr a3,λ_=>rfl,.head ZcA a6⟩
theorem CI.regionD (hm:P.follows .mixedOrders=true) {id:Nat} {ops:Array Oper} {s:List AV} {h:List Zi} {K:List AV->List Zi->Prop} {S:Ex->List AV->List Zi->Prop} (H:∀tape,ZbK P R₀ h₀ ops (Region.linearise .any ops tape) s h K) (Z:∀s h,K s h->S .normal s h):
  CI P rd R₀ h₀ [.code (.region id ops true)] S s h:=
 λR t I hs b G k cs U=>by
  obtain⟨A,hx,J⟩:=I.drawn (R.w.drawn+1);obtain⟨V,h',R',Y,a1,a2,a3,a4,a5,a6⟩:=H (R.w.tape R.w.drawn (.order b.1.fn id)) _ t A (hs.mono J) b.1 G k cs;refine⟨.normal,V,h',R',Y,G,Z _ _ a1,a2,a5,(U.ext I.hr hx).ext A.hr a3,λ_=>rfl,.head Zll ?_⟩;simp only[Region.schedule,hm,Bool.true_or,if_true];exact a6
theorem Jv {id:Nat}:∀ {a b:List Item},exitTo id (a++b)=match exitTo id a with
  |some k=>some (k++b)
  |none=>exitTo id b
 |[],b=>rfl
 |x::a,b=>by
  cases x with
  |inBlock i=>
   simp only[iq,exitTo];split
   ·rfl
   exact Jv
  |_=>exact Jv (a:=a)
theorem CI.rsv {T:Tb} {k:List Item} {K:Ex->List AV->List Zi->Prop} {s:List AV} {h:List Zi} (H:CI P rd R₀ h₀ k K (Zek T h s) h):CI P rd R₀ h₀ k K s h:=
 λR t A G=>H R t A (G.rsv A.hr T)
theorem CI.then {x:Item} {k:List Item} {A:List AV->List Zi->Prop} {K:Ex->List AV->List Zi->Prop} {s:List AV} {h:List Zi} (H:CI P rd R₀ h₀ [x] (λe s h=>e= .normal/\A s h) s h) (hn:∀s h,A s h->CI P rd R₀ h₀ k K s h):CI P rd R₀ h₀ (x::k) K s h:=by
 intro R t Y hs b ds V cs hd;obtain⟨e,s',h',R',t',U,⟨rfl,a1⟩,Z,a5,a6,a7,a8⟩:=H R t Y hs b ds (k++V) cs hd;obtain⟨e,S,J,aa,I,G,b1,b2,b5,b6,b7,b8⟩:=hn s' h' a1 R' t' Z a5 b U V cs a6;exact⟨e,S,J,aa,I,G,b1,b2,b5,b6,λhr=>(b7 hr).trans (a7 hr),Arr.of_steps a8 (Zhf Y Z b8)⟩
theorem CI.out {pre:List Item} {k:List Item} {Q K:Ex->List AV->List Zi->Prop} {s:List AV} {h:List Zi} (H:CI P rd R₀ h₀ pre Q s h) (hn:∀s h,Q .normal s h->CI P rd R₀ h₀ k K s h)
  (hx:∀id s h,Q (.exit id) s h->match exitTo id k with
   |some k=>CI P rd R₀ h₀ k K s h
   |none=>K (.exit id) s h) (hr:∀s h,Q .ret s h->K .ret s h):CI P rd R₀ h₀ (pre++k) K s h:=by
 intro R t hi hs b ds k' cs hd;obtain⟨e,Z,h',R',t',G,a1,I,a5,a6,a7,Y⟩:=H R t hi hs b ds (k++k') cs hd;rw[<-dU]at Y;cases e with
 |normal=>
  obtain⟨e,U,S,V,J,A,b1,b2,b5,b6,b7,b8⟩:=hn Z h' a1 R' t' I a5 b G k' cs a6;exact⟨e,U,S,V,J,A,b1,b2,b5,b6,λhr=>(b7 hr).trans (a7 hr),Arr.of_steps Y (Zhf hi I b8)⟩
 |ret=>exact⟨.ret,Z,h',R',t',G,hr _ _ a1,I,a5,a6,a7,Y⟩
 |exit id=>
  have hh:=hx id Z h' a1;obtain⟨q,q1,q2⟩:=Y;cases he:exitTo id k with
  |none=>
   rw[he]at hh;exact⟨.exit id,Z,h',R',t',G,hh,I,a5,a6,a7,q++k,λaa=>by rw[dU,q1,Jv,he],by rw[dU q];exact q2⟩
  |some k2=>
   rw[he]at hh;obtain⟨e,U,S,V,J,A,b1,b2,b5,b6,b7,b8⟩:=hh R' t' I a5 b G k' cs a6;refine⟨e,U,S,V,J,A,b1,b2,b5,b6,λhr=>(b7 hr).trans (a7 hr),Arr.of_steps (Steps.trans q2 (.one (ZmD ?_))) (Zhf hi I b8)⟩;rw[q1,Jv,he]
theorem ZaH {l:Nat}:∀ {a b k:List Item},gotoIn l a=some k->gotoIn l (a++b)=some (k++b)
 |[],_,_,h=>by cases h
 |x::a,b,k,h=>by
  cases x with
  |inScope G=>
   simp only[gotoIn,iq]at h|-;split at h
   ·rename_i A hr;cases h;simp
   rename_i hr;exact ZaH h
  |_=>exact ZaH (a:=a) h
theorem Zmu {T:Tb} {p:Unit->Program} (hT:T.Of (p ())) (hm:(p ()).follows .mixedOrders=true) (aa:T.fl=true->R₀.n0<=T.nb) {K:Ex->List AV->List Zi->Cd->Prop} (Y:∀e s h c,K e s h c->ZV c):∀(n:Nat) (k:List Item) (s:List AV) (h:List Zi) (c:Cd),W T p K n k s h c->
  ZV c/\CI (p ()) T.rd R₀ h₀ k (λe s h=>∃c,K e s h c) s h:=by
 intro n;induction n with
 |zero=>intro k s h c hW;simp only[W]at hW
 |succ n I=>
  intro k s h c hW
  have S:∀(id:Nat) (k:List Item) (s:List AV) (h:List Zi) (c:Cd),(match exitTo id k with
    |some k=>W T p K n k s h c
    |none=>K (.exit id) s h c)->(match exitTo id k with
    |some k=>CI (p ()) T.rd R₀ h₀ k (λe s h=>∃c,K e s h c) s h
    |none=>∃c,K (.exit id) s h c)/\ZV c:=λid k s h c V=>by
   cases he:exitTo id k with
   |none=>rw[he]at V;exact⟨⟨_,V⟩,Y _ _ _ _ V⟩
   |some k=>rw[he]at V;exact⟨(I _ _ _ _ V).2,(I _ _ _ _ V).1⟩
  unfold W at hW;split at hW
  ·exact⟨Y _ _ _ _ hW,CI.here .normal ⟨_,hW⟩ λ_ _ _ _ _ _=>.refl _⟩
  ·obtain⟨G,A⟩:=I _ _ _ _ hW;exact⟨G,CI.step A λ_ _ _ _ _ _=>.one Zlo⟩
  ·obtain⟨G,A⟩:=I _ _ _ _ hW;exact⟨G,CI.step A λ_ _ _ _ _ _=>.one Zln⟩
  ·split at hW
   ·obtain⟨G,A⟩:=I _ _ _ _ hW;exact⟨G,CI.step A λ_ _ _ _ _ _=>.one ZsC⟩
   ·obtain⟨G,A⟩:=I _ _ _ _ hW;exact⟨G,CI.step A λ_ _ _ _ _ _=>.one Zqa⟩
   ·obtain⟨G,A⟩:=I _ _ _ _ hW;exact⟨G,CI.step A λ_ _ _ _ _ _=>.one ZiH⟩
   ·rename_i k _ o x y;split at hW
    ·obtain⟨G,A⟩:=Qb hW;exact⟨G,CI.out (pre:=[.code (.cond o x y)]) (A.run R₀ h₀) (λs h H=>(I _ _ _ _ H).2) (λid s h H=>(S _ _ _ _ _ H).1) (λs h H=>⟨_,H⟩)⟩
    split at hW;case h_2=>exact hW.elim
    rename_i v hv;obtain⟨G,A⟩:=Qb hW;obtain⟨h3,h4⟩:=Z7 G;refine⟨h3,λR t hi hs b ds k' cs hd=>?_⟩;have hb:=(hs.ev o).strip h4;rw[hv]at hb;have hb:=hb.bool_inv;have Z:Steps (p ()) R.cx (ZN (mkF b t ds (.code (.cond o x y)::k++k')) cs R.w) (ZN (mkF b t ds (.code (if v ()then x else y)::k++k')) cs R.w):=.one (ZmE (by rw[ZcF];exact hb));cases hvv:v ()with
    |true=>
     obtain⟨e,s',h',R',t',ab,a1,a2,a5,a6,a7,a8⟩:=(I _ _ _ _ (A.t hvv)).2 R t hi hs b ds k' cs hd;rw[hvv]at Z;exact⟨e,s',h',R',t',ab,a1,a2,a5,a6,a7,Arr.of_steps Z a8⟩
    |false=>
     obtain⟨e,s',h',R',t',ab,a1,a2,a5,a6,a7,a8⟩:=(I _ _ _ _ (A.f hvv)).2 R t hi hs b ds k' cs hd;rw[hvv]at Z;exact⟨e,s',h',R',t',ab,a1,a2,a5,a6,a7,Arr.of_steps Z a8⟩
   ·rename_i k _ id x;split at hW
    ·obtain⟨G,A⟩:=Qb hW;exact⟨G,CI.out (pre:=[.code (.block id x)]) (A.run R₀ h₀) (λs h H=>(I _ _ _ _ H).2) (λid s h H=>(S _ _ _ _ _ H).1) (λs h H=>⟨_,H⟩)⟩
    obtain⟨G,A⟩:=I _ _ _ _ hW;exact⟨G,CI.step A λ_ _ _ _ _ _=>.one Zqc⟩
   ·obtain⟨G,A⟩:=I _ _ _ _ hW;exact⟨G,CI.step A λ_ _ _ _ _ _=>.one Zp7⟩
   ·rename_i k _ x;split at hW
    ·rename_i J;simp only[aS]at J;obtain⟨G,A⟩:=Qb hW;exact⟨G,CI.step (pre':=.code x:: .inLoop x::k) (A.run Y R₀ h₀ (aa J.1)) λ_ _ _ _ _ _=>.one ZmC⟩
    obtain⟨G,A⟩:=Qb hW;refine⟨G,CI.step (pre':=[.code x,.inLoop x]++k) (CI.out (A.run R₀ h₀) (λs h H=>absurd rfl H.1) (λid s h H=>(S _ _ _ _ _ H.2).1) (λs h H=>⟨_,H.2⟩)) λ_ _ _ _ _ _=>.one ZmC⟩
   ·rename_i k _ id;have V:=S _ _ _ _ _ hW;refine⟨V.2,CI.out (pre:=[.code (.exit id)]) (Q:=λe s' h'=>e= .exit id/\s'=s/\h'=h) (CI.here (.exit id) ⟨rfl,rfl,rfl⟩ λ_ _ _ _ _ _=>⟨[],λ_=>rfl,.refl _⟩) (λs h H=>by cases H.1) (λae s' h' H=>?_) (λs h H=>by cases H.1)⟩;obtain⟨e,rfl,rfl⟩:=H;cases e;exact V.1
   ·split at hW;case h_2=>exact hW.elim
    rename_i k2 hg;split at hW;case isFalse=>exact hW.elim
    rename_i J;obtain⟨G,A⟩:=Qb hW;exact⟨G,CI.step (A.run Y R₀ h₀ (aa J)) λ_ _ _ _ _ _=>.one (ZsD (ZaH hg))⟩
   ·exact⟨Y _ _ _ _ hW,CI.here .ret ⟨_,hW⟩ λ_ _ _ k _ _=>⟨_,.refl _⟩⟩
   ·split at hW
    ·rename_i J;have J:T.fl=true:=by
      unfold ZlY at J;split at J
      ·cases J
      rename_i h;exact h
     obtain⟨G,A⟩:=Qb hW;exact⟨G,A.run Y R₀ h₀ (aa J)⟩
    split at hW;case h_2=>
     exact⟨(Zit hT (R₀:=R₀) (h₀:=h₀) (λs h c U=>(I _ _ _ _ U).1) hW 0).1,CI.then (CI.regionD hm (λtape=>(Zit hT (R₀:=R₀) (h₀:=h₀) (λs h c U=>(I _ _ _ _ U).1) hW tape).2) λs h U=>⟨rfl,U⟩) λs h ⟨c,U⟩=>CI.rsv (I _ _ _ _ U).2⟩
    obtain⟨G,A⟩:=Zms hT (R₀:=R₀) (h₀:=h₀) (λs h c U=>(I _ _ _ _ U).1) hW;exact⟨G,CI.then (CI.region A λs h U=>⟨rfl,U⟩) λs h ⟨c,U⟩=>CI.rsv (I _ _ _ _ U).2⟩
   ·rename_i k _ f ps a x;split at hW
    ·exact hW.elim
    rename_i ac;have ac:T.rd=false:=by simpa using ac
    obtain⟨G,A⟩:=Qb hW;have A:=A.run R₀ h₀;rw[<-ac]at A;exact⟨G,CI.out (pre:=[.code (.rangeFunc f ps a x)]) A (λs h H=>(I _ _ _ _ H).2) (λid s h H=>(S _ _ _ _ _ H).1) (λs h H=>⟨_,H⟩)⟩
   exact hW.elim
  ·split at hW;case isFalse=>exact hW.elim
   rename_i J;obtain⟨G,A⟩:=Qb hW;exact⟨G,CI.step (A.run Y R₀ h₀ (aa J)) λ_ _ _ _ _ _=>.one ZhR⟩
  exact hW.elim
theorem HP.ofW {T:Tb} {p:Unit->Program} (hT:T.Of (p ())) (hm:(p ()).follows .mixedOrders=true) {K:Ex->List AV->List Zi->Cd->Prop} {n:Nat} {k:List Item} {s:List AV} {h:List Zi} (hW:W T p K n k s h []):HP T.rd T.nb p k K s h:=
 ⟨λG H I A=>(Zmu hT hm (λ_=>A) G n k s h [] hW).2⟩
theorem XP.mono {rd:Bool} {p:Unit->Program} {x:Code} {Q Q':Ex->List AV->List Zi->Prop} {s:List AV} {h:List Zi} (H:XP rd p x Q s h) (I:∀e s h,Q e s h->Q' e s h):XP rd p x Q' s h:=⟨λA G=>(H.run A G).mono I⟩
theorem LP.mono {rd:Bool} {p:Unit->Program} {x:Code} {Q Q':Ex->List AV->List Zi->Prop} {s:List AV} {h:List Zi} (H:LP rd p x Q s h) (I:∀e s h,Q e s h->Q' e s h):LP rd p x Q' s h:=⟨λG A=>(H.run G A).mono λe s h ⟨S,J⟩=>⟨S,I _ _ _ J⟩⟩
end
end Vm
end Go.Proofs.YtjgpiclllehgmaaGreat
