/- Lemmas. -/
import Derived.Test.YtjgpiclllehgmaaGreatML
set_option linter.all false
open Array renaming all_eq_true->ip,append_assoc->dE,getD_eq_getD_getElem?->aJ,getElem?_append_left->dG,getElem?_append_right->dZ,getElem?_eq_getElem->aZ,getElem?_eq_none->eI,getElem?_eq_some_iff->aM,getElem?_setIfInBounds->bT,mem_toList_iff->cM,replicate->dK
open Bool renaming and_eq_true->aU,not_eq_true'->cG,not_true->ef,or_eq_true->cJ,or_false->eC
open List renaming all_eq_true->bL,append_assoc->dW,cons_append->iw,countP->iS,countP_cons->fU,getD_eq_getElem?_getD->aA,getElem?_append->ee,getElem?_eq_none->cE,mem_append_left->eu,mem_cons->bG,mem_cons_of_mem->aS,mem_cons_self->aW,mem_filter->fk,mem_map->bC,mem_range->bV,mem_singleton->aN,range->aP,range'->eL
open Nat renaming le_refl->aI,lt_or_ge->fv,sub_self->fb,testBit_and->iF,testBit_or->iI
open Go.Op renaming operands->bE
open Option renaming bind_some->gM,getD_some->cA,map_some->cL
open Option.some renaming injEq->aC
open Prod.mk renaming injEq->aK
open Go.Result renaming andThen_ok->aH
open Go.Sem renaming run_bind->aR,run_pure->bD
namespace Go.Proofs.YtjgpiclllehgmaaGreat
namespace Vm
open Go Conc1
inductive Ex where
 |normal
 |exit (id:Nat)
 |ret
def Arr (P:Program) (cx:Option Nat) (m:Cf) (b:FB) (k:List Item) (cs:List Frame) (t:Array Value) (ds:List Deferred) (w:World):Ex->Prop
 |.normal=>Steps P cx m (ZL (mkF b t ds k) cs w)
 |.exit id=>∃A,(∀k,exitTo id (A++k)=exitTo id k)/\Steps P cx m (ZL (mkF b t ds (.code (.exit id)::(A++k))) cs w)
 |.ret=>∃G,Steps P cx m (ZL (mkF b t ds (.code .ret::G)) cs w)
theorem Arr.of_steps {P:Program} {cx:Option Nat} {m A:Cf} {b:FB} {k:List Item} {cs:List Frame} {t:Array Value} {ds:List Deferred} {w:World} {e:Ex} (h:Steps P cx m A) (h':Arr P cx A b k cs t ds w e):Arr P cx m b k cs t ds w e:=by
 cases e with
 |normal=>exact h.trans h'
 |exit id=>obtain⟨I,G,J⟩:=h';exact⟨I,G,h.trans J⟩
 |ret=>obtain⟨H,G⟩:=h';exact⟨H,h.trans G⟩
theorem ZvP {P:Program} {R R':RC} {m:Cf} {b:FB} {k:List Item} {cs:List Frame} {t:Array Value} {ds:List Deferred} {w:World} {e:Ex} (h:R.le R') (s:Arr P R'.cx m b k cs t ds w e):Arr P R.cx m b k cs t ds w e:=h.cx▸s
theorem Arr.pass {P:Program} {cx:Option Nat} {m:Cf} {b:FB} {x:Item} {k:List Item} {cs:List Frame} {t:Array Value} {ds:List Deferred} {w:World} {e:Ex} (J:∀id k,exitTo id (x::k)=exitTo id k) (G:e≠ .normal)
  (h:Arr P cx m b (x::k) cs t ds w e):Arr P cx m b k cs t ds w e:=by
 cases e with
 |normal=>exact absurd rfl G
 |exit id=>
  obtain⟨A,I,H⟩:=h;exact⟨A++[x],λk=>by rw[dW];exact(I _).trans (J id k),by simpa using H⟩
 |ret=>exact h
theorem YB {P:Program} {R R':RC} {a b:Cf} (h:R.le R') (s:Steps P R'.cx a b):Steps P R.cx a b:=h.cx▸s
theorem Zq8 {P:Program} {R R':RC} {f:FuncId} {vs:Array Value} {cs:List Frame} {w w':World} {v:Value} (h:R.le R') (s:Ziy P R'.cx f vs cs w v w'):Ziy P R.cx f vs cs w v w':=h.cx▸s
def Zej (base:List Deferred) (n0:Nat) (w:World) (ds:List Deferred):Prop:=
 ∃rs:List Nat,ds=rs.map (λr=>{target:=.collected r,args:= #[]})++base/\rs.Nodup/\∀r∈rs,n0<=r/\w.heap[r]? =some (.deferred (some []))
structure Inv (R₀:RC) (h₀:List Zh) (R:RC) (h:List Zh):Prop where
 hr:HR (Gof R₀ h₀) R h
 ext:Xj R₀ h₀ R h
 le:R₀.le R
 len:h₀.length=R₀.m
 st:h₀.length<=R₀.n0
theorem Inv.refl {G:Nat->Nat->Nat->Prop} {R:RC} {h:List Zh} (H:HR G R h) (A:h.length<=R.n0):Inv R h R h:=⟨H.entry,Xj.refl _ _,RC.le.refl _,H.len,A⟩
theorem Inv.step {R₀ R R':RC} {h₀ h h':List Zh} (H:Inv R₀ h₀ R h) (hr:HR (Gof R₀ h₀) R' h') (G:Xj R h R' h') (A:R.le R'):Inv R₀ h₀ R' h':=⟨hr,H.ext.trans G,H.le.trans A,H.len,H.st⟩
theorem Zej.ext {base:List Deferred} {n0:Nat} {G:Nat->Nat->Nat->Prop} {R R':RC} {h h':List Zh} {ds:List Deferred} (H:HR G R h) (hx:Xj R h R' h') (hd:Zej base n0 R.w ds):Zej base n0 R'.w ds:=by
 obtain⟨rs,h1,h2,h3⟩:=hd;refine⟨rs,h1,h2,λr hr=>⟨(h3 r hr).1,?_⟩⟩;have I:=(h3 r hr).2;rw[hx.frame r (aM.1 I).1 (λid blk hi A=>?_)]
 ·exact I
 have J:=H.blk id blk hi;cases blk with
 |cells cs=>obtain⟨arr,ty,e,_⟩:=J;rw[show(R.α id).b=r from A,I]at e;cases e
 |arr s n f=>obtain⟨arr,ty,_,e,_⟩:=J;rw[show(R.α id).b=r from A,I]at e;cases e
 |mapB m=>obtain⟨es,c,e,_⟩:=J;rw[show(R.α id).b=r from A,I]at e;cases e
 |loop s d=>obtain⟨l,e,_⟩:=J;rw[show(R.α id).b=r from A,I]at e;cases e
 |dead=>exact A
 |main=>exact A
 |gob g=>obtain⟨o,e,h1,_⟩:=J;rw[show(R.α id).b=r from A,I]at e;cases e;cases h1
 |fro s n f=>exact A
 |gar s n f=>
  obtain⟨a,l,c,S,e2,e3⟩:=A;obtain⟨_,⟨_,a3,V⟩|⟨Z,o,len,aa,arr,ty,_,_,V,U,_⟩⟩:=J
  ·rw[V]at S;cases S;omega
  rw[V]at S;cases S;rw[show Z=r from e3,I]at U;cases U
 |vgar s n f=>
  obtain⟨arr,ty,e⟩:=J.2.heap A;rw[I]at e;cases e
 |fam z s n m g=>
  obtain⟨us,hv,i,v,hu,A⟩:=A;obtain⟨_,_,ab,Y,_,ha,_⟩:=J;rw[hv]at Y;cases Y;obtain⟨arr,ty,e⟩:=(ha i v hu).heap A;rw[I]at e;cases e
 |tok s hw=>
  obtain⟨a,n,c,S,e2,e3⟩:=A;obtain⟨_,⟨_,a3,V⟩|⟨Z,o,len,aa,_,_,V,U⟩⟩:=J
  ·rw[V]at S;cases S;omega
  rw[V]at S;cases S;obtain⟨arr,ty,U,_⟩:=U e2;rw[show Z=r from e3,I]at U;cases U
structure SC (p:Unit->Program) (f:FuncId) (xs:List AV) (h:List Zh) (Post:AV->List Zh->Prop):Prop where
 enter:∃fn c,(p ()).funcs[f]? =some fn/\fn.body=some c/\(fn.name== "runtime.NumGoroutine")=false
 run:∀(G:Nat->Nat->Nat->Prop) (R:RC) (vs:Array Value),HR G R h->Yc R xs vs->
  ∀(cs:List Frame),∃v R' r h',Ziy (p ()) R.cx f vs cs R.w v R'.w/\HR G R' h'/\Xj R h R' h'/\R.le R'/\VR R' r v/\Post r h'
structure YC (p:Unit->Program) (id:Nat) (xs:List AV) (h:List Zh) (Post:AV->List Zh->Prop):Prop where
 run:∀(G:Nat->Nat->Nat->Prop) (R:RC) (vs:Array Value),HR G R h->Yc R xs vs->∃f tmps a x,(Instr.yield (R.α id).b vs).run (p ()) R.w= .ok (.round (R.α id).b f tmps a x) R.w/\
  ∀(c:Frame) (cs:List Frame),∃v R' r h',Steps (p ()) R.cx (ZL (Frame.round (R.α id).b f tmps a x .normal) (c::cs) R.w) (ZL (c.finish v) cs R'.w)/\HR G R' h'/\Xj R h R' h'/\R.le R'/\VR R' r v/\Post r h'
theorem YC.mono {p:Unit->Program} {id:Nat} {xs:List AV} {h:List Zh} {Q Q':AV->List Zh->Prop} (H:YC p id xs h Q) (J:∀r A,Q r A->Q' r A):YC p id xs h Q':=
 ⟨λG R I hr S=>let ⟨f,tmps,a,x,h1,h2⟩:=H.run G R I hr S;⟨f,tmps,a,x,h1,λc cs=>let ⟨v,R',r,A,a1,a2,a3,a4,a5,a6⟩:=h2 c cs;⟨v,R',r,A,a1,a2,a3,a4,a5,J _ _ a6⟩⟩⟩
structure NC (p:Unit->Program) (id:Nat) (h:List Zh) (Post:AV->List Zh->Prop):Prop where
 run:∀(G:Nat->Nat->Nat->Prop) (R:RC),HR G R h->∃v R' r h',(∀ty,(Instr.next (.pointer (some ⟨(R.α id).b,0,none⟩)) false ty).run (p ()) R.w= .ok v R'.w)/\HR G R' h'/\Xj R h R' h'/\R.le R'/\VR R' r v/\Post r h'
theorem NC.mono {p:Unit->Program} {id:Nat} {h:List Zh} {Q Q':AV->List Zh->Prop} (H:NC p id h Q) (I:∀r A,Q r A->Q' r A):NC p id h Q':=
 ⟨λG R hr=>let ⟨v,R',r,A,a1,a2,a3,a4,a5,a6⟩:=H.run G R hr;⟨v,R',r,A,a1,a2,a3,a4,a5,I _ _ a6⟩⟩
inductive Tg where
 |fn (f:FuncId)
 |yld (id:Nat)
 |nxt (id:Nat)
theorem SC.mono {p:Unit->Program} {f:FuncId} {xs:List AV} {h:List Zh} {Q Q':AV->List Zh->Prop} (H:SC p f xs h Q) (J:∀r A,Q r A->Q' r A):SC p f xs h Q':=
 ⟨H.enter,λG R I hr S cs=>let ⟨v,R',r,A,a1,a2,a3,a4,a5,a6⟩:=H.run G R I hr S cs;⟨v,R',r,A,a1,a2,a3,a4,a5,J _ _ a6⟩⟩
def SCt (p:Unit->Program) (t:Tg) (xs:List AV) (h:List Zh) (A:AV->List Zh->Prop):Prop:=match t with
 |.fn f=>SC p f xs h A
 |.yld id=>YC p id xs h A
 |.nxt id=>NC p id h A
theorem SCt.mono {p:Unit->Program} {t:Tg} {xs:List AV} {h:List Zh} {Q Q':AV->List Zh->Prop} (H:SCt p t xs h Q) (A:∀r G,Q r G->Q' r G):SCt p t xs h Q':=by
 cases t with
 |fn f=>exact SC.mono H A
 |yld id=>exact YC.mono H A
 |nxt id=>exact NC.mono H A
def Zp2:AV->Option (Tg×List AV×List AV)
 |.fn f a b=>some (.fn f,a,b)
 |.yld id=>some (.yld id,[],[])
 |_=>none
structure Chk (c:Cd) (G:Prop):Prop where
 c:ZW c
 g:G
structure Br (b:Unit->Bool) (A B:Unit->Prop):Prop where
 t:b ()=true->A ()
 f:b ()=false->B ()
def chk (c:Cd) (G:Prop):Prop:=match c with
 |[]=>G
 |_=>Chk c G
theorem Z9 {c:Cd} {G:Prop} (h:chk c G):ZW c/\G:=by
 unfold chk at h;split at h
 ·exact⟨Yk,h⟩
 exact⟨h.c,h.g⟩
def putO (s:List AV):Option Tmp->AV->List AV
 |some d,v=>s.set d v
 |none,_=>s
def Zey:Op->Nat
 |.alloc _|.box .. |.store .. |.makeMap .. |.mapUpdate .. |.range .. |.makeSlice .. =>1
 |.send .. =>5
 |.next _ false=>6
 |.call {callee:=.builtin .copy,.. }=>1
 |.call {callee:=.builtin .clear,.. }=>1
 |.call {callee:=.builtin .append,.. }=>1
 |.call {callee:=.value _,.. }=>2
 |.pick .. =>3
 |.buildSlice .. =>4
 |_=>0
def Zm8 (ops:Array Oper):Option (Nat×Bool)->List Operand
 |some (j,_)=>(match(ops[j]?).bind (·.dst)with
  |some d=>[.tmp d]
  |none=>[])
 |none=>[]
def ZhZ (ops:Array Oper) (o:Oper):List Operand:=o.op.operands.toList++Zm8 ops o.guard
def ZgY (ops:Array Oper) (E:Operand->AV):Option (Nat×Bool)->Option (Option (Unit->Bool))
 |none=>some none
 |some (j,w)=>(match(ops[j]?).bind (·.dst)with
  |some d=>(match E (.tmp d)with
   |.bool b=>some (some (if w then b else λ_=> !b ()))
   |.ob g b=>some (some (if w then λ_=>bif g ()then b ()else false else λ_=>bif g ()then !b ()else false))
   |_=>none)
  |none=>none)
def gdC (E:Operand->AV):List Operand->Cd
 |[]=>[]
 |x::r=>ZaK (E x)++gdC E r
def Zjt:Op->Option (Operand×List Operand)
 |.call {callee:=.value f,args,.. }=>some (f,args.toList)
 |_=>none
def Zvm (g:Unit->Bool):Cd->Cd
 |[]=>[]
 |x::r=>.i g x::Zvm g r
def gW (g:Unit->Bool):AV->AV
 |.bool b=>.ob g b
 |v=>.gd g v
def Zb3 (v:AV) (c:Cd):Option (Unit->Bool)->AV×Cd
 |none=>(v,c)
 |some g=>(gW g v,Zvm g c)
def JO (T:Tb) (ops:Array Oper) (o:Oper) (E:Operand->AV) (h:List Zh):Option (AV×Cd):=
 match ZgY ops E o.guard with
 |none=>none
 |some g=>(match Zey o.op with
  |0=>(match Zg3 T (λx=>strip (E x)) h o.op with
   |some (v,c)=>some (Zb3 v (gdC E o.op.operands.toList++c) g)
   |none=>(match g with
    |some g=>some (.undef,[dd λ_=>g ()=false])
    |none=>none))
  |3=>(match Zg3 T E h o.op with
   |some (v,c)=>some (Zb3 v c g)
   |none=>none)
  |4=>(match o.op with
   |.buildSlice t n ps=>(match Ys T (λx=>strip (E x)) t n ps.toList with
    |some v=>some (Zb3 v (gdC E o.op.operands.toList) g)
    |none=>none)
   |_=>none)
  |_=>none)
def skV (T:Tb):AV:=match T.nov with
 |true=>.ob (λ_=>false) λ_=>false
 |false=>.undef
theorem Zu7 {T:Tb} {R:RC}:VR R (skV T) undef:=by
 unfold skV;split
 ·exact .ob _ _ _ (λh=>by cases h) λ_=>rfl
 exact .undef _
def Zc8 (c:Cd) (g:Option (Unit->Bool)) (A:Cd->Prop) (B:Unit->Prop):Prop:=match g with
 |none=>A c
 |some g=>chk c (Br g (λ_=>A []) B)
def ZkR:List Zh->Nat->Option (Nat×Nat×(Unit->List Bool))
 |[],_=>none
 |.gob (.chq c l)::_,i=>some (i,c,l)
 |_::r,i=>ZkR r (i+1)
def ZjU (h:List Zh) (a b:AV):Option (List Zh×Cd):=match a,b with
 |.cch c,.bool v=>(match ZkR h 0 with
  |some (id,c',l)=>some (h.set id (.gob (.chq c' λ_=>l ()++[v ()])),[dd λ_=>c=c'])
  |none=>none)
 |_,_=>none
def ZiK:Op->Option (Operand×Operand)
 |.send c x=>some (c,x)
 |_=>none
def ZiS:Op->Option Operand
 |.next x false=>some x
 |_=>none
def Zm0:AV->Option Nat
 |.mit id=>some id
 |_=>none
def Wop (T:Tb) (p:Unit->Program) (ops:Array Oper) (o:Oper) (E:Operand->AV) (h:List Zh) (c:Cd) (K:AV->List Zh->Cd->Prop):Prop:=
 match Zey o.op with
 |1=>(match ZgY ops E o.guard with
  |none=>False
  |some g=>Zc8 c g (λc=>match ZqX T (λx=>strip (E x)) h o.op with
   |some (v,A,c')=>K v A (c++(gdC E o.op.operands.toList++c'))
   |none=>False) (λ_=>K (skV T) h []))
 |2=>(match ZgY ops E o.guard with
  |none=>False
  |some g=>Zc8 c g (λc=>match Zjt o.op with
   |some (f,xs)=>(match Zp2 (strip (E f))with
    |some (tg,a,b)=>chk (c++gdC E o.op.operands.toList) (SCt p tg (a++(xs.map λx=>strip (E x))++b) h λr A=>K r A [])
    |none=>False)
   |none=>False) (λ_=>K (skV T) h []))
 |5=>(match ZgY ops E o.guard with
  |none=>False
  |some g=>Zc8 c g (λc=>match ZiK o.op with
   |some (a,b)=>(match ZjU h (strip (E a)) (strip (E b))with
    |some (A,c')=>K .undef A (c++(gdC E o.op.operands.toList++c'))
    |none=>False)
   |none=>False) (λ_=>K (skV T) h []))
 |6=>(match ZgY ops E o.guard with
  |none=>False
  |some g=>Zc8 c g (λc=>match ZiS o.op with
   |some x=>(match Zm0 (strip (E x))with
    |some id=>chk (c++gdC E o.op.operands.toList) (SCt p (.nxt id) [] h λr A=>K r A [])
    |none=>False)
   |none=>False) (λ_=>K (skV T) h []))
 |_=>(match JO T ops o E h with
  |some (v,c')=>K v h (c++c')
  |none=>False)
section
variable {P:Program} {T:Tb} {p:Unit->Program} {R₀:RC} {h₀:List Zh}
theorem SL.ev {R:RC} {s:List AV} {t:Array Value} (A:SL R s t) (x:Operand):VR R (Vm.ev s x) (QQ t x):=by
 cases x with
 |tmp i=>exact A.getD i
 |const v=>exact Zgw v
 |global g=>exact .undef _
 |func f=>exact .fn f [] [] #[] #[] rfl rfl (λj c h=>by simp at h) (λj c h=>by simp at h)
theorem VR.strip {R:RC} {a:AV} {v:Value} (h:VR R a v) (A:ZW (ZaK a)):VR R (Vm.strip a) v:=by
 cases a with
 |gd g x=>exact h.gd_inv (A _ (aN.2 rfl))
 |ob g x=>
  rw[h.ob_inv (A _ (aN.2 rfl))];exact .pure _ _ (.bool _)
 |_=>exact h
theorem ZfV {E:Operand->AV}:∀ {l:List Operand},ZW (gdC E l)->∀x∈l,ZW (ZaK (E x))
 |[],_,x,A=>by cases A
 |y::l,h,x,A=>by
  obtain⟨G,H⟩:=Z5 h;rcases bG.1 A with rfl|A
  ·exact G
  exact ZfV H x A
theorem Zm5 {g:Unit->Bool}:∀ {c:Cd},ZW (Zvm g c)->g ()=true->ZW c
 |[],_,_=>Yk
 |p::c,h,hg=>λq A=>by
  rcases bG.1 A with rfl|A
  ·exact h _ (aW ..) hg
  exact Zm5 (c:=c) (λr hr=>h r (aS _ hr)) hg q A
theorem SL.putO {R:RC} {s:List AV} {t:Array Value} (A:SL R s t) {a:AV} {v:Value} (hv:VR R a v) (d:Option Tmp):SL R (Vm.putO s d a) (Z7 t d v):=by
 cases d with
 |none=>exact A
 |some d=>exact A.set hv d
def Zm9:Option (Unit->Bool)->Bool
 |none=>true
 |some g=>g ()
def EOK (R:RC) (ops:Array Oper) (o:Oper) (E:Operand->AV) (t:Array Value):Prop:=∀x∈ZhZ ops o,VR R (E x) (QQ t x)
theorem ZfU {R:RC} {E:Operand->AV} {t:Array Value} {ops:Array Oper} {o:Oper} {g:Option (Unit->Bool)} (Y:EOK R ops o E t) (A:ZgY ops E o.guard=some g):
  Region.wanted o (yielded ops t)=Zm9 g:=by
 have J:∀x∈Zm8 ops o.guard,VR R (E x) (QQ t x):=λx Z=>Y x (List.mem_append_right _ Z);unfold ZgY at A;unfold Region.wanted;split at A
 ·rename_i hn;simp only[aC]at A;subst A;rw[hn];rfl
 rename_i j H U;rw[U]at J|-;split at A
 ·rename_i d I;split at A
  ·rename_i b S;simp only[aC]at A;subst A;have hv:=J (.tmp d) (by simp[Zm8,I]);rw[S]at hv;have hv:t.getD d undef= .bool (b ()):=hv.bool_inv;have G:d<t.size:=by
    rcases fv d t.size with h|h
    ·exact h
    rw[aJ,eI h]at hv;cases hv
   have:yielded ops t j=some (b ()):=by
    unfold yielded;rw[I];simp only[gM];rw[aJ,aZ G,cA]at hv;rw[aZ G,hv]
   simp only[this];cases H<;>cases hbb:b ()<;>simp[Zm9,hbb]
  ·rename_i V b S;simp only[aC]at A;subst A;have hv:=J (.tmp d) (by simp[Zm8,I]);rw[S]at hv;cases hgg:V ()
   ·have hv:t.getD d undef=undef:=hv.ob_none hgg;have:yielded ops t j=none:=by
     unfold yielded;rw[I];simp only[gM];rw[aJ]at hv;cases he:t[d]? with
     |none=>rfl
     |some u=>
      rw[he,cA]at hv;subst hv;rfl
    simp only[this];cases H<;>simp[Zm9,hgg]
   have hv:t.getD d undef= .bool (b ()):=hv.ob_inv hgg;have G:d<t.size:=by
    rcases fv d t.size with h|h
    ·exact h
    rw[aJ,eI h]at hv;cases hv
   have:yielded ops t j=some (b ()):=by
    unfold yielded;rw[I];simp only[gM];rw[aJ,aZ G,cA]at hv;rw[aZ G,hv]
   simp only[this];cases H<;>cases hbb:b ()<;>simp[Zm9,hbb,hgg]
  cases A
 cases A
def Zei (P:Program) (R₀:RC) (h₀:List Zh) (ops:Array Oper) (i:Nat) (o:Oper) (E:Operand->AV) (h:List Zh) (K:AV->List Zh->Prop):Prop:=
 ∀(R:RC) (t:Array Value),Inv R₀ h₀ R h->EOK R ops o E t->∀(b:FB) (I:List Deferred) (k:List Item) (cs:List Frame) (G:List Nat),
  ∃v H A u,K v H/\Inv R₀ h₀ A H/\Xj R h A H/\R.le A/\VR A v u/\
   Steps P R.cx (ZL (mkF b t I (.inRegion ops (i::G)::k)) cs R.w) (ZL (mkF b (Z7 t o.dst u) I (.inRegion ops G::k)) cs A.w)
theorem Zbz {o:Op} {n:Nat} (h:Zey o=n) (A:n≠0):∀c,o≠ .defer c:=λc e=>by
 subst e;exact A h.symm
theorem Zie {E:Operand->AV} {h:List Zh} {o:Op} {x:AV×Cd} (hv:JJ P E h o=some x):∀c,o≠ .defer c:=λc e=>by
 subst e;simp[JJ]at hv
theorem ZsE {id:Nat} {o:Oper} {f:Operand} {xs:Array Operand} {J:Array TypeId} {t:Array Value} {R:RC} (H:o.op= .call {callee:=.value f,args:=xs,argTypes:=J})
  (G:VR R (.yld id) (QQ t f)) (A:List AV) (hy:A.length=xs.size) (U:∀j c,A[j]? =some c->VR R c ((xs.map (QQ t)).getD j undef)) (w:World):
  ∃I,(execOp (QQ t) o).run P w=(Instr.yield (R.α id).b I).run P w/\Yc R A I:=by
 have S:QQ t f= .func (.yield (R.α id).b) #[] #[]:=by
  generalize QQ t f=u at G;cases G with
  |pure _ _ Z=>cases Z
  |yld _ _=>rfl
 refine⟨xs.map (QQ t),?_,by simp[hy],U⟩;obtain⟨aa,op,ty,pos,V,Y⟩:=o;simp only at H;subst H;show((do let d<-resolve (QQ t) {callee:=.value f,args:=xs,argTypes:=J} ty;invoke d.target d.args):Sem Next).run P w=_;simp only[resolve,S,Deferred.ofValue,aR,bD,aH,invoke];simp
theorem Zj0 {fid:FuncId} {a b:List AV} {o:Oper} {f:Operand} {xs:Array Operand} {ts:Array TypeId} {t:Array Value} {R:RC} (ho:o.op= .call {callee:=.value f,args:=xs,argTypes:=ts})
  (Z:VR R (.fn fid a b) (QQ t f)) (hx:∀x∈xs,∃y,VR R y (QQ t x)) (w:World) (hE:∃fn c,P.funcs[fid]? =some fn/\fn.body=some c/\(fn.name== "runtime.NumGoroutine")=false)
  (J:List AV) (hy:J.length=xs.size) (Y:∀j c,J[j]? =some c->VR R c ((xs.map (QQ t)).getD j undef)):
  ∃G,(execOp (QQ t) o).run P w= .ok (.enter fid G) w/\Yc R (a++J++b) G:=by
 obtain⟨fn,c,e1,e2,e3⟩:=hE;have V:∃I G:Array Value,QQ t f= .func (.func fid) I G/\a.length=I.size/\b.length=G.size/\(∀j c,a[j]? =some c->VR R c (I.getD j undef))/\(∀j c,b[j]? =some c->VR R c (G.getD j undef)):=by
  generalize QQ t f=u at Z;cases Z with
  |pure _ _ hp=>cases hp
  |fn _ _ _ I G h1 h2 h3 h4=>exact⟨I,G,rfl,h1,h2,h3,h4⟩
 obtain⟨I,G,aa,S,l2,r1,r2⟩:=V;refine⟨I++xs.map (QQ t)++G,?_,?_,?_⟩
 ·have ab:∀A:Array Value,(callFunc fid A).run P w= .ok (.enter fid A) w:=λA=>by
   have ac:fn.name≠ "runtime.NumGoroutine" :=by simpa using e3
   simp[callFunc,e1,e2,ac]
  obtain⟨ak,op,ty,pos,ah,ae⟩:=o;simp only at ho;subst ho;show((do let d<-resolve (QQ t) {callee:=.value f,args:=xs,argTypes:=ts} ty;invoke d.target d.args):Sem Next).run P w=_;simp only[resolve,aa,Deferred.ofValue,aR,bD,aH,invoke,ab]
 ·simp[S,l2,hy]
 intro j c H;rw[aJ];simp only[dW]at H;rw[ee]at H;split at H
 ·rename_i U;have:=r1 j c H;rw[aJ]at this;rw[dE,dG (by omega)];exact this
 rename_i aj;rw[dE,dZ (by omega)];rw[ee]at H;split at H
 ·rename_i U;have:=Y _ c H;rw[aJ]at this;rw[dG (by simp;omega),<-S];exact this
 rename_i ai;have:=r2 _ c H;rw[aJ]at this;rw[dZ (by simp;omega)];simp only[Array.size_map,<-S,<-hy];exact this
theorem ZiH {ops:Array Oper} {i:Nat} {o:Oper} (H:ops[i]? =some o) {h:List Zh} {R:RC} {t:Array Value} {v:AV} {K:AV->List Zh->Prop} (hw:Region.wanted o (yielded ops t)=false) (hi:Inv R₀ h₀ R h) (hv:VR R v undef) (I:K v h)
  (b:FB) (ds:List Deferred) (k:List Item) (cs:List Frame) (rest:List Nat):
  ∃v G A u,K v G/\Inv R₀ h₀ A G/\Xj R h A G/\R.le A/\VR A v u/\
   Steps P R.cx (ZL (mkF b t ds (.inRegion ops (i::rest)::k)) cs R.w) (ZL (mkF b (Z7 t o.dst u) ds (.inRegion ops rest::k)) cs A.w):=by
 refine⟨v,h,R,undef,I,hi,Xj.refl _ _,RC.le.refl _,hv,.one ?_⟩;have:=Znu (P:=P) (cx:=R.cx) (b:=b) (t:=t) (ds:=ds) (k:=k) (cs:=cs) (w:=R.w) (ops:=ops) (i:=i) (rest:=rest) (by rw[H];simpa using hw);rw[H]at this;exact this
theorem ZwT {R:RC} {g:Unit->Bool} {v:AV} (A:g ()=false):VR R (gW g v) undef:=by
 unfold gW;split
 ·exact .ob _ _ _ (λh=>by rw[A]at h;cases h) λ_=>rfl
 exact .gd _ _ _ λh=>by rw[A]at h;cases h
theorem Zvn {R:RC} {g:Unit->Bool} {v:AV} {u:Value} (A:g ()=true) (h:VR R v u):VR R (gW g v) u:=by
 unfold gW;split
 ·exact .ob _ _ _ (λ_=>h.bool_inv) λh=>by rw[A]at h;cases h
 exact .gd _ _ _ λ_=>h
theorem Ziz {ops:Array Oper} {i:Nat} {o:Oper} (Z:ops[i]? =some o) {E:Operand->AV} {h:List Zh} {g:Option (Unit->Bool)} (hg:ZgY ops E o.guard=some g) {v:AV} {c:Cd} (hc:ZW (Zb3 v c g).2) (hd:∀c,o.op≠ .defer c)
  (main:ZW c->∀(R:RC) (t:Array Value),Inv R₀ h₀ R h->EOK R ops o E t->J2 R (Gof R₀ h₀) h v h ((execOp (QQ t) o).run P R.w)/\Zx P (λ_=>False) (execOp (QQ t) o)):
  Zei P R₀ h₀ ops i o E h λJ U=>J=(Zb3 v c g).1/\U=h:=by
 intro R t I Y b ds k cs aa;have hw:=ZfU Y hg;cases g with
 |none=>
  obtain⟨⟨nv,u,R',V,S,h3,A,G,h6⟩,H⟩:=main hc R t I Y;exact⟨v,h,R',u,⟨rfl,rfl⟩,I.step h3 A G,A,G,h6,.one (ZaY Z hw hd H V S)⟩
 |some g=>
  cases hgg:g ()
  ·exact ZiH (v:=gW g v) (K:=λJ U=>J=gW g v/\U=h) Z (by rw[hw];exact hgg) I (ZwT hgg) ⟨rfl,rfl⟩ b ds k cs aa
  obtain⟨⟨nv,u,R',V,S,h3,A,G,h6⟩,H⟩:=main (Zm5 hc hgg) R t I Y;exact⟨gW g v,h,R',u,⟨rfl,rfl⟩,I.step h3 A G,A,G,Zvn hgg h6,.one (ZaY Z (by rw[hw];exact hgg) hd H V S)⟩
theorem Zic (hT:T.Of P) {ops:Array Oper} {i:Nat} {o:Oper} (ho:ops[i]? =some o) {E:Operand->AV} {h:List Zh} {v:AV} {c:Cd} (hv:JO T ops o E h=some (v,c)) (G:ZW c):
  Zei P R₀ h₀ ops i o E h λH h'=>H=v/\h'=h:=by
 have ab:∀ {E':Operand->AV} {v:AV} {c:Cd},JJ P E' h o.op=some (v,c)->ZW c->∀(R:RC) (t:Array Value),Inv R₀ h₀ R h->(∀x∈o.op.operands,VR R (E' x) (QQ t x))->J2 R (Gof R₀ h₀) h v h ((execOp (QQ t) o).run P R.w)/\Zx P (λ_=>False) (execOp (QQ t) o):=by
  intro E' v c hv G R t J I;obtain⟨u,h1,h2⟩:=Zvp J.hr (ρ:=QQ t) (λ_=>rfl) I hv G;exact⟨⟨.value u,u,R,h1,.inl rfl,J.hr,Xj.refl _ _,RC.le.refl _,h2⟩,ZqV (λ_=>rfl) I hv⟩
 have S:∀ {R:RC} {t:Array Value},EOK R ops o E t->ZW (gdC E o.op.operands.toList)->∀x∈o.op.operands,VR R (strip (E x)) (QQ t x):=λI G x hx=>
  (I x (eu _ (cM.2 hx))).strip (ZfV G x (cM.2 hx))
 unfold JO at hv;split at hv
 ·cases hv
 rename_i g hg;split at hv
 ·split at hv;case h_2=>
   split at hv;case h_2=>cases hv
   rename_i g ae;simp only[aC,aK]at hv;obtain⟨rfl,rfl⟩:=hv;intro R t J I b ds k cs ac;have hw:=ZfU I hg;exact ZiH (v:=.undef) (K:=λH h'=>H= .undef/\h'=h) ho (by rw[hw];exact G _ (aN.2 rfl)) J (.undef _) ⟨rfl,rfl⟩ b ds k cs ac
  rename_i H U A;replace A:=Znb hT A;simp only[aC]at hv;have Y:(Zb3 H (gdC E o.op.operands.toList++U) g).1=v:=by rw[hv]
  have V:(Zb3 H (gdC E o.op.operands.toList++U) g).2=c:=by rw[hv]
  rw[<-Y];exact Ziz ho hg (by rw[V];exact G) (Zie A) λG R t J I=>ab A (Z5 G).2 R t J (S I (Z5 G).1)
 ·split at hv;case h_2=>cases hv
  rename_i H U A;replace A:=Znb hT A;simp only[aC]at hv;have Y:(Zb3 H U g).1=v:=by rw[hv]
  have V:(Zb3 H U g).2=c:=by rw[hv]
  rw[<-Y];exact Ziz ho hg (by rw[V];exact G) (Zie A) λG R t J I=>ab A G R t J λx hx=>I x (eu _ (cM.2 hx))
 ·rename_i Z;split at hv;case h_2=>cases hv
  rename_i tt n ps aa;split at hv;case h_2=>cases hv
  rename_i H A;replace A:=JQ hT A;simp only[aC]at hv;have Y:(Zb3 H (gdC E o.op.operands.toList) g).1=v:=by rw[hv]
  have V:(Zb3 H (gdC E o.op.operands.toList) g).2=c:=by rw[hv]
  rw[<-Y];refine Ziz ho hg (by rw[V];exact G) (Zbz Z (by decide)) λG R t J I=>?_;exact⟨ZqW (gr:=false) (E:=λx=>strip (E x)) (c:=[]) J.hr (S I G) (by rw[aa];simp only[evE,A,cL]) Yk,ZkI (gr:=false) (E:=λx=>strip (E x)) (c:=[]) (h:=h) (v:=H) (h':=h) (S I G) (by rw[aa];simp only[evE,A,cL])⟩
 cases hv
theorem ZkQ:∀ {h:List Zh} {i id:Nat} {c:Nat} {l:Unit->List Bool},ZkR h i=some (id,c,l)->i<=id/\h[id-i]? =some (Zh.gob (.chq c l))
 |[],_,_,_,_,h=>by cases h
 |b::r,i,id,c,l,h=>by
  have A:ZkR r (i+1)=some (id,c,l)->i<=id/\(b::r)[id-i]? =some (Zh.gob (.chq c l)):=λh=>by
   obtain⟨J,G⟩:=ZkQ h;refine⟨by omega,?_⟩;rw[show id-i=(id-(i+1))+1 by omega];exact G
  cases b with
  |gob g=>
   cases g with
   |chq I H=>
    simp only[ZkR,aC,aK]at h;obtain⟨rfl,rfl,rfl⟩:=h;exact⟨aI _,by rw[fb];rfl⟩
   |_=>exact A h
  |_=>exact A h
theorem ZsB {G:Nat->Nat->Nat->Prop} {R:RC} {h h':List Zh} (H:HR G R h) {a b:AV} {u v:Value} {c:Cd} (ha:VR R a u) (hb:VR R b v) (hv:ZjU h a b=some (h',c)) (hc:ZW c):
  ∃Y x ab s r I J,R.cx=some Y/\u= .chan (some Y)/\v= .bool x/\R.w.heap[Y]? =some (.chan 0 ab false s r I)/\J.w=R.w.setChan Y 0 (ab.push (.bool x)) false (s+1) r I/\HR G J h'/\Xj R h J h'/\R.le J:=by
 unfold ZjU at hv;split at hv;case h_2=>cases hv
 rename_i S x;split at hv;case h_2=>cases hv
 rename_i id c' l hq;cases hv;obtain⟨_,hi⟩:=ZkQ hq;rw[Nat.sub_zero]at hi;have e:=(Cn.out (hc _ (aN.2 rfl)));subst e;obtain⟨o,Z,hk,A,aa,s,r,I,rfl⟩:=H.blk id _ hi;obtain⟨J,hw,_,V,H',ac,U⟩:=H.upd hi rfl (blk':=.gob (.chq S λ_=>l ()++[x ()])) rfl (R.w.setChan S 0 (((l ()).map Value.bool).toArray.push (.bool (x ()))) false (s+1) r I) rfl rfl rfl (by simp[World.setChan])
  (λb hb=>by
   show(R.w.heap.setIfInBounds S _)[b]? =_
   rw[Array.getElem?_setIfInBounds_ne (by rw[<-A];exact Ne.symm hb)]) (λJ U V hw=>⟨.chan 0 (((l ()).map Value.bool).toArray.push (.bool (x ()))) false (s+1) r I,by
   rw[hw,V,A];show(R.w.heap.setIfInBounds S _)[S]? =_;rw[A]at Z
   rw[Array.getElem?_setIfInBounds_self_of_lt (aM.1 Z).1],rfl,by rw[V];exact A,U.cx.trans aa,s+1,r,I,by simp⟩)
 refine⟨S,x (),_,s,r,I,J,aa,?_,hb.bool_inv,by rw[A]at Z;exact Z,hw,H',ac,U⟩;cases ha with
 |pure _ _ hp=>cases hp;rfl
theorem ZjF (hT:T.Of (p ())) {ops:Array Oper} {i:Nat} {o:Oper} (ho:ops[i]? =some o) {E:Operand->AV} {h:List Zh} {c:Cd} {K:AV->List Zh->Cd->Prop} (hK:∀v h c,K v h c->ZW c) (hW:Wop T p ops o E h c K):
  ZW c/\Zei (p ()) R₀ h₀ ops i o E h λv h=>∃c,K v h c:=by
 unfold Wop at hW
 have a9:∀ {g:Option (Unit->Bool)} {A:Cd->Prop} {B:Unit->Prop},ZgY ops E o.guard=some g->Zc8 c g A B->(∀c,A c->ZW c/\∀ {R:RC} {t:Array Value},Inv R₀ h₀ R h->EOK R ops o E t->Region.wanted o (yielded ops t)=true->
    ∀(b:FB) (ds:List Deferred) (k:List Item) (cs:List Frame) (G:List Nat),
    ∃v S U u,(∃c,K v S c)/\Inv R₀ h₀ U S/\Xj R h U S/\R.le U/\VR U v u/\
     Steps (p ()) R.cx (ZL (mkF b t ds (.inRegion ops (i::G)::k)) cs R.w) (ZL (mkF b (Z7 t o.dst u) ds (.inRegion ops G::k)) cs U.w))->
   (B ()->K (skV T) h [])->ZW c/\Zei (p ()) R₀ h₀ ops i o E h λv h=>∃c,K v h c:=by
  intro g A B hg bc I hB;unfold Zc8 at bc;split at bc
  ·obtain⟨h1,h2⟩:=I c bc;exact⟨h1,λR t J Y=>h2 J Y (ZfU Y hg)⟩
  rename_i g;obtain⟨h1,h2⟩:=Z9 bc;refine⟨h1,λR t J Y b ds k cs G=>?_⟩;have hw:=ZfU Y hg;cases hgg:g ()
  ·exact ZiH (v:=skV T) (K:=λv h=>∃c,K v h c) ho (by rw[hw];exact hgg) J Zu7 ⟨_,hB (h2.f hgg)⟩ b ds k cs G
  exact(I [] (h2.t hgg)).2 J Y (by rw[hw];exact hgg) b ds k cs G
 have aj:∀ {R:RC} {t:Array Value},EOK R ops o E t->ZW (gdC E o.op.operands.toList)->∀x∈o.op.operands,VR R (strip (E x)) (QQ t x):=λhE hc x hx=>
  (hE x (eu _ (cM.2 hx))).strip (ZfV hc x (cM.2 hx))
 split at hW
 ·
  rename_i ah;split at hW
  ·exact hW.elim
  rename_i g hg;refine a9 hg hW (λc I=>?_) (λh=>h);split at I;case h_2=>exact I.elim
  rename_i v S c' hv;replace hv:=Ztb hT hv;obtain⟨a1,a2⟩:=Z5 (hK _ _ _ I);refine⟨a1,λ{R t} J Y hw b ds k cs G=>?_⟩;obtain⟨b1,b2⟩:=Z5 a2;obtain⟨nv,u,U,h1,h2,h3,h4,h5,h6⟩:=ZqW (E:=λx=>strip (E x)) J.hr (ρ:=QQ t) (aj Y b1) hv b2;exact⟨v,S,U,u,⟨_,I⟩,J.step h3 h4 h5,h4,h5,h6,.one (ZaY ho hw (Zbz ah (by decide)) (ZkI (E:=λx=>strip (E x)) (aj Y b1) hv) h1 h2)⟩
 ·
  split at hW
  ·exact hW.elim
  rename_i g hg;refine a9 hg hW (λc I=>?_) (λh=>h);split at I;case h_2=>exact I.elim
  rename_i f xs ab;split at I;case h_2=>exact I.elim
  rename_i tg a b V;obtain⟨am,Z⟩:=Z9 I;obtain⟨a1,a2⟩:=Z5 am;refine⟨a1,λ{R t} J Y hw b' ds k cs G=>?_⟩;obtain⟨ac,ts,H,rfl⟩:∃(ac:Array Operand) (ts:Array TypeId),o.op= .call {callee:=.value f,args:=ac,argTypes:=ts}/\xs=ac.toList:=by
   unfold Zjt at ab;split at ab
   ·rename_i f' bh b9 bx;simp only[aC,aK]at ab;obtain⟨rfl,rfl⟩:=ab;exact⟨bh,b9,bx,rfl⟩
   cases ab
  have ai:=aj Y a2;have bw:f∈o.op.operands:=by rw[H];simp[bE,Call.operands]
  have bm:∀x∈ac,x∈o.op.operands:=λx hx=>by rw[H];simp[bE,Call.operands,hx]
  have ae:=ai f bw;obtain⟨l1,r1⟩:=Ze0 (E:=λx=>strip (E x)) (ρ:=QQ t) (xs:=ac) (R:=R) (λx hx=>ai x (bm x hx));have bk:∀c,o.op≠ .defer c:=λc e=>by rw[H]at e;cases e
  cases tg with
  |nxt id=>
   unfold Zp2 at V;split at V<;>cases V
  |yld id=>
   obtain⟨he,rfl,rfl⟩:strip (E f)= .yld id/\a=[]/\b=[]:=by
    unfold Zp2 at V;split at V
    ·cases V
    ·rename_i he;simp only[aC,aK,Tg.yld.injEq]at V;obtain⟨rfl,rfl,rfl⟩:=V;exact⟨he,rfl,rfl⟩
    cases V
   rw[he]at ae;obtain⟨vs,ao,aq⟩:=ZsE (P:=p ()) H ae (ac.toList.map λx=>strip (E x)) (by simp) r1 R.w;obtain⟨ca,ce,cf,cg,bq,bu⟩:=Z.run _ R vs J.hr (by simpa using aq);have bt:Zx (p ()) (λ_=>False) (execOp (QQ t) o):=by
    have ak:QQ t f= .func (.yield (R.α id).b) #[] #[]:=by
     generalize QQ t f=u at ae;cases ae with
     |pure _ _ hp=>cases hp
     |yld _ _=>rfl
    obtain⟨bo,op,ty,pos,ar,az⟩:=o;simp only at H;subst H;exact ZlP ak
   obtain⟨v,U,r,S,aa,h3,h4,h5,h6,h7⟩:=bu (mkF b' t ds (.inRegion ops (i::G)::k)) cs;refine⟨r,S,U,v,⟨_,h7⟩,J.step h3 h4 h5,h4,h5,h6,.head (Zls ho hw bk bt (ao.trans bq)) ?_⟩;rw[XA,ho]at aa;exact aa
  |fn bl=>
  have V:strip (E f)= .fn bl a b:=by
   unfold Zp2 at V;split at V
   ·rename_i he;simp only[aC,aK,Tg.fn.injEq]at V;obtain⟨rfl,rfl,rfl⟩:=V;exact he
   ·cases V
   cases V
  rw[V]at ae;have Z:SC p bl (a++(ac.toList.map λx=>strip (E x))++b) h λr S=>K r S []:=Z;obtain⟨vs,ao,aq⟩:=Zj0 (P:=p ()) H ae (λx hx=>⟨_,ai x (bm x hx)⟩) R.w Z.enter (ac.toList.map λx=>strip (E x)) (by simp) r1;have bk:∀c,o.op≠ .defer c:=λc e=>by rw[H]at e;cases e
  have bz:Zx (p ()) (λ_=>False) (execOp (QQ t) o):=by
   obtain⟨fn,c,e1,e2,e3⟩:=Z.enter;have ak:∃us vs:Array Value,QQ t f= .func (.func bl) us vs:=by
    generalize QQ t f=u at ae;cases ae with
    |pure _ _ hp=>cases hp
    |fn _ _ _ us vs _ _ _ _=>exact⟨us,vs,rfl⟩
   obtain⟨us,vs,ak⟩:=ak;obtain⟨bo,op,ty,pos,ar,az⟩:=o;simp only at H;subst H;exact ZgE ak e1 e2 e3
  obtain⟨v,U,r,S,aa,h3,h4,h5,h6,h7⟩:=Z.run _ R vs J.hr aq (mkF b' t ds (.inRegion ops (i::G)::k)::cs);have aa:=aa.call;refine⟨r,S,U,v,⟨_,h7⟩,J.step h3 h4 h5,h4,h5,h6,.head (Znw ho hw bk bz ao) ?_⟩;rw[XA,ho]at aa;exact aa
 ·
  rename_i ah;split at hW
  ·exact hW.elim
  rename_i g hg;refine a9 hg hW (λc I=>?_) (λh=>h);split at I;case h_2=>exact I.elim
  rename_i a b ba;split at I;case h_2=>exact I.elim
  rename_i S c' hv;obtain⟨a1,a2⟩:=Z5 (hK _ _ _ I);refine⟨a1,λ{R t} J Y hw b' ds k cs G=>?_⟩;obtain⟨b1,b2⟩:=Z5 a2;have H:o.op= .send a b:=by
   unfold ZiK at ba;split at ba
   ·rename_i e;cases ba;exact e
   cases ba
  have ai:=aj Y b1;obtain⟨ch,x,ci,s,r,tm,U,h0,h1,h2,h3,h4,h5,h6,h7⟩:=ZsB J.hr (ai a (by rw[H];simp[bE])) (ai b (by rw[H];simp[bE])) hv b2;have bg:=Znv (P:=p ()) (b:=b') (t:=t) (ds:=ds) (k:=k) (cs:=cs) (rest:=G) ho hw H h1 h2 h3;rw[<-h4]at bg;refine⟨.undef,S,U,undef,⟨_,I⟩,J.step h5 h6 h7,h6,h7,.undef _,?_⟩;rw[h0];exact .one bg
 ·
  rename_i ah;split at hW
  ·exact hW.elim
  rename_i g hg;refine a9 hg hW (λc I=>?_) (λh=>h);split at I;case h_2=>exact I.elim
  rename_i it aw;split at I;case h_2=>exact I.elim
  rename_i id au;obtain⟨am,Z⟩:=Z9 I;obtain⟨a1,a2⟩:=Z5 am;refine⟨a1,λ{R t} J Y hw b ds k cs G=>?_⟩;have H:o.op= .next it false:=by
   unfold ZiS at aw;split at aw
   ·rename_i e;cases aw;exact e
   cases aw
  have hv:=aj Y a2 it (by rw[H];simp[bE]);have bp:strip (E it)= .mit id:=by
   unfold Zm0 at au;split at au
   ·rename_i e;cases au;exact e
   cases au
  rw[bp]at hv;have he:QQ t it= .pointer (some ⟨(R.α id).b,0,none⟩):=by
   generalize QQ t it=u at hv;cases hv with
   |pure _ _ hp=>cases hp
   |mit _ _ _=>rfl
  have Z:NC p id h λr S=>K r S []:=Z;obtain⟨v,U,r,S,h1,h3,h4,h5,h6,h7⟩:=Z.run _ R J.hr;have hm:Zx (p ()) (λ_=>False) (execOp (QQ t) o)/\(execOp (QQ t) o).run (p ()) R.w= .ok (.value v) U.w:=by
   obtain⟨bo,op,ty,pos,ar,az⟩:=o;simp only at H;subst H;refine⟨QS λK=>ZnP,?_⟩;show(do let z<-Instr.next (QQ t it) false ty;pure (Next.value z):Sem Next).run (p ()) R.w=_;rw[he];simp only[aR,h1 ty,aH,bD]
  exact⟨r,S,U,v,⟨_,h7⟩,J.step h3 h4 h5,h4,h5,h6,.one (ZaY ho hw (Zbz ah (by decide)) hm.1 hm.2 (.inl rfl))⟩
 split at hW;case h_2=>exact hW.elim
 rename_i v c' hv;obtain⟨a1,a2⟩:=Z5 (hK _ _ _ hW);refine⟨a1,λR t J Y b ds k cs G=>?_⟩;obtain⟨v',S,U,u,⟨rfl,rfl⟩,h2⟩:=Zic hT (R₀:=R₀) (h₀:=h₀) ho hv a2 R t J Y b ds k cs G;exact⟨v',S,U,u,⟨_,hW⟩,h2⟩
end
end Vm
namespace Vm
open Go Conc1
def ZjE (T:Tb) (p:Unit->Program) (ops:Array Oper):List Oper->List AV->List Zh->Cd->(List AV->List Zh->Cd->Prop)->Prop
 |[],s,h,c,K=>K s h c
 |o::r,s,h,c,K=>Wop T p ops o (ev s) h c λv h c=>ZjE T p ops r (putO s o.dst v) h c K
def ZbT (P:Program) (R₀:RC) (h₀:List Zh) (ops:Array Oper) (G:List Nat) (s:List AV) (h:List Zh) (K:List AV->List Zh->Prop):Prop:=
 ∀(R:RC) (t:Array Value),Inv R₀ h₀ R h->SL R s t->∀(b:FB) (S:List Deferred) (k:List Item) (cs:List Frame),
  ∃I H A J,K I H/\Inv R₀ h₀ A H/\Xj R h A H/\R.le A/\SL A I J/\
   Steps P R.cx (ZL (mkF b t S (.inRegion ops G::k)) cs R.w) (ZL (mkF b J S k) cs A.w)
theorem SL.eok {R:RC} {s:List AV} {t:Array Value} (A:SL R s t) (ops:Array Oper) (o:Oper):EOK R ops o (Vm.ev s) t:=λx _=>A.ev x
section
variable {T:Tb} {p:Unit->Program} {R₀:RC} {h₀:List Zh}
theorem Znj (hT:T.Of (p ())) {ops:Array Oper} {K:List AV->List Zh->Cd->Prop} (V:∀s h c,K s h c->ZW c):∀(l:List Oper) (j:Nat) (s:List AV) (h:List Zh) (c:Cd),(∀m,m<l.length->ops[j+m]? =l[m]?)->ZjE T p ops l s h c K->
  ZW c/\ZbT (p ()) R₀ h₀ ops (eL j l.length) s h λs h=>∃c,K s h c
 |[],j,s,h,c,_,hW=>⟨V _ _ _ hW,λR t J A b I k cs=>⟨s,h,R,t,⟨_,hW⟩,J,Xj.refl _ _,RC.le.refl _,A,.one Jk⟩⟩
 |o::r,j,s,h,c,hl,hW=>by
  have ho:ops[j]? =some o:=by simpa using hl 0 (by simp)
  have ih:=λs h c=>Znj hT V r (j+1) s h c (λm hm=>by have:=hl (m+1) (by simpa using hm);rw[show j+1+m=j+(m+1) by omega];simpa using this);obtain⟨h1,h2⟩:=ZjF hT (R₀:=R₀) (h₀:=h₀) ho (λv h c G=>(ih _ _ _ G).1) hW;refine⟨h1,λR t J A b I k cs=>?_⟩;obtain⟨v,h',R',u,⟨c',G⟩,a1,a2,H,a4,a5⟩:=h2 R t J (A.eok ops o) b I k cs (eL (j+1) r.length);obtain⟨Y,U,Z,S,b1,b2,b3,b4,b5,b6⟩:=(ih _ _ _ G).2 R' _ a1 ((A.mono H).putO a4 o.dst) b I k cs;exact⟨Y,U,Z,S,b1,b2,a2.trans b3,H.trans b4,b5,a5.trans (YB H b6)⟩
theorem Zmv (hT:T.Of (p ())) {ops:Array Oper} {K:List AV->List Zh->Cd->Prop} (A:∀s h c,K s h c->ZW c) {s:List AV} {h:List Zh} {c:Cd} (hW:ZjE T p ops ops.toList s h c K):
  ZW c/\ZbT (p ()) R₀ h₀ ops (aP ops.size) s h λs h=>∃c,K s h c:=by
 have:=Znj hT (R₀:=R₀) (h₀:=h₀) A ops.toList 0 s h c (λm hm=>by simp) hW;rw[List.range_eq_range'];simpa using this
end
def YO (m i:Nat):Bool:=Nat.testBit m i
def add (m i:Nat):Nat:=m|||(1<<<i)
def sub (a b:Nat):Bool:=ZI (a&&&b) a
theorem Y9 (m i j:Nat):YO (add m i) j=(YO m j||decide (i=j)):=by
 simp[YO,add,iI,Nat.one_shiftLeft,Nat.testBit_two_pow]
theorem Zbe (j:Nat):YO 0 j=false:=by simp[YO]
theorem Zsv {a b j:Nat} (h:sub a b=true) (A:YO a j=true):YO b j=true:=by
 have e:a&&&b=a:=ZD h;have:=iF a b j;rw[e]at this;simp only[YO]at*;rw[A]at this;simpa using this.symm
def Zmp (e:Edge):Bool:=match e.ground with
 |.textOnly _|.gcOnly _=>false
 |_=>true
theorem Zin (e:Edge):Zmp e=Region.binds .any e:=by
 unfold Zmp Region.binds;cases e.ground<;>rfl
def aft (o:Oper):List Nat:=(o.after.toList.filter Zmp).map (·.on)
def Zho (m:Nat):List Nat->Nat
 |[]=>m
 |i::r=>Zho (add m i) r
theorem ZgW {j:Nat}:∀ {l:List Nat} {m:Nat},YO (Zho m l) j=true↔YO m j=true\/j∈l
 |[],m=>by simp[Zho]
 |i::r,m=>by
  rw[Zho,ZgW,Y9];simp only[cJ,iU,bG];constructor
  ·rintro((h|h)|h)
   ·exact .inl h
   ·exact .inr (.inl h.symm)
   exact .inr (.inr h)
  rintro(h|h|h)
  ·exact .inl (.inl h)
  ·exact .inl (.inr h.symm)
  exact .inr h
def Zhn (o:Oper):Nat:=Zho 0 (aft o)
theorem Zd3 {o:Oper} {j:Nat}:YO (Zhn o) j=true↔j∈aft o:=by rw[Zhn,ZgW,Zbe];simp
def Xt (o:Op):Bool:=match Zey o with
 |1|2|5|6=>false
 |_=>true
def ZdQ:Op->Bool
 |.load .. |.lookup .. |.entry _=>true
 |_=>false
def YJ (ops:Array Oper) (d j:Nat):Bool:=match ops[j]? with
 |some o=>(match o.dst with
  |some A=>ZI A d
  |none=>false)
 |none=>false
theorem Zat {ops:Array Oper} {d j:Nat} {o:Oper} (A:ops[j]? =some o):YJ ops d j=true↔o.dst=some d:=by
 unfold YJ;rw[A];cases h:o.dst with
 |none=>simp[h]
 |some G=>simp[h,ZI]
def Zrn (ops:Array Oper) (j:Nat):Nat:=match ops[j]? with
 |some o=>Zhn o
 |none=>0
def Zql (ops:Array Oper):Bool:=(aP ops.size).all λi=>match ops[i]? with
 |some o=>(aft o).all (ltN · i)&&
  (match o.dst with
   |some d=>(aP ops.size).all λj=>ZI i j|| !YJ ops d j
   |none=>true)&&
  (ZhZ ops o).all λx=>match x with
   |.tmp d=>(aP ops.size).all λj=> !YJ ops d j||YO (Zhn o) j||YO (Zrn ops j) i
   |_=>true
 |none=>true
structure ZbX (ops:Array Oper):Prop where
 back:∀(i:Nat) (o:Oper),ops[i]? =some o->∀j∈aft o,j<i
 once:∀(i j:Nat) (o o':Oper) (d:Tmp),ops[i]? =some o->ops[j]? =some o'->o.dst=some d->o'.dst=some d->i=j
 ord:∀(i j:Nat) (o o':Oper) (d:Tmp),ops[i]? =some o->ops[j]? =some o'->.tmp d∈ZhZ ops o->o'.dst=some d->j∈aft o\/i∈aft o'
theorem ZbX.of {ops:Array Oper} (h:Zql ops=true):ZbX ops:=by
 have H:∀i o,ops[i]? =some o->_:=λi o G=>by
  have U:i<ops.size:=(aM.1 G).1;have:=bL.1 h i (bV.2 U);rw[G]at this;exact this
 refine⟨λi o G j S=>?_,λi j o V d G A J I=>?_,λi j o V d G A Y I=>?_⟩
 ·have:=H i o G;simp only[aU]at this;have:=bL.1 this.1.1 j S;exact ZaO this
 ·have:=H i o G;simp only[aU,J]at this;have:=bL.1 this.1.2 j (bV.2 (aM.1 A).1);simp only[(Zat A).2 I,ef,eC]at this;exact ZD this
 have:=H i o G;simp only[aU]at this;have:=bL.1 (bL.1 this.2 _ Y) j (bV.2 (aM.1 A).1);simp only[(Zat A).2 I,ef,Bool.false_or,cJ,Zrn,A]at this;exact this.imp Zd3.1 Zd3.1
structure Pr where
 i:Nat
 o:Oper
 m:Nat
 a:Nat
 fl:Bool
def Zip (A:List Nat) (m:Nat):List Nat->Nat
 |[]=>m
 |j::r=>Zip A (add (m|||A.getD j 0) j) r
def ZiR:List Oper->Nat->List Nat->List Pr
 |[],_,_=>[]
 |o::r,i,acc=>⟨i,o,Zhn o,Zip acc 0 (aft o),Xt o.op⟩::ZiR r (i+1) (acc++[Zip acc 0 (aft o)])
def ZsK (ops:Array Oper):List Pr:=ZiR ops.toList 0 []
def Zfa (ops:Array Oper) (D:Nat->Prop):Prop:=∀i o,ops[i]? =some o->D i->∀j∈aft o,D j
theorem Zio {G:List Nat} {D:Nat->Prop}:∀ {l:List Nat} {m:Nat},(∀j∈l,D j)->(∀j∈l,∀x,YO (G.getD j 0) x=true->D x)->(∀x,YO m x=true->D x)->∀x,YO (Zip G m l) x=true->D x
 |[],m,_,_,hm,x,hx=>hm x hx
 |j::l,m,h1,h2,hm,x,hx=>by
  refine Zio (l:=l) (λj H=>h1 j (aS _ H)) (λj H=>h2 j (aS _ H)) (λy A=>?_) x hx;rw[Y9]at A;simp only[cJ,iU]at A;rcases A with A|rfl
  ·have:YO (m|||G.getD j 0) y=(YO m y||YO (G.getD j 0) y):=by simp[YO,iI]
   rw[this,cJ]at A;rcases A with A|A
   ·exact hm y A
   exact h2 j (aW ..) y A
  exact h1 _ (aW ..)
theorem Zcc {ops:Array Oper} (D:Nat->Prop) (V:Zfa ops D):∀(l:List Oper) (i:Nat) (G:List Nat),(∀m,m<l.length->ops[i+m]? =l[m]?)->G.length=i->(∀j,D j->∀x,YO (G.getD j 0) x=true->D x)->
  ∀p∈ZiR l i G,ops[p.i]? =some p.o/\p.m=Zhn p.o/\p.fl=Xt p.o.op/\((∀j∈aft p.o,D j)->∀x,YO p.a x=true->D x)
 |[],_,_,_,_,_,p,I=>by cases I
 |o::r,i,G,hl,hlen,hacc,p,I=>by
  have S:ops[i]? =some o:=by simpa using hl 0 (by simp)
  have H:(∀j∈aft o,D j)->∀x,YO (Zip G 0 (aft o)) x=true->D x:=λJ=>Zio J (λj U=>hacc j (J j U)) (λx A=>by rw[Zbe]at A;cases A);rcases bG.1 I with rfl|I
  ·exact⟨S,rfl,rfl,H⟩
  refine Zcc D V r (i+1) _ (λm hm=>by have:=hl (m+1) (by simpa using hm);rw[show i+1+m=i+(m+1) by omega];simpa using this) (by simp[hlen]) (λj J x A=>?_) p I;rw[aA,ee]at A;split at A
  ·exact hacc j J x (by rw[aA];exact A)
  rename_i Y;by_cases e:j=i
  ·subst e;rw[hlen,fb]at A;exact H (λx A=>V _ _ S J x A) x A
  rw[cE (by simp;omega)]at A;simp[Zbe]at A
theorem Zgr {i:Nat}:∀(l:List Oper) (A:List Nat) (m:Nat) (o:Oper),l[m]? =some o->∃p∈ZiR l i A,p.i=i+m/\p.o=o
 |[],_,_,_,h=>by cases h
 |x::r,A,0,o,h=>by
  simp only[List.getElem?_cons_zero,aC]at h;exact⟨_,aW ..,rfl,h⟩
 |x::r,A,m+1,o,h=>by
  obtain⟨p,G,I,H⟩:=Zgr (i:=i+1) r (A++[Zip A 0 (aft x)]) m o (by simpa using h);exact⟨p,aS _ G,by omega,H⟩
def evR (ops:Array Oper) (s0 s:List AV) (o:Oper):Operand->AV
 |.tmp d=>if(aft o).any (YJ ops d)then ev s (.tmp d)else ev s0 (.tmp d)
 |x=>ev s x
def Zuz (s:List AV):Option Tmp->AV
 |some d=>s.getD d .undef
 |none=>.undef
def Yi (T:Tb) (ops:Array Oper) (h:List Zh):List Pr->List AV->Nat->Cd->Option (List AV×Nat×Cd)
 |[],s,done,c=>some (s,done,c)
 |p::r,s,done,c=>if p.fl&& !YO done p.i&&sub p.m done then(match JO T ops p.o (ev s) h with
   |some (v,c')=>Yi T ops h r (putO s p.o.dst v) (add done p.i) (c++c')
   |none=>none)
  else Yi T ops h r s done c
def ZhU:List Pr->Nat->Bool
 |[],_=>true
 |p::r,done=>(!p.fl||YO done p.i|| !sub p.m done)&&ZhU r done
def Ym:List Pr->Nat->List Pr
 |[],_=>[]
 |p::r,done=>if !p.fl&& !YO done p.i&&sub p.m done then p::Ym r done else Ym r done
def Zrl:List Pr->Nat->Bool
 |[],_=>true
 |p::r,done=>YO done p.i&&Zrl r done
def YU (T:Tb) (ops:Array Oper) (s0 s:List AV) (h:List Zh) (a done:Nat):List Pr->Option Cd
 |[]=>some []
 |p::r=>if p.fl&&YO done p.i&& !YO a p.i&&ZdQ p.o.op then(match JO T ops p.o (evR ops s0 s p.o) h,YU T ops s0 s h a done r with
   |some (v,c),some c'=>some (c++(.e (λ_=>v) (λ_=>Zuz s p.o.dst)::c'))
   |_,_=>none)
  else YU T ops s0 s h a done r
structure Zlg (A B:Prop):Prop where
 l:A
 r:B
def Zou {α:Type} (f:α->Prop):List α->Prop
 |[]=>True
 |[a]=>f a
 |a::l=>Zlg (f a) (Zou f l)
def WD (T:Tb) (p:Unit->Program) (ops:Array Oper) (pr:List Pr) (s0:List AV) (K:List AV->List Zh->Cd->Prop):Nat->Nat->List AV->List Zh->Cd->Prop
 |0,_,_,_,_=>False
 |n+1,done,s,h,c=>(match Yi T ops h pr s done c with
  |none=>False
  |some (s,done,c)=>if ZhU pr done then(match Ym pr done with
    |[]=>if Zrl pr done then K s h c else False
    |[q]=>Wop T p ops q.o (ev s) h c λv h c=>(match YU T ops s0 (putO s q.o.dst v) h q.a done pr with
     |some A=>WD T p ops pr s0 K n (add done q.i) (putO s q.o.dst v) h (c++A)
     |none=>False)
    |ps=>chk c (Zou (λq:Pr=>Wop T p ops q.o (ev s) h [] λv h c=>(match YU T ops s0 (putO s q.o.dst v) h q.a done pr with
     |some A=>WD T p ops pr s0 K n (add done q.i) (putO s q.o.dst v) h (c++A)
     |none=>False)) ps))
   else False)
def Zmw (T:Tb) (p:Unit->Program) (ops:Array Oper) (s:List AV) (h:List Zh) (c:Cd) (K:List AV->List Zh->Cd->Prop):Prop:=
 WD T p ops (ZsK ops) s K (ops.size+1) 0 s h (c++[dd λ_=>Zql ops=true])
end Vm
namespace Vm
open Go Conc1
theorem Zu6 {a b:Nat} (h:∀j,YO a j=true->YO b j=true):sub a b=true:=by
 have:a&&&b=a:=Nat.eq_of_testBit_eq λj=>by
  rw[iF];have:=h j;simp only[YO]at this;cases ha:a.testBit j with
  |false=>rfl
  |true=>rw[this ha];rfl
 simp[sub,this,ZI]
theorem Zei.congr {P:Program} {R₀:RC} {h₀ h:List Zh} {ops:Array Oper} {i:Nat} {o:Oper} {E A:Operand->AV} {K:AV->List Zh->Prop} (H:Zei P R₀ h₀ ops i o E h K) (J:∀x∈ZhZ ops o,E x=A x):Zei P R₀ h₀ ops i o A h K:=
 λR t S I=>H R t S λx G=>by rw[J x G];exact I x G
theorem ZkB {T:Tb} {ops:Array Oper} {o:Oper} {E:Operand->AV} (h h':List Zh) (hr:ZdQ o.op=false):JO T ops o E h=JO T ops o E h':=by
 have A:∀E,Zg3 T E h o.op=Zg3 T E h' o.op:=λE=>by
  unfold Zg3;split<;>first
   |rfl
   |(rename_i e;rw[e]at hr;cases hr)
 unfold JO;simp only[A]
structure CnS (ops:Array Oper) (s0 s:List AV) (done:Nat):Prop where
 cl:Zfa ops (λi=>YO done i=true)
 keep:∀d:Nat,(∀(i:Nat) (o:Oper),ops[i]? =some o->o.dst=some d->YO done i=false)->s.getD d .undef=s0.getD d .undef
 bound:∀i,YO done i=true->i<ops.size
 len:s.length=s0.length
structure Ct (R₀:RC) (h₀:List Zh) (ops:Array Oper) (s0 s:List AV) (h:List Zh) (done:Nat) (D:Nat->Prop) (R:RC) (t:Array Value):Prop where
 inv:Inv R₀ h₀ R h
 sz:t.size=s.length
 sub:∀i,D i->YO done i=true
 ev:∀(i:Nat) (o:Oper),ops[i]? =some o->Xt o.op=false->YO done i=true->D i
 cl:Zfa ops D
 slotD:∀(i:Nat) (o:Oper) (d:Nat),ops[i]? =some o->o.dst=some d->D i->VR R (s.getD d .undef) (t.getD d undef)
 slot0:∀d:Nat,(∀(i:Nat) (o:Oper),ops[i]? =some o->o.dst=some d->¬D i)->VR R (s0.getD d .undef) (t.getD d undef)
def Ziw (T:Tb) (ops:Array Oper) (s0 s:List AV) (h:List Zh) (done:Nat) (D:Nat->Prop):Prop:=
 ∀(i:Nat) (o:Oper),ops[i]? =some o->Xt o.op=true->YO done i=true->¬D i->
  ∃E v c,(∀x∈ZhZ ops o,E x=evR ops s0 s o x)/\JO T ops o E h=some (v,c)/\ZW c/\∀d,o.dst=some d->d<s.length->Imp v (s.getD d .undef)
section
variable {T:Tb} {R₀:RC} {h₀:List Zh} {ops:Array Oper} {s0:List AV}
theorem Zap {o:Oper} {d:Nat}:(aft o).any (YJ ops d)=true↔∃j∈aft o,∃G,ops[j]? =some G/\G.dst=some d:=by
 rw[List.any_eq_true];constructor
 ·rintro⟨j,hj,hw⟩;refine⟨j,hj,?_⟩;unfold YJ at hw;split at hw
  ·rename_i G A;exact⟨G,A,(Zat A).1 (by unfold YJ;rw[A];exact hw)⟩
  cases hw
 rintro⟨j,hj,G,A,hd⟩;exact⟨j,hj,(Zat A).2 hd⟩
theorem Zg2 {R:RC} {s:List AV} {t:Array Value} {x:Operand} (A:∀d,x≠ .tmp d):VR R (Vm.ev s x) (QQ t x):=by
 cases x with
 |tmp i=>exact absurd rfl (A i)
 |const v=>exact Zgw v
 |global g=>exact .undef _
 |func f=>exact .fn f [] [] #[] #[] rfl rfl (λj c h=>by simp at h) (λj c h=>by simp at h)
theorem Ct.eok (J:ZbX ops) {s:List AV} {h:List Zh} {done:Nat} {D:Nat->Prop} {R:RC} {t:Array Value} (H:Ct R₀ h₀ ops s0 s h done D R t) {i:Nat} {o:Oper} (Y:ops[i]? =some o) (hn:¬D i) (V:∀j∈aft o,D j):
  EOK R ops o (evR ops s0 s o) t:=λx hx=>by
 cases x with
 |tmp d=>
  by_cases hw:(aft o).any (YJ ops d)=true
  ·simp only[evR,hw,if_true];obtain⟨j,Z,G,A,I⟩:=Zap.1 hw;exact H.slotD j G d A I (V j Z)
  simp only[evR,iN hw];refine H.slot0 d λj G A I U=>?_;rcases J.ord i j o G d Y A hx I with S|S
  ·exact hw (Zap.2 ⟨j,S,G,A,I⟩)
  exact hn (H.cl j G A U i S)
 |const v=>exact Zg2 (s:=s) (x:=.const v) (λd h=>by cases h)
 |global g=>exact Zg2 (s:=s) (x:=.global g) (λd h=>by cases h)
 |func f=>exact Zg2 (s:=s) (x:=.func f) (λd h=>by cases h)
theorem CnS.evR (G:ZbX ops) {s:List AV} {done:Nat} (H:CnS ops s0 s done) {i:Nat} {o:Oper} (U:ops[i]? =some o) (Y:YO done i=false):∀x∈ZhZ ops o,Vm.ev s x=Vm.evR ops s0 s o x:=λx V=>by
 cases x with
 |tmp d=>
  by_cases hw:(aft o).any (YJ ops d)=true
  ·simp only[Vm.evR,hw,if_true]
  simp only[Vm.evR,iN hw];refine H.keep d λj J A S=>?_;cases hj:YO done j with
  |false=>rfl
  |true=>
   rcases G.ord i j o J d U A V S with I|I
   ·exact absurd (Zap.2 ⟨j,I,J,A,S⟩) hw
   have this:YO done i=true:=H.cl j J A hj i I;rw[Y]at this;cases this
 |_=>rfl
theorem Jm {s:List AV} {d:Option Tmp} {v:AV} {e:Nat} (A:d≠some e):(putO s d v).getD e .undef=s.getD e .undef:=by
 cases d with
 |none=>rfl
 |some d=>
  have:d≠e:=λh=>A (by rw[h]);simp[putO,aA,this]
theorem Zcp {s:List AV} {d:Nat} {v:AV} (A:d<s.length):(putO s (some d) v).getD d .undef=v:=by
 simp[putO,aA,A]
theorem YZ {s:List AV} {d:Option Tmp} {v:AV}:(putO s d v).length=s.length:=by cases d<;>simp[putO]
theorem ZkH (A:ZbX ops) {s:List AV} {done:Nat} (I:Zfa ops (λi=>YO done i=true)) {i k:Nat} {o G:Oper} (V:ops[i]? =some o) (hi:YO done i=true) (J:ops[k]? =some G) (U:YO done k=false) (v:AV) (x:Operand):
  evR ops s0 (putO s G.dst v) o x=evR ops s0 s o x:=by
 cases x with
 |tmp d=>
  by_cases hw:(aft o).any (YJ ops d)=true
  ·simp only[evR,hw,if_true];obtain⟨j,Y,Z,H,S⟩:=Zap.1 hw;refine Jm λe=>?_;have:=A.once j k Z G d H J S e;subst this;have this:YO done j=true:=I i o V hi j Y;rw[U]at this;cases this
  simp only[evR,iN hw]
 |_=>rfl
theorem CnS.put (Z:ZbX ops) {s:List AV} {done:Nat} (H:CnS ops s0 s done) {i:Nat} {o:Oper} (I:ops[i]? =some o) (Y:∀j∈aft o,YO done j=true) (v:AV):CnS ops s0 (putO s o.dst v) (add done i):=by
 refine⟨λj J G A x V=>?_,λd S=>?_,λj A=>?_,by rw[YZ];exact H.len⟩
 ·simp only[Y9,cJ,iU]at A|-;rcases A with A|rfl
  ·exact .inl (H.cl j J G A x V)
  rw[I]at G;cases G;exact .inl (Y x V)
 ·rw[Jm (λe=>by have:=S i o I e;simp[Y9]at this)];exact H.keep d λj J G U=>by
   have:=S j J G U;rw[Y9]at this;simp at this;exact this.1
 simp only[Y9,cJ,iU]at A;rcases A with A|rfl
 ·exact H.bound j A
 exact(aM.1 I).1
theorem Zl5 (J:ZbX ops) {s:List AV} {h:List Zh} {done:Nat} (H:CnS ops s0 s done) {i:Nat} {o:Oper} (Z:ops[i]? =some o) (hf:Xt o.op=true) (hn:YO done i=false) {v:AV} {c:Cd} (hv:JO T ops o (ev s) h=some (v,c)) (hc:ZW c)
  {D:Nat->Prop} {R:RC} {t:Array Value} (C:Ct R₀ h₀ ops s0 s h done D R t) (G:Ziw T ops s0 s h done D):
  Ct R₀ h₀ ops s0 (putO s o.dst v) h (add done i) D R t/\Ziw T ops s0 (putO s o.dst v) h (add done i) D:=by
 have ab:¬D i:=λhD=>by have:=C.sub i hD;rw[hn]at this;cases this
 refine⟨⟨C.inv,by rw[YZ];exact C.sz,λj I=>by rw[Y9,C.sub j I];rfl,λj U A Y I=>?_,C.cl,λj U d A S hD=>?_,C.slot0⟩,λj U A Y I ac=>?_⟩
 ·simp only[Y9,cJ,iU]at I;rcases I with I|rfl
  ·exact C.ev j U A Y I
  rw[Z]at A;cases A;rw[hf]at Y;cases Y
 ·rw[Jm (λe=>ab (by have:=J.once j i U o d A Z S e;exact this▸hD))];exact C.slotD j U d A S hD
 simp only[Y9,cJ,iU]at I;by_cases e:i=j
 ·subst e;rw[Z]at A;cases A;refine⟨ev s,v,c,λx hx=>?_,hv,hc,λd S V=>?_⟩
  ·rw[H.evR J Z hn x hx];cases x with
   |tmp d=>
    by_cases hw:(aft o).any (YJ ops d)=true
    ·simp only[evR,hw,if_true];obtain⟨k,hk,U,A,S⟩:=Zap.1 hw;exact(Jm λe=>by have:=J.once k i U o d A Z S e;subst this;exact absurd (J.back _ _ Z _ hk) (Nat.lt_irrefl _)).symm
    simp only[evR,iN hw]
   |_=>rfl
  rw[S]at*;rw[YZ]at V;rw[Zcp V];exact Imp.refl _
 have aa:YO done j=true:=by
  rcases I with I|I
  ·exact I
  exact absurd I e
 obtain⟨E,v',c',h1,h2,h3,h4⟩:=G j U A Y aa ac;refine⟨E,v',c',λx hx=>(h1 x hx).trans (ZkH J H.cl A aa Z hn v x).symm,h2,h3,λd S V=>?_⟩;rw[Jm (λe'=>e (J.once i j o U d Z A e' S))];exact h4 d S (by rw[YZ]at V;exact V)
theorem Zcq (I:ZbX ops) {h:List Zh}:∀(l:List Pr) (s:List AV) (done:Nat) (c:Cd) (S:List AV) (A:Nat) (Y:Cd),(∀p∈l,ops[p.i]? =some p.o/\p.m=Zhn p.o/\p.fl=Xt p.o.op)->
  Yi T ops h l s done c=some (S,A,Y)->ZW Y->ZW c/\(CnS ops s0 s done->CnS ops s0 S A/\∀ {U:RC} {V:List Zh} {D:Nat->Prop} {R:RC} {t:Array Value},Ct U V ops s0 s h done D R t->Ziw T ops s0 s h done D->
   Ct U V ops s0 S h A D R t/\Ziw T ops s0 S h A D)
 |[],s,done,c,S,A,Y,_,hv,hc=>by
  simp only[Yi,aC,aK]at hv;obtain⟨rfl,rfl,rfl⟩:=hv;exact⟨hc,λH=>⟨H,λC G=>⟨C,G⟩⟩⟩
 |p::r,s,done,c,S,A,Y,hl,hv,hc=>by
  obtain⟨e1,e2,e3⟩:=hl p (aW ..);have Z:=λq hq=>hl q (aS _ hq);simp only[Yi]at hv;split at hv
  ·rename_i J;simp only[aU,cG]at J;obtain⟨⟨f1,f2⟩,f3⟩:=J;split at hv;case h_2=>cases hv
   rename_i v c1 aa;obtain⟨a1,a2⟩:=Zcq I r _ _ _ _ _ _ Z hv hc;obtain⟨b1,b2⟩:=Z5 a1;refine⟨b1,λH=>?_⟩;have H':=H.put I e1 (λj hj=>Zsv f3 (by rw[e2];exact Zd3.2 hj)) v;obtain⟨d1,d2⟩:=a2 H';refine⟨d1,λC G=>?_⟩;obtain⟨T',G'⟩:=Zl5 I H e1 (by rw[<-e3];exact f1) f2 aa b2 C G;exact d2 T' G'
  exact Zcq I r _ _ _ _ _ _ Z hv hc
theorem Zbx {s:List AV} {h:List Zh} {a done:Nat}:∀(l:List Pr) (c:Cd),YU T ops s0 s h a done l=some c->ZW c->∀p∈l,p.fl=true->YO done p.i=true->YO a p.i=false->ZdQ p.o.op=true->
  ∃v U,JO T ops p.o (evR ops s0 s p.o) h=some (v,U)/\ZW U/\Imp v (Zuz s p.o.dst)
 |[],_,_,_,p,A=>by cases A
 |q::r,c,hv,hc,p,A=>by
  intro J I S H;simp only[YU]at hv;split at hv
  ·split at hv;case h_2=>cases hv
   rename_i v c1 c2 h1 Z;simp only[aC]at hv;subst hv;obtain⟨Y,V⟩:=Z5 hc;rcases bG.1 A with rfl|A
   ·exact⟨v,c1,h1,Y,(V _ (aW ..)).elim (λe=>by simp only at e;rw[e];exact Imp.refl _) id⟩
   exact Zbx r _ Z (λx hx=>V x (aS _ hx)) p A J I S H
  rename_i G;rcases bG.1 A with rfl|A
  ·simp[J,I,S,H]at G
  exact Zbx r _ hv hc p A J I S H
theorem ZjY {done:Nat}:∀ {l:List Pr},ZhU l done=true->∀p∈l,p.fl=true->sub p.m done=true->YO done p.i=true
 |[],_,p,A=>by cases A
 |q::r,h,p,A=>λG H=>by
  simp only[ZhU,aU]at h;rcases bG.1 A with rfl|A
  ·simpa [G,H]using h.1
  exact ZjY h.2 p A G H
theorem Zfk {done:Nat}:∀ {l:List Pr} {p:Pr},p∈l->p.fl=false->YO done p.i=false->sub p.m done=true->p∈Ym l done
 |[],_,A,_,_,_=>by cases A
 |q::r,p,A,h1,h2,h3=>by
  simp only[Ym];rcases bG.1 A with rfl|A
  ·simp[h1,h2,h3]
  have:=Zfk A h1 h2 h3;split
  ·exact aS _ this
  exact this
theorem YV {done:Nat}:∀ {l:List Pr} {p:Pr},p∈Ym l done->p∈l/\YO done p.i=false
 |[],_,A=>by cases A
 |q::r,p,A=>by
  simp only[Ym]at A;split at A
  ·rename_i G;rcases bG.1 A with rfl|A
   ·simp only[aU,cG]at G;exact⟨aW ..,G.1.2⟩
   exact⟨aS _ (YV A).1,(YV A).2⟩
  exact⟨aS _ (YV A).1,(YV A).2⟩
theorem Zli {α:Type} {f:α->Prop}:∀ {l:List α},Zou f l->∀x∈l,f x
 |[],_,x,A=>by cases A
 |[a],h,x,A=>by
  rcases bG.1 A with rfl|A
  ·exact h
  cases A
 |a::b::l,h,x,A=>by
  rcases bG.1 A with rfl|A
  ·exact h.l
  exact Zli h.r x A
theorem Ct.sl {s:List AV} {h:List Zh} {done:Nat} {D:Nat->Prop} {R:RC} {t:Array Value} (C:Ct R₀ h₀ ops s0 s h done D R t) (H:CnS ops s0 s done) (J:∀i,i<ops.size->D i):SL R s t:=by
 refine⟨C.sz,λd a U=>?_⟩;have S:s.getD d .undef=a:=by rw[aA,U];rfl
 by_cases hw:∃(i:Nat) (o:Oper),ops[i]? =some o/\o.dst=some d
 ·obtain⟨i,o,G,A⟩:=hw;rw[<-S];exact C.slotD i o d G A (J i (aM.1 G).1)
 have I:∀(i:Nat) (o:Oper),ops[i]? =some o->o.dst=some d->False:=λi o G A=>hw ⟨i,o,G,A⟩;rw[<-S,H.keep d λi o G A=>(I i o G A).elim];exact C.slot0 d λi o G A=>(I i o G A).elim
theorem Zia {t:Array Value} {d:Option Tmp} {u:Value} {e:Nat} (A:d≠some e):(Z7 t d u).getD e undef=t.getD e undef:=by
 cases d with
 |none=>rfl
 |some d=>
  have:d≠e:=λh=>A (by rw[h]);simp[Z7,aJ,this]
theorem Zny {t:Array Value} {d:Option Tmp} {u:Value}:(Z7 t d u).size=t.size:=by cases d<;>simp[Z7]
theorem Ct.run (V:ZbX ops) {s:List AV} {h h':List Zh} {done done':Nat} {D:Nat->Prop} {R R':RC} {t:Array Value} (C:Ct R₀ h₀ ops s0 s h done D R t) {i:Nat} {o:Oper} (S:ops[i]? =some o) (Z:¬D i) (hp:∀j∈aft o,D j) {s':List AV} {u:Value}
  (hi:Inv R₀ h₀ R' h') (U:R.le R') (Y:s'.length=s.length) (hs:∀d:Nat,o.dst≠some d->s'.getD d .undef=s.getD d .undef) (hv:∀d:Nat,o.dst=some d->d<s.length->VR R' (s'.getD d .undef) u)
  (J:∀j,YO done' j=true↔YO done j=true\/j=i):Ct R₀ h₀ ops s0 s' h' done' (λj=>D j\/j=i) R' (Z7 t o.dst u):=by
 have aa:∀(j:Nat) (H:Oper) (d:Nat),ops[j]? =some H->H.dst=some d->D j->o.dst≠some d:=λj H d A I hD e=>by
  have:=V.once i j o H d S A e I;subst this;exact Z hD
 refine⟨hi,by rw[Zny,Y];exact C.sz,λj G=>(J j).2 (G.imp (C.sub j) id),λj H A hf G=>?_,λj H A G x hx=>?_,λj H d A I G=>?_,λd I=>?_⟩
 ·exact((J j).1 G).imp (C.ev j H A hf) id
 ·rcases G with G|rfl
  ·exact .inl (C.cl j H A G x hx)
  rw[S]at A;cases A;exact .inl (hp x hx)
 ·rcases G with G|rfl
  ·have:=aa j H d A I G;rw[hs d this,Zia this];exact(C.slotD j H d A I G).mono U
  rw[S]at A;cases A;by_cases hlt:d<s.length
  ·have e:(Z7 t o.dst u).getD d undef=u:=by
    rw[I];simp[Z7,aJ,C.sz,hlt]
   rw[e];exact hv d I hlt
  rw[aA,cE (by omega)];exact .undef _
 have:o.dst≠some d:=λe=>I i o S e (.inr rfl);rw[Zia this];exact(C.slot0 d λj H A ab G=>I j H A ab (.inl G)).mono U
end
end Vm
namespace Vm
open Go Conc1
section
variable {T:Tb} {p:Unit->Program} {R₀:RC} {h₀:List Zh} {ops:Array Oper} {s0:List AV} {K:List AV->List Zh->Cd->Prop}
def WDk (T:Tb) (p:Unit->Program) (ops:Array Oper) (pr:List Pr) (s0:List AV) (K:List AV->List Zh->Cd->Prop) (n done:Nat) (s:List AV) (q:Pr) (v:AV) (h:List Zh) (c:Cd):Prop:=
 match YU T ops s0 (putO s q.o.dst v) h q.a done pr with
 |some A=>WD T p ops pr s0 K n (add done q.i) (putO s q.o.dst v) h (c++A)
 |none=>False
theorem Zk9 {pr:List Pr} {n:Nat} (G:∀done s h c,WD T p ops pr s0 K n done s h c->ZW c) {done:Nat} {s:List AV} {q:Pr} {v:AV} {h:List Zh} {c:Cd} (A:WDk T p ops pr s0 K n done s q v h c):ZW c:=by
 unfold WDk at A;split at A
 ·exact(Z5 (G _ _ _ _ A)).1
 exact A.elim
theorem Zla (hT:T.Of (p ())) {pr:List Pr} {n done:Nat} {s:List AV} {h:List Zh} {c:Cd} (U:∀q∈pr,ops[q.i]? =some q.o) (hK:∀s h c,K s h c->ZW c) (ih:∀done s h c,WD T p ops pr s0 K n done s h c->ZW c) (hW:WD T p ops pr s0 K (n+1) done s h c):
  ∃I A J,Yi T ops h pr s done c=some (I,A,J)/\ZW J/\ZhU pr A=true/\(Ym pr A=[]->∃c,K I h c)/\
   ∀q∈Ym pr A,∃c',Wop T p ops q.o (ev I) h c' (WDk T p ops pr s0 K n A I q):=by
 simp only[WD]at hW;split at hW
 ·exact hW.elim
 rename_i I A J Y;refine⟨I,A,J,Y,?_⟩;split at hW;case isFalse=>exact hW.elim
 rename_i H;split at hW
 ·rename_i hr;split at hW
  ·exact⟨hK _ _ _ hW,H,λ_=>⟨_,hW⟩,λq G=>by rw[hr]at G;cases G⟩
  exact hW.elim
 ·rename_i q hr;have V:q∈pr:=(YV (done:=A) (by rw[hr];exact aW ..)).1;refine⟨(ZjF hT (R₀:=⟨default,0,0,λ_=>⟨0,0⟩,λ_=>0,λ_=>undef,λ_ _ _=>False,none⟩) (h₀:=[]) (U q V) (λv h c Z=>Zk9 ih Z) hW).1,H,λe=>(by rw[hr]at e;cases e),λq' G=>?_⟩;rw[hr]at G;rcases bG.1 G with rfl|G
  ·exact⟨_,hW⟩
  cases G
 rename_i S _;obtain⟨a1,a2⟩:=Z9 hW;exact⟨a1,H,λe=>absurd e S,λq G=>⟨_,Zli a2 q G⟩⟩
theorem ZaS {h:List Zh}:∀(l:List Pr) (s:List AV) (done:Nat) (c:Cd) (H:List AV) (A:Nat) (G:Cd),Yi T ops h l s done c=some (H,A,G)->ZW G->ZW c
 |[],s,done,c,H,A,G,hv,hc=>by
  simp only[Yi,aC,aK]at hv;obtain⟨rfl,rfl,rfl⟩:=hv;exact hc
 |p::r,s,done,c,H,A,G,hv,hc=>by
  simp only[Yi]at hv;split at hv
  ·split at hv;case h_2=>cases hv
   exact(Z5 (ZaS r _ _ _ _ _ _ hv hc)).1
  exact ZaS r _ _ _ _ _ _ hv hc
theorem Zee (hT:T.Of (p ())) {pr:List Pr} (G:∀q∈pr,ops[q.i]? =some q.o/\q.m=Zhn q.o/\q.fl=Xt q.o.op) (H:∀s h c,K s h c->ZW c):∀(n done:Nat) (s:List AV) (h:List Zh) (c:Cd),WD T p ops pr s0 K n done s h c->ZW c
 |0,_,_,_,_,hW=>by simp only[WD]at hW
 |n+1,done,s,h,c,hW=>by
  obtain⟨U,A,V,I,S,_⟩:=Zla hT (λq J=>(G q J).1) H (Zee hT G H n) hW;exact ZaS pr s done c U A V I S
def Fin (P:Program) (R₀:RC) (h₀:List Zh) (ops:Array Oper) (K:List AV->List Zh->Cd->Prop) (R:RC) (h:List Zh) (t:Array Value) (G:List Nat):Prop:=
 ∀(b:FB) (S:List Deferred) (k:List Item) (cs:List Frame),∃I H A J,(∃c,K I H c)/\Inv R₀ h₀ A H/\Xj R h A H/\R.le A/\SL A I J/\
  Steps P R.cx (ZL (mkF b t S (.inRegion ops G::k)) cs R.w) (ZL (mkF b J S k) cs A.w)
def ZlY (ops:Array Oper) (A:Array Bool):Nat:=(aP ops.size).countP λi=> !A.getD i true
theorem ZnW {A:Array Bool} (H:A.size=ops.size) (h:ZlY ops A=0):∀i,i<ops.size->A.getD i false=true:=by
 intro i G;have:=List.countP_eq_zero.1 h i (bV.2 G);simp only[Bool.not_eq_true,Bool.not_eq_false']at this;rw[aJ,aZ (by omega)]at this|-;exact this
theorem ZqG {A:Array Bool} (hs:A.size=ops.size) {i:Nat} (hi:i<ops.size) (hn:A.getD i true=false):ZlY ops (A.setIfInBounds i true)+1<=ZlY ops A:=by
 unfold ZlY;have U:∀j,j<ops.size->(A.setIfInBounds i true).getD j true=(A.getD j true||decide (i=j)):=λj G=>by
  rw[aJ,aJ,bT];by_cases e:i=j
  ·subst e;simp[hs,hi]
  simp[e]
 generalize S:aP ops.size=l;have H:l.Nodup:=S▸List.nodup_range;have J:i∈l:=S▸bV.2 hi;have I:∀j∈l,j<ops.size:=λj G=>bV.1 (S▸G);clear S;induction l with
 |nil=>cases J
 |cons x r Z=>
  rw[List.nodup_cons]at H;rw[fU,fU,U x (I x (aW ..))];rcases bG.1 J with rfl|hm
  ·have:iS (λj=> !(A.setIfInBounds i true).getD j true) r=iS (λj=> !A.getD j true) r:=List.countP_congr λj G=>by
    have Y:i≠j:=λe=>H.1 (e▸G);rw[U j (I j (aS _ G))];simp[Y]
   rw[this,hn];simp
  have V:i≠x:=λe=>H.1 (e▸hm);have:=Z H.2 hm (λj G=>I j (aS _ G));simp only[V,decide_false,eC];omega
theorem ZnH (H:ZbX ops) {A:Array Bool} (Y:A.size=ops.size) (h:Region.ready .any ops A=[]):∀i,i<ops.size->A.getD i false=true:=by
 intro i;induction i using Nat.strongRecOn with
 |_ i V=>
  intro U;cases hl:A.getD i false with
  |true=>rfl
  |false=>
   have:i∈Region.ready .any ops A:=by
    unfold Region.ready;refine fk.2 ⟨bV.2 U,?_⟩;have J:ops[i]? =some ops[i]:=aZ U;have S:A.getD i true=false:=by
     rw[aJ,aZ (by omega)]at hl|-;exact hl
    rw[J,S];simp only[Bool.not_false,cL,cA,Bool.true_and];rw[ip];intro m hm;cases hb:Region.binds .any ops[i].after[m]with
    |false=>rfl
    |true=>
     have G:ops[i].after[m].on∈aft ops[i]:=bC.2 ⟨ops[i].after[m],fk.2 ⟨by simp,by rw[Zin];exact hb⟩,rfl⟩;have I:=H.back i _ J _ G;rw[V _ I (by omega)];rfl
   rw[h]at this;cases this
theorem ZnI {A:Array Bool} {i:Nat} (h:i∈Region.ready .any ops A):i<ops.size/\A.getD i true=false/\∃o,ops[i]? =some o/\∀j∈aft o,A.getD j false=true:=by
 unfold Region.ready at h;obtain⟨Y,H⟩:=fk.1 h;have J:=bV.1 Y;rw[aZ J]at H;simp only[cL,cA,aU,cG]at H;refine⟨J,H.1,_,aZ J,λj U=>?_⟩;obtain⟨e,V,rfl⟩:=bC.1 U;obtain⟨S,I⟩:=fk.1 V;rw[Zin]at I;have:=H.2;rw[ip]at this;obtain⟨m,hm,G⟩:=List.getElem_of_mem S;have:=this m (by simpa using hm);have G:ops[i].after[m]'(by simpa using hm)=e:=by simpa using G
 rw[G,I]at this;simpa using this
theorem Zn4 {A:Array Bool} {i j:Nat} (hi:i<A.size):(A.setIfInBounds i true).getD j false=true↔A.getD j false=true\/j=i:=by
 rw[aJ,aJ,bT];by_cases e:i=j
 ·subst e;simp[hi]
 simp only[iN e];constructor
 ·exact λh=>.inl h
 rintro(h|h)
 ·exact h
 exact absurd h.symm e
theorem Ct.congr {s:List AV} {h:List Zh} {done:Nat} {D D':Nat->Prop} {R:RC} {t:Array Value} (T:Ct R₀ h₀ ops s0 s h done D R t) (A:∀j,D' j↔D j):Ct R₀ h₀ ops s0 s h done D' R t:=by
 have:D'=D:=funext λj=>propext (A j);subst this;exact T
theorem ZxD (ab:T.Of (p ())) (I:ZbX ops) {pr:List Pr} (bw:pr=ZsK ops) (hK:∀s h c,K s h c->ZW c):∀(n done:Nat) (s:List AV) (h:List Zh) (c:Cd),WD T p ops pr s0 K n done s h c->CnS ops s0 s done->
  ∀(H tape:Nat) (A:Array Bool) (R:RC) (t:Array Value),A.size=ops.size->Ct R₀ h₀ ops s0 s h done (λi=>A.getD i false=true) R t->Ziw T ops s0 s h done (λi=>A.getD i false=true)->
   ZlY ops A<=H->Fin (p ()) R₀ h₀ ops K R h t (Region.linearise.go .any ops H tape A []):=by
 have aq:∀(D:Nat->Prop),Zfa ops D->∀q∈pr,ops[q.i]? =some q.o/\q.m=Zhn q.o/\q.fl=Xt q.o.op/\((∀j∈aft q.o,D j)->∀x,YO q.a x=true->D x):=λD hD q hp=>
  Zcc D hD ops.toList 0 [] (λm hm=>by simp) rfl (λj V x hx=>by simp[Zbe]at hx) q (by rw[bw]at hp;exact hp)
 have bx:Zfa ops λ_=>True:=λ_ _ _ _ _ _=>trivial;have J:∀q∈pr,ops[q.i]? =some q.o/\q.m=Zhn q.o/\q.fl=Xt q.o.op:=λq hp=>let ⟨a,b,c,_⟩:=aq _ bx q hp;⟨a,b,c⟩;have aw:∀(i:Nat) (o:Oper),ops[i]? =some o->∃q∈pr,q.i=i/\q.o=o:=λi o U=>by
  obtain⟨q,h1,h2,h3⟩:=Zgr (i:=0) ops.toList [] i o (by simpa using U);exact⟨q,by rw[bw];exact h1,by omega,h3⟩
 intro n;induction n with
 |zero=>intro done s h c hW;simp only[WD]at hW
 |succ n cf=>
  intro done s h c hW hC H tape A R t au bt hG cu;obtain⟨s1,G,c1,hf,ct,ca,bz,cq⟩:=Zla ab (λq hq=>(J q hq).1) hK (Zee ab J hK n) hW;obtain⟨_,Z⟩:=Zcq (s0:=s0) I pr s done c s1 G c1 J hf ct;obtain⟨C1,Z⟩:=Z hC;obtain⟨T1,G1⟩:=Z bt hG;clear bt hG Z hf hC hW;have ai:∀(A:Array Bool) (R:RC) (t:Array Value),Ct R₀ h₀ ops s0 s1 h G (λi=>A.getD i false=true) R t->(∀i,i<ops.size->A.getD i false=true)->Fin (p ()) R₀ h₀ ops K R h t []:=by
   intro A R t C hD b ds k cs;have ak:Ym pr G=[]:=by
    cases hr:Ym pr G with
    |nil=>rfl
    |cons q l=>
     obtain⟨h1,h2⟩:=YV (done:=G) (p:=q) (l:=pr) (by rw[hr];exact aW ..);have:=C.sub q.i (hD q.i (aM.1 (J q h1).1).1);rw[h2]at this;cases this
   exact⟨s1,h,R,t,bz ak,C.inv,Xj.refl _ _,RC.le.refl _,C.sl C1 hD,.one Jk⟩
  induction H generalizing tape A R t with
  |zero=>exact ai A R t T1 (ZnW au (by omega))
  |succ H cn=>
   rw[Region.linearise.go]
   show Fin (p ()) R₀ h₀ ops K R h t (match(Region.ready .any ops A)[tape%(Region.ready .any ops A).length]? with
    |some i=>Region.linearise.go .any ops H (tape/(Region.ready .any ops A).length) (A.setIfInBounds i true) [i]
    |none=>[].reverse)
   cases hi:(Region.ready .any ops A)[tape%(Region.ready .any ops A).length]? with
   |none=>
    have ak:Region.ready .any ops A=[]:=by
     cases hr:Region.ready .any ops A with
     |nil=>rfl
     |cons x xs=>
      rw[hr]at hi;have S:tape%(x::xs).length<(x::xs).length:=Nat.mod_lt _ (by simp);rw[List.getElem?_eq_none_iff]at hi;omega
    exact ai A R t T1 (ZnH I au ak)
   |some i=>
    obtain⟨S,az,o,U,hp⟩:=ZnI (List.mem_of_getElem? hi);simp only[];rw[linearise_go_acc,List.reverse_singleton,List.singleton_append];have aj:¬A.getD i false=true:=by
     rw[aJ,aZ (by omega)]at az|-;simp only[cA]at az|-;rw[az];exact Bool.false_ne_true
    have bp:(A.setIfInBounds i true).size=ops.size:=by simpa using au
    have ah:ZlY ops (A.setIfInBounds i true)<=H:=by have:=ZqG au S az;omega
    have aa:∀j,(A.setIfInBounds i true).getD j false=true↔A.getD j false=true\/j=i:=λj=>Zn4 (by omega);have bk:=T1.eok I U aj hp;obtain⟨q,ao,rfl,rfl⟩:=aw i o U;obtain⟨_,hm,Z⟩:=J q ao;have bl:sub q.m G=true:=Zu6 λj V=>T1.sub j (hp j (by rw[hm]at V;exact Zd3.1 V));intro b ds k cs;cases hff:Xt q.o.op with
    |true=>
     have ae:=ZjY ca q ao (by rw[Z];exact hff) bl;obtain⟨E,v,c',g1,g2,g3,g4⟩:=G1 q.i q.o U hff ae aj;obtain⟨v',h',R',u,⟨rfl,rfl⟩,a1,a2,a3,a4,a5⟩:=(Zic ab (R₀:=R₀) (h₀:=h₀) U g2 g3).congr g1 R t T1.inv bk b ds k cs (Region.linearise.go .any ops H (tape/(Region.ready .any ops A).length) (A.setIfInBounds q.i true) []);have T2:=T1.run I (done':=G) (s':=s1) (u:=u) U aj hp a1 a3 rfl (λ_ _=>rfl) (λd Y S=>(g4 d Y S).f _ _ a4) (λj=>⟨.inl,λV=>V.elim id λe=>e▸ae⟩);have T2:=T2.congr (D':=λj=>(A.setIfInBounds q.i true).getD j false=true) aa;obtain⟨bh,bg,bm,a9,b1,b2,b3,b4,b5,b6⟩:=cn (tape/(Region.ready .any ops A).length) (A.setIfInBounds q.i true) R' (Z7 t q.o.dst u) bp ah T2 (λj o' ac am V ar=>G1 j o' ac am V λe=>ar ((aa j).2 (.inl e))) b ds k cs;exact⟨bh,bg,bm,a9,b1,b2,a2.trans b3,a3.trans b4,b5,a5.trans (YB a3 b6)⟩
    |false=>
     have ae:YO G q.i=false:=by
      cases e:YO G q.i with
      |false=>rfl
      |true=>exact absurd (T1.ev q.i q.o U hff e) aj
     obtain⟨cx,b9⟩:=cq q (Zfk ao (by rw[Z];exact hff) ae bl);have ci:=C1.evR I U ae;obtain⟨_,ce⟩:=ZjF ab (R₀:=R₀) (h₀:=h₀) U (λv h c hk=>Zk9 (Zee ab J hK n) hk) b9;obtain⟨v,h',R',u,⟨c2,hk⟩,a1,a2,a3,a4,a5⟩:=ce.congr ci R t T1.inv bk b ds k cs (Region.linearise.go .any ops H (tape/(Region.ready .any ops A).length) (A.setIfInBounds q.i true) []);unfold WDk at hk;split at hk;case h_2=>exact hk.elim
     rename_i c3 cr;have cg:=(Z5 (Zee ab J hK n _ _ _ _ hk)).2;have C2:=C1.put I U (λj V=>T1.sub j (hp j V)) v
     have T2:=T1.run I (done':=add G q.i) (s':=putO s1 q.o.dst v) (u:=u) U aj hp a1 a3 YZ (λd Y=>Jm Y) (λd Y S=>by rw[Y,Zcp S];exact a4) (λj=>by
      rw[Y9];simp only[cJ,iU];exact⟨λh=>h.imp id Eq.symm,λh=>h.imp id Eq.symm⟩)
     have T2:=T2.congr (D':=λj=>(A.setIfInBounds q.i true).getD j false=true) aa;have G2:Ziw T ops s0 (putO s1 q.o.dst v) h' (add G q.i) λj=>(A.setIfInBounds q.i true).getD j false=true:=by
      intro j o' ac am V ar;have ba:¬A.getD j false=true:=λe=>ar ((aa j).2 (.inl e));have bu:j≠q.i:=λe=>ar ((aa j).2 (.inr e));have bc:YO G j=true:=by
       rw[Y9]at V;simp only[cJ,iU]at V;exact V.resolve_right λe=>bu e.symm
      have bo:∀d,o'.dst=some d->(putO s1 q.o.dst v).getD d .undef=s1.getD d .undef:=λd Y=>Jm λe=>bu (I.once j q.i o' q.o d ac U Y e);obtain⟨E,v1,c4,g1,g2,g3,g4⟩:=G1 j o' ac am bc ba;cases hrm:ZdQ o'.op with
      |false=>exact⟨E,v1,c4,λx hx=>(g1 x hx).trans (ZkH I C1.cl ac bc U ae v x).symm,by rw[ZkB h' h hrm];exact g2,g3,λd Y S=>by rw[bo d Y];exact g4 d Y (by rw[YZ]at S;exact S)⟩
      |true=>
       obtain⟨q2,bq,rfl,rfl⟩:=aw j o' ac;obtain⟨_,_,ck⟩:=J q2 bq;have cj:YO q.a q2.i=false:=by
        cases e:YO q.a q2.i with
        |false=>rfl
        |true=>exact absurd ((aq _ T1.cl q ao).2.2.2 hp q2.i e) ba
       obtain⟨v2,c5,k1,k2,k3⟩:=Zbx pr c3 cr cg q2 bq (by rw[ck];exact am) bc cj hrm;exact⟨_,v2,c5,λx hx=>rfl,k1,k2,λd Y S=>by rw[Y]at k3;exact k3⟩
     obtain⟨bh,bg,bm,a9,b1,b2,b3,b4,b5,b6⟩:=cf _ _ _ _ hk C2 H (tape/(Region.ready .any ops A).length) (A.setIfInBounds q.i true) R' (Z7 t q.o.dst u) bp T2 G2 ah b ds k cs;exact⟨bh,bg,bm,a9,b1,b2,a2.trans b3,a3.trans b4,b5,a5.trans (YB a3 b6)⟩
theorem Zir (J:T.Of (p ())) (Z:∀s h c,K s h c->ZW c) {s:List AV} {h:List Zh} {c:Cd} (hW:Zmw T p ops s h c K) (tape:Nat):ZW c/\ZbT (p ()) R₀ h₀ ops (Region.linearise .any ops tape) s h λs h=>∃c,K s h c:=by
 unfold Zmw at hW;have U:∀q∈ZsK ops,ops[q.i]? =some q.o/\q.m=Zhn q.o/\q.fl=Xt q.o.op:=λq hp=>by
  obtain⟨V,S,h3,_⟩:=Zcc (ops:=ops) (λ_=>True) (λ_ _ _ _ _ _=>trivial) ops.toList 0 [] (λm hm=>by simp) rfl (λj hj x hx=>by simp[Zbe]at hx) q hp;exact⟨V,S,h3⟩
 obtain⟨V,S⟩:=Z5 (Zee J U Z _ _ _ _ _ hW);have Y:=ZbX.of (S _ (aN.2 rfl));refine⟨V,λR t A hs b ds k cs=>?_⟩;have G:∀j,¬(dK ops.size false).getD j false=true:=λj=>by
  rw[aJ,Array.getElem?_replicate];split<;>simp
 have H:∀(i:Nat) {p:Prop},YO 0 i=true->p:=λi p A=>(by rw[Zbe]at A;cases A);have C:CnS ops s s 0:=⟨λi o _ A=>H i A,λ_ _=>rfl,λi A=>H i A,rfl⟩;have C0:Ct R₀ h₀ ops s s h 0 (λi=>(dK ops.size false).getD i false=true) R t:=⟨A,hs.1,λi A=>absurd A (G i),λi _ _ _ A=>H i A,λi o _ A=>absurd A (G i),λi o d _ _ A=>absurd A (G i),λd _=>hs.getD d⟩;have I:ZlY ops (dK ops.size false)<=ops.size:=by
  have:=List.countP_le_length (p:=λi=> !(dK ops.size false).getD i true) (l:=aP ops.size);rw[List.length_range]at this;exact this
 exact ZxD J Y rfl Z _ _ _ _ _ hW C ops.size tape (dK ops.size false) R t (by simp) C0 (λi o _ _ A=>H i A) I b ds k cs
end
end Vm
namespace Vm
open Go Conc1
abbrev FBr (rd:Bool):={b:FB//rd=false->b.roundOf=none}
def CI (P:Program) (rd:Bool) (R₀:RC) (h₀:List Zh) (pre:List Item) (K:Ex->List AV->List Zh->Prop) (s:List AV) (h:List Zh):Prop:=
 ∀(R:RC) (t:Array Value),Inv R₀ h₀ R h->SL R s t->∀(b:FBr rd) (H:List Deferred) (k:List Item) (cs:List Frame),Zej b.1.base R₀.w.heap.size R.w H->
  ∃e I J G S A,K e I J/\Inv R₀ h₀ G J/\SL G I S/\Zej b.1.base R₀.w.heap.size G.w A/\(b.1.roundOf≠none->A=H)/\Arr P R.cx (ZL (mkF b.1 t H (pre++k)) cs R.w) b.1 k cs S A G.w e
structure LP (rd:Bool) (p:Unit->Program) (c:Code) (Q:Ex->List AV->List Zh->Prop) (s:List AV) (h:List Zh):Prop where
 run:∀(R₀:RC) (h₀:List Zh),CI (p ()) rd R₀ h₀ [.code c,.inLoop c] (λe s h=>e≠ .normal/\Q e s h) s h
structure CB (p:Unit->Program) (c:Code) (Q:Ex->List AV->List Zh->Prop) (s:List AV) (h:List Zh):Prop where
 run:∀(R₀:RC) (h₀:List Zh),CI (p ()) false R₀ h₀ [.code c] Q s h
structure XP (rd:Bool) (p:Unit->Program) (c:Code) (Q:Ex->List AV->List Zh->Prop) (s:List AV) (h:List Zh):Prop where
 run:∀(R₀:RC) (h₀:List Zh),CI (p ()) rd R₀ h₀ [.code c] Q s h
def Zg1:Nat->Code->Option Nat
 |0,_=>none
 |n+1,c=>(match c with
  |.region id _ _=>some id
  |.seq x _=>Zg1 n x
  |.block _ x=>Zg1 n x
  |.scope x=>Zg1 n x
  |.loop x=>Zg1 n x
  |_=>none)
def Zig (T:Tb):List Item->Bool
 |.code y::_=>(match T.cuts with
  |[]=>false
  |l=>(match Zg1 6 y with
   |some id=>l.any (ZI id)
   |none=>false))
 |.inBlock _::k=>Zig T k
 |.inScope _::k=>Zig T k
 |_=>false
def rsv (h:List Zh) (a:AV):AV:=match a with
 |.gsl id n=>(match h[id]? with
  |some (.fro s m f)=>.gd (λ_=>decide (n ()=m ())) (.isl s m f .none)
  |_=>.gsl id n)
 |a=>a
def Zeq (T:Tb) (h:List Zh) (s:List AV):List AV:=if T.rs then s.map (rsv h)else s
theorem SL.rsv {G:Nat->Nat->Nat->Prop} {R:RC} {h:List Zh} (H:HR G R h) {s:List AV} {t:Array Value} (A:SL R s t) (T:Tb):SL R (Zeq T h s) t:=by
 unfold Zeq;split
 ·refine⟨by rw[List.length_map];exact A.1,λi a J=>?_⟩;rw[List.getElem?_map,Option.map_eq_some_iff]at J;obtain⟨x,hx,rfl⟩:=J;have hv:=A.2 i x hx;generalize t.getD i undef=u at hv|-;unfold Vm.rsv;split
  ·split
   ·rename_i id n _ s m f Z;cases hv with
    |pure _ _ S=>cases S
    |gsl _ _ a l c aa hn V _=>
     refine .gd _ _ _ λI=>?_;have I:=iW I;obtain⟨U,Y⟩:=H.blk id _ Z;rw[V (by rw[I,U])];exact .pure _ _ Y
   exact hv
  exact hv
 exact A
structure HP (rd:Bool) (nb:Nat) (p:Unit->Program) (k:List Item) (K:Ex->List AV->List Zh->Cd->Prop) (s:List AV) (h:List Zh):Prop where
 run:(∀e s h c,K e s h c->ZW c)->∀(R₀:RC) (h₀:List Zh),R₀.n0<=nb->CI (p ()) rd R₀ h₀ k (λe s h=>∃c,K e s h c) s h
def Zl3 (T:Tb) (id:Nat):Bool:=match T.fl with
 |false=>false
 |true=>T.hand.any (ZI id)
def W (T:Tb) (p:Unit->Program) (K:Ex->List AV->List Zh->Cd->Prop):Nat->List Item->List AV->List Zh->Cd->Prop
 |0,_,_,_,_=>False
 |n+1,k,s,h,c=>(match k with
  |[]=>K .normal s h c
  |.inBlock _::k=>W T p K n k s h c
  |.inScope _::k=>W T p K n k s h c
  |.code x::k=>(match x with
   |.skip=>W T p K n k s h c
   |.label _=>W T p K n k s h c
   |.seq x y=>W T p K n (.code x:: .code y::k) s h c
   |.cond o x y=>if Zig T k then chk c (XP T.rd p (.cond o x y) (λe s h=>match e with
    |.normal=>W T p K n k s h []
    |.exit id=>(match exitTo id k with
     |some k=>W T p K n k s h []
     |none=>K (.exit id) s h [])
    |.ret=>K .ret s h []) s h)else(match strip (ev s o)with
    |.bool b=>chk (c++ZaK (ev s o)) (Br b (λ_=>W T p K n (.code x::k) s h []) (λ_=>W T p K n (.code y::k) s h []))
    |_=>False)
   |.block id x=>if Zig T k then chk c (XP T.rd p (.block id x) (λe s h=>match e with
    |.normal=>W T p K n k s h []
    |.exit id=>(match exitTo id k with
     |some k=>W T p K n k s h []
     |none=>K (.exit id) s h [])
    |.ret=>K .ret s h []) s h)else W T p K n (.code x:: .inBlock id::k) s h c
   |.scope x=>W T p K n (.code x:: .inScope x::k) s h c
   |.loop x=>if T.fl&&T.lp then chk c (HP T.rd T.nb p (.code x:: .inLoop x::k) K s h)else chk c (LP T.rd p x (λe s h=>match e with
    |.normal=>False
    |.exit id=>(match exitTo id k with
     |some k=>W T p K n k s h []
     |none=>K (.exit id) s h [])
    |.ret=>K .ret s h []) s h)
   |.exit id=>(match exitTo id k with
    |some k=>W T p K n k s h c
    |none=>K (.exit id) s h c)
   |.goto l=>(match gotoIn l k with
    |some k=>if T.fl then chk c (HP T.rd T.nb p k K s h)else False
    |none=>False)
   |.ret=>K .ret s h c
   |.region id ops d=>if Zl3 T id then chk c (HP T.rd T.nb p (.code (.region id ops d)::k) K s h)else(match d with
    |false=>ZjE T p ops ops.toList s h c (λs h c=>W T p K n k (Zeq T h s) h c)
    |true=>Zmw T p ops s h c (λs h c=>W T p K n k (Zeq T h s) h c))
   |.rangeFunc f ps a x=>if T.rd then False else chk c (CB p (.rangeFunc f ps a x) (λe s h=>match e with
    |.normal=>W T p K n k s h []
    |.exit id=>(match exitTo id k with
     |some k=>W T p K n k s h []
     |none=>K (.exit id) s h [])
    |.ret=>K .ret s h []) s h)
   |_=>False)
  |.inLoop x::k=>if T.fl then chk c (HP T.rd T.nb p (.code x:: .inLoop x::k) K s h)else False
  |_=>False)
section
variable {P:Program} {rd:Bool} {R₀:RC} {h₀:List Zh}
theorem Zhi {R R':RC} {h h':List Zh} {m:Cf} {b:FB} {k:List Item} {cs:List Frame} {t:Array Value} {ds:List Deferred} {w:World} {e:Ex} (hi:Inv R₀ h₀ R h) (A:Inv R₀ h₀ R' h') (s:Arr P R'.cx m b k cs t ds w e):Arr P R.cx m b k cs t ds w e:=by
 rw[hi.le.cx,<-A.le.cx];exact s
theorem CI.mono {pre:List Item} {K A:Ex->List AV->List Zh->Prop} {s:List AV} {h:List Zh} (H:CI P rd R₀ h₀ pre K s h) (I:∀e s h,K e s h->A e s h):CI P rd R₀ h₀ pre A s h:=
 λR t U J b S k cs G=>let ⟨e,s',h',R',t',ds',a,r⟩:=H R t U J b S k cs G;⟨e,s',h',R',t',ds',I _ _ _ a,r⟩
theorem CI.here {pre:List Item} {K:Ex->List AV->List Zh->Prop} {s:List AV} {h:List Zh} (e:Ex) (I:K e s h) (G:∀ {cx:Option Nat} (b:FB) (t:Array Value) (A:List Deferred) (k:List Item) (cs:List Frame) (w:World),Arr P cx (ZL (mkF b t A (pre++k)) cs w) b k cs t A w e):CI P rd R₀ h₀ pre K s h:=
 λR t S J b A k cs H=>⟨e,s,h,R,t,A,I,S,J,H,λ_=>rfl,G b t A k cs R.w⟩
theorem CI.step {pre pre':List Item} {K:Ex->List AV->List Zh->Prop} {s:List AV} {h:List Zh} (H:CI P rd R₀ h₀ pre' K s h) (G:∀ {cx:Option Nat} (b:FB) (t:Array Value) (A:List Deferred) (k:List Item) (cs:List Frame) (w:World),Steps P cx (ZL (mkF b t A (pre++k)) cs w) (ZL (mkF b t A (pre'++k)) cs w)):CI P rd R₀ h₀ pre K s h:=
 λR t S J b A k cs I=>let ⟨e,s',h',R',t',ds',a1,a2,a5,a6,a7,a8⟩:=H R t S J b A k cs I;⟨e,s',h',R',t',ds',a1,a2,a5,a6,a7,Arr.of_steps (G b t A k cs R.w) a8⟩
theorem Inv.drawn {R:RC} {h:List Zh} (H:Inv R₀ h₀ R h) (n:Nat):Inv R₀ h₀ {R with w:={R.w with drawn:=n}} h/\Xj R h {R with w:={R.w with drawn:=n}} h/\R.le {R with w:={R.w with drawn:=n}}:=by
 have A:R.le {R with w:={R.w with drawn:=n}}:=⟨aI _,λ_ _=>rfl,λ_ _=>⟨Int.le_refl _,λ_=>rfl⟩,λ_ _=>.refl _,λ_ _ _ h=>h,λ_ _ _ _ _ _=>rfl,λ_ _ _ _ h=>h,rfl⟩;have I:Xj R h {R with w:={R.w with drawn:=n}} h:=⟨rfl,rfl,rfl,rfl,aI _,aI _,λ_ _=>rfl,λ_ _ _ k=>k,λ_ _ _ _ _ _=>rfl,λ_ _ _=>rfl,λid blk b G J=>.inr ⟨id,blk,G,J,.inl rfl⟩⟩;exact⟨H.step ⟨H.hr.len,H.hr.okd,λid blk G=>(H.hr.blk id blk G).mono A rfl rfl rfl rfl (λ_ _=>rfl),H.hr.dis,H.hr.cl,H.hr.fresh,H.hr.tokG,H.hr.n0m⟩ I A,I,A⟩
theorem CI.region {id:Nat} {ops:Array Oper} {s:List AV} {h:List Zh} {K:List AV->List Zh->Prop} {I:Ex->List AV->List Zh->Prop} (H:ZbT P R₀ h₀ ops (aP ops.size) s h K) (U:∀s h,K s h->I .normal s h):CI P rd R₀ h₀ [.code (.region id ops false)] I s h:=
 λR t G hs b A k cs J=>by
  obtain⟨S,V,R',t',Y,Z,a3,a4,a5,a6⟩:=H R t G hs b.1 A k cs;exact⟨.normal,S,V,R',t',A,U _ _ Y,Z,a5,J.ext G.hr a3,λ_=>rfl,.head ZcH a6⟩
theorem CI.regionD (hm:P.follows .mixedOrders=true) {id:Nat} {ops:Array Oper} {s:List AV} {h:List Zh} {K:List AV->List Zh->Prop} {S:Ex->List AV->List Zh->Prop} (H:∀tape,ZbT P R₀ h₀ ops (Region.linearise .any ops tape) s h K) (Z:∀s h,K s h->S .normal s h):
  CI P rd R₀ h₀ [.code (.region id ops true)] S s h:=
 λR t I hs b G k cs U=>by
  obtain⟨A,hx,J⟩:=I.drawn (R.w.drawn+1);obtain⟨V,h',R',Y,a1,a2,a3,a4,a5,a6⟩:=H (R.w.tape R.w.drawn (.order b.1.fn id)) _ t A (hs.mono J) b.1 G k cs;refine⟨.normal,V,h',R',Y,G,Z _ _ a1,a2,a5,(U.ext I.hr hx).ext A.hr a3,λ_=>rfl,.head Zlr ?_⟩;simp only[Region.schedule,hm,Bool.true_or,if_true];exact a6
theorem Jz {id:Nat}:∀ {a b:List Item},exitTo id (a++b)=match exitTo id a with
  |some k=>some (k++b)
  |none=>exitTo id b
 |[],b=>rfl
 |x::a,b=>by
  cases x with
  |inBlock i=>
   simp only[iw,exitTo];split
   ·rfl
   exact Jz
  |_=>exact Jz (a:=a)
theorem CI.rsv {T:Tb} {k:List Item} {K:Ex->List AV->List Zh->Prop} {s:List AV} {h:List Zh} (H:CI P rd R₀ h₀ k K (Zeq T h s) h):CI P rd R₀ h₀ k K s h:=
 λR t A G=>H R t A (G.rsv A.hr T)
theorem CI.then {x:Item} {k:List Item} {A:List AV->List Zh->Prop} {K:Ex->List AV->List Zh->Prop} {s:List AV} {h:List Zh} (H:CI P rd R₀ h₀ [x] (λe s h=>e= .normal/\A s h) s h) (hn:∀s h,A s h->CI P rd R₀ h₀ k K s h):CI P rd R₀ h₀ (x::k) K s h:=by
 intro R t Y hs b ds V cs hd;obtain⟨e,s',h',R',t',U,⟨rfl,a1⟩,Z,a5,a6,a7,a8⟩:=H R t Y hs b ds (k++V) cs hd;obtain⟨e,S,J,aa,I,G,b1,b2,b5,b6,b7,b8⟩:=hn s' h' a1 R' t' Z a5 b U V cs a6;exact⟨e,S,J,aa,I,G,b1,b2,b5,b6,λhr=>(b7 hr).trans (a7 hr),Arr.of_steps a8 (Zhi Y Z b8)⟩
theorem CI.out {pre:List Item} {k:List Item} {Q K:Ex->List AV->List Zh->Prop} {s:List AV} {h:List Zh} (H:CI P rd R₀ h₀ pre Q s h) (hn:∀s h,Q .normal s h->CI P rd R₀ h₀ k K s h)
  (hx:∀id s h,Q (.exit id) s h->match exitTo id k with
   |some k=>CI P rd R₀ h₀ k K s h
   |none=>K (.exit id) s h) (hr:∀s h,Q .ret s h->K .ret s h):CI P rd R₀ h₀ (pre++k) K s h:=by
 intro R t hi hs b ds k' cs hd;obtain⟨e,Z,h',R',t',G,a1,I,a5,a6,a7,Y⟩:=H R t hi hs b ds (k++k') cs hd;rw[<-dW]at Y;cases e with
 |normal=>
  obtain⟨e,U,S,V,J,A,b1,b2,b5,b6,b7,b8⟩:=hn Z h' a1 R' t' I a5 b G k' cs a6;exact⟨e,U,S,V,J,A,b1,b2,b5,b6,λhr=>(b7 hr).trans (a7 hr),Arr.of_steps Y (Zhi hi I b8)⟩
 |ret=>exact⟨.ret,Z,h',R',t',G,hr _ _ a1,I,a5,a6,a7,Y⟩
 |exit id=>
  have hh:=hx id Z h' a1;obtain⟨q,q1,q2⟩:=Y;cases he:exitTo id k with
  |none=>
   rw[he]at hh;exact⟨.exit id,Z,h',R',t',G,hh,I,a5,a6,a7,q++k,λaa=>by rw[dW,q1,Jz,he],by rw[dW q];exact q2⟩
  |some k2=>
   rw[he]at hh;obtain⟨e,U,S,V,J,A,b1,b2,b5,b6,b7,b8⟩:=hh R' t' I a5 b G k' cs a6;refine⟨e,U,S,V,J,A,b1,b2,b5,b6,λhr=>(b7 hr).trans (a7 hr),Arr.of_steps (Steps.trans q2 (.one (ZmG ?_))) (Zhi hi I b8)⟩;rw[q1,Jz,he]
theorem ZaR {l:Nat}:∀ {a b k:List Item},gotoIn l a=some k->gotoIn l (a++b)=some (k++b)
 |[],_,_,h=>by cases h
 |x::a,b,k,h=>by
  cases x with
  |inScope G=>
   simp only[gotoIn,iw]at h|-;split at h
   ·rename_i A hr;cases h;simp
   rename_i hr;exact ZaR h
  |_=>exact ZaR (a:=a) h
theorem Zmx {T:Tb} {p:Unit->Program} (hT:T.Of (p ())) (hm:(p ()).follows .mixedOrders=true) (aa:T.fl=true->R₀.n0<=T.nb) {K:Ex->List AV->List Zh->Cd->Prop} (Y:∀e s h c,K e s h c->ZW c):∀(n:Nat) (k:List Item) (s:List AV) (h:List Zh) (c:Cd),W T p K n k s h c->
  ZW c/\CI (p ()) T.rd R₀ h₀ k (λe s h=>∃c,K e s h c) s h:=by
 intro n;induction n with
 |zero=>intro k s h c hW;simp only[W]at hW
 |succ n I=>
  intro k s h c hW
  have S:∀(id:Nat) (k:List Item) (s:List AV) (h:List Zh) (c:Cd),(match exitTo id k with
    |some k=>W T p K n k s h c
    |none=>K (.exit id) s h c)->(match exitTo id k with
    |some k=>CI (p ()) T.rd R₀ h₀ k (λe s h=>∃c,K e s h c) s h
    |none=>∃c,K (.exit id) s h c)/\ZW c:=λid k s h c V=>by
   cases he:exitTo id k with
   |none=>rw[he]at V;exact⟨⟨_,V⟩,Y _ _ _ _ V⟩
   |some k=>rw[he]at V;exact⟨(I _ _ _ _ V).2,(I _ _ _ _ V).1⟩
  unfold W at hW;split at hW
  ·exact⟨Y _ _ _ _ hW,CI.here .normal ⟨_,hW⟩ λ_ _ _ _ _ _=>.refl _⟩
  ·obtain⟨G,A⟩:=I _ _ _ _ hW;exact⟨G,CI.step A λ_ _ _ _ _ _=>.one Zlu⟩
  ·obtain⟨G,A⟩:=I _ _ _ _ hW;exact⟨G,CI.step A λ_ _ _ _ _ _=>.one Zlt⟩
  ·split at hW
   ·obtain⟨G,A⟩:=I _ _ _ _ hW;exact⟨G,CI.step A λ_ _ _ _ _ _=>.one Zsy⟩
   ·obtain⟨G,A⟩:=I _ _ _ _ hW;exact⟨G,CI.step A λ_ _ _ _ _ _=>.one Zqc⟩
   ·obtain⟨G,A⟩:=I _ _ _ _ hW;exact⟨G,CI.step A λ_ _ _ _ _ _=>.one ZiF⟩
   ·rename_i k _ o x y;split at hW
    ·obtain⟨G,A⟩:=Z9 hW;exact⟨G,CI.out (pre:=[.code (.cond o x y)]) (A.run R₀ h₀) (λs h H=>(I _ _ _ _ H).2) (λid s h H=>(S _ _ _ _ _ H).1) (λs h H=>⟨_,H⟩)⟩
    split at hW;case h_2=>exact hW.elim
    rename_i v hv;obtain⟨G,A⟩:=Z9 hW;obtain⟨h3,h4⟩:=Z5 G;refine⟨h3,λR t hi hs b ds k' cs hd=>?_⟩;have hb:=(hs.ev o).strip h4;rw[hv]at hb;have hb:=hb.bool_inv;have Z:Steps (p ()) R.cx (ZL (mkF b t ds (.code (.cond o x y)::k++k')) cs R.w) (ZL (mkF b t ds (.code (if v ()then x else y)::k++k')) cs R.w):=.one (ZmH (by rw[ZcM];exact hb));cases hvv:v ()with
    |true=>
     obtain⟨e,s',h',R',t',ab,a1,a2,a5,a6,a7,a8⟩:=(I _ _ _ _ (A.t hvv)).2 R t hi hs b ds k' cs hd;rw[hvv]at Z;exact⟨e,s',h',R',t',ab,a1,a2,a5,a6,a7,Arr.of_steps Z a8⟩
    |false=>
     obtain⟨e,s',h',R',t',ab,a1,a2,a5,a6,a7,a8⟩:=(I _ _ _ _ (A.f hvv)).2 R t hi hs b ds k' cs hd;rw[hvv]at Z;exact⟨e,s',h',R',t',ab,a1,a2,a5,a6,a7,Arr.of_steps Z a8⟩
   ·rename_i k _ id x;split at hW
    ·obtain⟨G,A⟩:=Z9 hW;exact⟨G,CI.out (pre:=[.code (.block id x)]) (A.run R₀ h₀) (λs h H=>(I _ _ _ _ H).2) (λid s h H=>(S _ _ _ _ _ H).1) (λs h H=>⟨_,H⟩)⟩
    obtain⟨G,A⟩:=I _ _ _ _ hW;exact⟨G,CI.step A λ_ _ _ _ _ _=>.one Zqe⟩
   ·obtain⟨G,A⟩:=I _ _ _ _ hW;exact⟨G,CI.step A λ_ _ _ _ _ _=>.one Zp9⟩
   ·rename_i k _ x;split at hW
    ·rename_i J;simp only[aU]at J;obtain⟨G,A⟩:=Z9 hW;exact⟨G,CI.step (pre':=.code x:: .inLoop x::k) (A.run Y R₀ h₀ (aa J.1)) λ_ _ _ _ _ _=>.one ZmF⟩
    obtain⟨G,A⟩:=Z9 hW;refine⟨G,CI.step (pre':=[.code x,.inLoop x]++k) (CI.out (A.run R₀ h₀) (λs h H=>absurd rfl H.1) (λid s h H=>(S _ _ _ _ _ H.2).1) (λs h H=>⟨_,H.2⟩)) λ_ _ _ _ _ _=>.one ZmF⟩
   ·rename_i k _ id;have V:=S _ _ _ _ _ hW;refine⟨V.2,CI.out (pre:=[.code (.exit id)]) (Q:=λe s' h'=>e= .exit id/\s'=s/\h'=h) (CI.here (.exit id) ⟨rfl,rfl,rfl⟩ λ_ _ _ _ _ _=>⟨[],λ_=>rfl,.refl _⟩) (λs h H=>by cases H.1) (λae s' h' H=>?_) (λs h H=>by cases H.1)⟩;obtain⟨e,rfl,rfl⟩:=H;cases e;exact V.1
   ·split at hW;case h_2=>exact hW.elim
    rename_i k2 hg;split at hW;case isFalse=>exact hW.elim
    rename_i J;obtain⟨G,A⟩:=Z9 hW;exact⟨G,CI.step (A.run Y R₀ h₀ (aa J)) λ_ _ _ _ _ _=>.one (Zsz (ZaR hg))⟩
   ·exact⟨Y _ _ _ _ hW,CI.here .ret ⟨_,hW⟩ λ_ _ _ k _ _=>⟨_,.refl _⟩⟩
   ·split at hW
    ·rename_i J;have J:T.fl=true:=by
      unfold Zl3 at J;split at J
      ·cases J
      rename_i h;exact h
     obtain⟨G,A⟩:=Z9 hW;exact⟨G,A.run Y R₀ h₀ (aa J)⟩
    split at hW;case h_2=>
     exact⟨(Zir hT (R₀:=R₀) (h₀:=h₀) (λs h c U=>(I _ _ _ _ U).1) hW 0).1,CI.then (CI.regionD hm (λtape=>(Zir hT (R₀:=R₀) (h₀:=h₀) (λs h c U=>(I _ _ _ _ U).1) hW tape).2) λs h U=>⟨rfl,U⟩) λs h ⟨c,U⟩=>CI.rsv (I _ _ _ _ U).2⟩
    obtain⟨G,A⟩:=Zmv hT (R₀:=R₀) (h₀:=h₀) (λs h c U=>(I _ _ _ _ U).1) hW;exact⟨G,CI.then (CI.region A λs h U=>⟨rfl,U⟩) λs h ⟨c,U⟩=>CI.rsv (I _ _ _ _ U).2⟩
   ·rename_i k _ f ps a x;split at hW
    ·exact hW.elim
    rename_i ac;have ac:T.rd=false:=by simpa using ac
    obtain⟨G,A⟩:=Z9 hW;have A:=A.run R₀ h₀;rw[<-ac]at A;exact⟨G,CI.out (pre:=[.code (.rangeFunc f ps a x)]) A (λs h H=>(I _ _ _ _ H).2) (λid s h H=>(S _ _ _ _ _ H).1) (λs h H=>⟨_,H⟩)⟩
   exact hW.elim
  ·split at hW;case isFalse=>exact hW.elim
   rename_i J;obtain⟨G,A⟩:=Z9 hW;exact⟨G,CI.step (A.run Y R₀ h₀ (aa J)) λ_ _ _ _ _ _=>.one ZhR⟩
  exact hW.elim
theorem HP.ofW {T:Tb} {p:Unit->Program} (hT:T.Of (p ())) (hm:(p ()).follows .mixedOrders=true) {K:Ex->List AV->List Zh->Cd->Prop} {n:Nat} {k:List Item} {s:List AV} {h:List Zh} (hW:W T p K n k s h []):HP T.rd T.nb p k K s h:=
 ⟨λG H I A=>(Zmx hT hm (λ_=>A) G n k s h [] hW).2⟩
theorem XP.mono {rd:Bool} {p:Unit->Program} {x:Code} {Q Q':Ex->List AV->List Zh->Prop} {s:List AV} {h:List Zh} (H:XP rd p x Q s h) (I:∀e s h,Q e s h->Q' e s h):XP rd p x Q' s h:=⟨λA G=>(H.run A G).mono I⟩
theorem LP.mono {rd:Bool} {p:Unit->Program} {x:Code} {Q Q':Ex->List AV->List Zh->Prop} {s:List AV} {h:List Zh} (H:LP rd p x Q s h) (I:∀e s h,Q e s h->Q' e s h):LP rd p x Q' s h:=⟨λG A=>(H.run G A).mono λe s h ⟨S,J⟩=>⟨S,I _ _ _ J⟩⟩
end
end Vm
end Go.Proofs.YtjgpiclllehgmaaGreat
