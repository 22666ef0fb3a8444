/- Lemmas. -/
import Derived.Test.YtjgpiclllehgmaaGreatML
set_option linter.all false
open Array renaming all_eq_true->ig,append_assoc->dB,getD_eq_getD_getElem?->aI,getElem?_append_left->dF,getElem?_append_right->dW,getElem?_eq_getElem->aY,getElem?_eq_none->eE,getElem?_eq_some_iff->aM,getElem?_setIfInBounds->bR,mem_toList_iff->cM,replicate->dJ
open Bool renaming and_eq_true->aT,not_eq_true'->cG,not_true->dY,or_eq_true->dC,or_false->eN
open List renaming all_eq_true->bL,append_assoc->dT,cons_append->im,countP->iM,countP_cons->fP,getD_eq_getElem?_getD->aA,getElem?_append->dX,getElem?_eq_none->cD,mem_append_left->ei,mem_cons->bG,mem_cons_of_mem->aQ,mem_cons_self->aU,mem_filter->ff,mem_map->bE,mem_range->bW,mem_singleton->aN,range->aR,range'->eH
open Nat renaming le_refl->aJ,lt_or_ge->fq,sub_self->eX,testBit_and->ix,testBit_or->iz
open Go.Op renaming operands->bD
open Option renaming bind_some->gG,getD_some->bY,map_some->cL
open Option.some renaming injEq->aC
open Prod.mk renaming injEq->aK
open Go.Result renaming andThen_ok->aH
open Go.Sem renaming run_bind->aP,run_pure->bC
namespace Go.Proofs.YtjgpiclllehgmaaGreat
namespace Vm
open Go Conc1
inductive Ex where
 |normal
 |exit (id:Nat)
 |ret
def Arr (P:Program) (cx:Option Nat) (m:Cf) (b:FB) (k:List Item) (cs:List Frame) (t:Array Value) (ds:List Deferred) (w:World):Ex->Prop
 |.normal=>Steps P cx m (ZH (mkF b t ds k) cs w)
 |.exit id=>∃A,(∀k,exitTo id (A++k)=exitTo id k)/\Steps P cx m (ZH (mkF b t ds (.code (.exit id)::(A++k))) cs w)
 |.ret=>∃G,Steps P cx m (ZH (mkF b t ds (.code .ret::G)) cs w)
theorem Arr.of_steps {P:Program} {cx:Option Nat} {m A:Cf} {b:FB} {k:List Item} {cs:List Frame} {t:Array Value} {ds:List Deferred} {w:World} {e:Ex} (h:Steps P cx m A) (h':Arr P cx A b k cs t ds w e):Arr P cx m b k cs t ds w e:=by
 cases e with
 |normal=>exact h.trans h'
 |exit id=>obtain⟨I,H,J⟩:=h';exact⟨I,H,h.trans J⟩
 |ret=>obtain⟨G,H⟩:=h';exact⟨G,h.trans H⟩
theorem Zvp {P:Program} {R R':RC} {m:Cf} {b:FB} {k:List Item} {cs:List Frame} {t:Array Value} {ds:List Deferred} {w:World} {e:Ex} (h:R.le R') (s:Arr P R'.cx m b k cs t ds w e):Arr P R.cx m b k cs t ds w e:=h.cx▸s
theorem Arr.pass {P:Program} {cx:Option Nat} {m:Cf} {b:FB} {x:Item} {k:List Item} {cs:List Frame} {t:Array Value} {ds:List Deferred} {w:World} {e:Ex} (I:∀id k,exitTo id (x::k)=exitTo id k) (H:e≠ .normal)
  (h:Arr P cx m b (x::k) cs t ds w e):Arr P cx m b k cs t ds w e:=by
 cases e with
 |normal=>exact absurd rfl H
 |exit id=>
  obtain⟨A,J,G⟩:=h;exact⟨A++[x],fun k=>by rw[dT];exact(J _).trans (I id k),by simpa using G⟩
 |ret=>exact h
theorem Ys {P:Program} {R R':RC} {a b:Cf} (h:R.le R') (s:Steps P R'.cx a b):Steps P R.cx a b:=h.cx▸s
theorem ZqJ {P:Program} {R R':RC} {f:FuncId} {vs:Array Value} {cs:List Frame} {w w':World} {v:Value} (h:R.le R') (s:Zia P R'.cx f vs cs w v w'):Zia P R.cx f vs cs w v w':=h.cx▸s
def Zd0 (base:List Deferred) (n0:Nat) (w:World) (ds:List Deferred):Prop:=
 ∃rs:List Nat,ds=rs.map (fun r=>{target:=.collected r,args:= #[]})++base/\rs.Nodup/\∀r∈rs,n0<=r/\w.heap[r]? =some (.deferred (some []))
structure Inv (R₀:RC) (h₀:List Zh) (R:RC) (h:List Zh):Prop where
 hr:HR (Gof R₀ h₀) R h
 ext:Xd R₀ h₀ R h
 le:R₀.le R
 len:h₀.length=R₀.m
 st:h₀.length<=R₀.n0
theorem Inv.refl {G:Nat->Nat->Nat->Prop} {R:RC} {h:List Zh} (H:HR G R h) (A:h.length<=R.n0):Inv R h R h:=⟨H.entry,Xd.refl _ _,RC.le.refl _,H.len,A⟩
theorem Inv.step {R₀ R R':RC} {h₀ h h':List Zh} (H:Inv R₀ h₀ R h) (hr:HR (Gof R₀ h₀) R' h') (G:Xd R h R' h') (A:R.le R'):Inv R₀ h₀ R' h':=⟨hr,H.ext.trans G,H.le.trans A,H.len,H.st⟩
theorem Zd0.ext {base:List Deferred} {n0:Nat} {G:Nat->Nat->Nat->Prop} {R R':RC} {h h':List Zh} {ds:List Deferred} (H:HR G R h) (hx:Xd R h R' h') (hd:Zd0 base n0 R.w ds):Zd0 base n0 R'.w ds:=by
 obtain⟨rs,h1,h2,h3⟩:=hd;refine⟨rs,h1,h2,fun r hr=>⟨(h3 r hr).1,?_⟩⟩;have I:=(h3 r hr).2;rw[hx.frame r (aM.1 I).1 (fun id blk hi A=>?_)]
 ·exact I
 have S:=H.blk id blk hi;cases blk with
 |cells cs=>obtain⟨arr,ty,e,_⟩:=S;rw[show(R.α id).b=r from A,I]at e;cases e
 |arr s n f=>obtain⟨arr,ty,_,e,_⟩:=S;rw[show(R.α id).b=r from A,I]at e;cases e
 |mapB m=>obtain⟨es,c,e,_⟩:=S;rw[show(R.α id).b=r from A,I]at e;cases e
 |loop s d=>obtain⟨l,e,_⟩:=S;rw[show(R.α id).b=r from A,I]at e;cases e
 |dead=>exact A
 |main=>exact A
 |gob g=>obtain⟨o,e,h1,_⟩:=S;rw[show(R.α id).b=r from A,I]at e;cases e;cases h1
 |fro s n f=>exact A
 |gar s n f=>
  obtain⟨a,l,c,J,e2,e3⟩:=A;obtain⟨_,⟨_,a3,U⟩|⟨Z,o,len,aa,arr,ty,_,_,U,V,_⟩⟩:=S
  ·rw[U]at J;cases J;omega
  rw[U]at J;cases J;rw[show Z=r from e3,I]at V;cases V
 |vgar s n f=>
  obtain⟨arr,ty,e⟩:=S.2.heap A;rw[I]at e;cases e
 |fam z s n m g=>
  obtain⟨us,hv,i,v,hu,A⟩:=A;obtain⟨_,_,ab,Y,_,ha,_⟩:=S;rw[hv]at Y;cases Y;obtain⟨arr,ty,e⟩:=(ha i v hu).heap A;rw[I]at e;cases e
 |tok s hw=>
  obtain⟨a,n,c,J,e2,e3⟩:=A;obtain⟨_,⟨_,a3,U⟩|⟨Z,o,len,aa,_,_,U,V⟩⟩:=S
  ·rw[U]at J;cases J;omega
  rw[U]at J;cases J;obtain⟨arr,ty,V,_⟩:=V e2;rw[show Z=r from e3,I]at V;cases V
structure SC (p:Unit->Program) (f:FuncId) (xs:List AV) (h:List Zh) (Post:AV->List Zh->Prop):Prop where
 enter:∃fn c,(p ()).funcs[f]? =some fn/\fn.body=some c/\(fn.name== "runtime.NumGoroutine")=false
 run:∀(G:Nat->Nat->Nat->Prop) (R:RC) (vs:Array Value),HR G R h->X0 R xs vs->
  ∀(cs:List Frame),∃v R' r h',Zia (p ()) R.cx f vs cs R.w v R'.w/\HR G R' h'/\Xd R h R' h'/\R.le R'/\VR R' r v/\Post r h'
structure YC (p:Unit->Program) (id:Nat) (xs:List AV) (h:List Zh) (Post:AV->List Zh->Prop):Prop where
 run:∀(G:Nat->Nat->Nat->Prop) (R:RC) (vs:Array Value),HR G R h->X0 R xs vs->∃f tmps a x,(Instr.yield (R.α id).b vs).run (p ()) R.w= .ok (.round (R.α id).b f tmps a x) R.w/\
  ∀(c:Frame) (cs:List Frame),∃v R' r h',Steps (p ()) R.cx (ZH (Frame.round (R.α id).b f tmps a x .normal) (c::cs) R.w) (ZH (c.finish v) cs R'.w)/\HR G R' h'/\Xd R h R' h'/\R.le R'/\VR R' r v/\Post r h'
theorem YC.mono {p:Unit->Program} {id:Nat} {xs:List AV} {h:List Zh} {Q Q':AV->List Zh->Prop} (H:YC p id xs h Q) (I:∀r A,Q r A->Q' r A):YC p id xs h Q':=
 ⟨fun G R J hr S=>let ⟨f,tmps,a,x,h1,h2⟩:=H.run G R J hr S;⟨f,tmps,a,x,h1,fun c cs=>let ⟨v,R',r,A,a1,a2,a3,a4,a5,a6⟩:=h2 c cs;⟨v,R',r,A,a1,a2,a3,a4,a5,I _ _ a6⟩⟩⟩
structure NC (p:Unit->Program) (id:Nat) (h:List Zh) (Post:AV->List Zh->Prop):Prop where
 run:∀(G:Nat->Nat->Nat->Prop) (R:RC),HR G R h->∃v R' r h',(∀ty,(Instr.next (.pointer (some ⟨(R.α id).b,0,none⟩)) false ty).run (p ()) R.w= .ok v R'.w)/\HR G R' h'/\Xd R h R' h'/\R.le R'/\VR R' r v/\Post r h'
theorem NC.mono {p:Unit->Program} {id:Nat} {h:List Zh} {Q Q':AV->List Zh->Prop} (H:NC p id h Q) (I:∀r A,Q r A->Q' r A):NC p id h Q':=
 ⟨fun G R hr=>let ⟨v,R',r,A,a1,a2,a3,a4,a5,a6⟩:=H.run G R hr;⟨v,R',r,A,a1,a2,a3,a4,a5,I _ _ a6⟩⟩
inductive Tg where
 |fn (f:FuncId)
 |yld (id:Nat)
 |nxt (id:Nat)
theorem SC.mono {p:Unit->Program} {f:FuncId} {xs:List AV} {h:List Zh} {Q Q':AV->List Zh->Prop} (H:SC p f xs h Q) (I:∀r A,Q r A->Q' r A):SC p f xs h Q':=
 ⟨H.enter,fun G R J hr S cs=>let ⟨v,R',r,A,a1,a2,a3,a4,a5,a6⟩:=H.run G R J hr S cs;⟨v,R',r,A,a1,a2,a3,a4,a5,I _ _ a6⟩⟩
def SCt (p:Unit->Program) (t:Tg) (xs:List AV) (h:List Zh) (A:AV->List Zh->Prop):Prop:=match t with
 |.fn f=>SC p f xs h A
 |.yld id=>YC p id xs h A
 |.nxt id=>NC p id h A
theorem SCt.mono {p:Unit->Program} {t:Tg} {xs:List AV} {h:List Zh} {Q Q':AV->List Zh->Prop} (H:SCt p t xs h Q) (A:∀r G,Q r G->Q' r G):SCt p t xs h Q':=by
 cases t with
 |fn f=>exact SC.mono H A
 |yld id=>exact YC.mono H A
 |nxt id=>exact NC.mono H A
def ZpF:AV->Option (Tg×List AV×List AV)
 |.fn f a b=>some (.fn f,a,b)
 |.yld id=>some (.yld id,[],[])
 |_=>none
structure Chk (c:Cd) (G:Prop):Prop where
 c:ZT c
 g:G
structure Br (b:Unit->Bool) (A B:Unit->Prop):Prop where
 t:b ()=true->A ()
 f:b ()=false->B ()
def chk (c:Cd) (G:Prop):Prop:=match c with
 |[]=>G
 |_=>Chk c G
theorem Z5 {c:Cd} {G:Prop} (h:chk c G):ZT c/\G:=by
 unfold chk at h;split at h
 ·exact⟨Yb,h⟩
 exact⟨h.c,h.g⟩
def putO (s:List AV):Option Tmp->AV->List AV
 |some d,v=>s.set d v
 |none,_=>s
def Zee:Op->Nat
 |.alloc _|.box .. |.store .. |.makeMap .. |.mapUpdate .. |.range .. |.makeSlice .. =>1
 |.send .. =>5
 |.next _ false=>6
 |.call {callee:=.builtin .copy,.. }=>1
 |.call {callee:=.builtin .clear,.. }=>1
 |.call {callee:=.builtin .append,.. }=>1
 |.call {callee:=.value _,.. }=>2
 |.pick .. =>3
 |.buildSlice .. =>4
 |_=>0
def ZmI (ops:Array Oper):Option (Nat×Bool)->List Operand
 |some (j,_)=>(match(ops[j]?).bind (·.dst)with
  |some d=>[.tmp d]
  |none=>[])
 |none=>[]
def ZhC (ops:Array Oper) (o:Oper):List Operand:=o.op.operands.toList++ZmI ops o.guard
def ZgJ (ops:Array Oper) (E:Operand->AV):Option (Nat×Bool)->Option (Option (Unit->Bool))
 |none=>some none
 |some (j,w)=>(match(ops[j]?).bind (·.dst)with
  |some d=>(match E (.tmp d)with
   |.bool b=>some (some (if w then b else fun _=> !b ()))
   |.ob g b=>some (some (if w then fun _=>bif g ()then b ()else false else fun _=>bif g ()then !b ()else false))
   |_=>none)
  |none=>none)
def gdC (E:Operand->AV):List Operand->Cd
 |[]=>[]
 |x::r=>Zas (E x)++gdC E r
def Zi3:Op->Option (Operand×List Operand)
 |.call {callee:=.value f,args,.. }=>some (f,args.toList)
 |_=>none
def ZuY (g:Unit->Bool):Cd->Cd
 |[]=>[]
 |x::r=>.i g x::ZuY g r
def gW (g:Unit->Bool):AV->AV
 |.bool b=>.ob g b
 |v=>.gd g v
def ZbQ (v:AV) (c:Cd):Option (Unit->Bool)->AV×Cd
 |none=>(v,c)
 |some g=>(gW g v,ZuY g c)
def JA (T:Tb) (ops:Array Oper) (o:Oper) (E:Operand->AV) (h:List Zh):Option (AV×Cd):=
 match ZgJ ops E o.guard with
 |none=>none
 |some g=>(match Zee o.op with
  |0=>(match ZgN T (fun x=>strip (E x)) h o.op with
   |some (v,c)=>some (ZbQ v (gdC E o.op.operands.toList++c) g)
   |none=>(match g with
    |some g=>some (.undef,[dd fun _=>g ()=false])
    |none=>none))
  |3=>(match ZgN T E h o.op with
   |some (v,c)=>some (ZbQ v c g)
   |none=>none)
  |4=>(match o.op with
   |.buildSlice t n ps=>(match Yj T (fun x=>strip (E x)) t n ps.toList with
    |some v=>some (ZbQ v (gdC E o.op.operands.toList) g)
    |none=>none)
   |_=>none)
  |_=>none)
def ZcT (c:Cd) (g:Option (Unit->Bool)) (A:Cd->Prop) (B:Unit->Prop):Prop:=match g with
 |none=>A c
 |some g=>chk c (Br g (fun _=>A []) B)
def Zko:List Zh->Nat->Option (Nat×Nat×(Unit->List Bool))
 |[],_=>none
 |.gob (.chq c l)::_,i=>some (i,c,l)
 |_::r,i=>Zko r (i+1)
def Zjt (h:List Zh) (a b:AV):Option (List Zh×Cd):=match a,b with
 |.cch c,.bool v=>(match Zko h 0 with
  |some (id,c',l)=>some (h.set id (.gob (.chq c' fun _=>l ()++[v ()])),[dd fun _=>c=c'])
  |none=>none)
 |_,_=>none
def Zim:Op->Option (Operand×Operand)
 |.send c x=>some (c,x)
 |_=>none
def Ziu:Op->Option Operand
 |.next x false=>some x
 |_=>none
def ZmB:AV->Option Nat
 |.mit id=>some id
 |_=>none
def Wop (T:Tb) (p:Unit->Program) (ops:Array Oper) (o:Oper) (E:Operand->AV) (h:List Zh) (c:Cd) (K:AV->List Zh->Cd->Prop):Prop:=
 match Zee o.op with
 |1=>(match ZgJ ops E o.guard with
  |none=>False
  |some g=>ZcT c g (fun c=>match ZqB T (fun x=>strip (E x)) h o.op with
   |some (v,A,c')=>K v A (c++(gdC E o.op.operands.toList++c'))
   |none=>False) (fun _=>K .undef h []))
 |2=>(match ZgJ ops E o.guard with
  |none=>False
  |some g=>ZcT c g (fun c=>match Zi3 o.op with
   |some (f,xs)=>(match ZpF (strip (E f))with
    |some (tg,a,b)=>chk (c++gdC E o.op.operands.toList) (SCt p tg (a++(xs.map fun x=>strip (E x))++b) h fun r A=>K r A [])
    |none=>False)
   |none=>False) (fun _=>K .undef h []))
 |5=>(match ZgJ ops E o.guard with
  |none=>False
  |some g=>ZcT c g (fun c=>match Zim o.op with
   |some (a,b)=>(match Zjt h (strip (E a)) (strip (E b))with
    |some (A,c')=>K .undef A (c++(gdC E o.op.operands.toList++c'))
    |none=>False)
   |none=>False) (fun _=>K .undef h []))
 |6=>(match ZgJ ops E o.guard with
  |none=>False
  |some g=>ZcT c g (fun c=>match Ziu o.op with
   |some x=>(match ZmB (strip (E x))with
    |some id=>chk (c++gdC E o.op.operands.toList) (SCt p (.nxt id) [] h fun r A=>K r A [])
    |none=>False)
   |none=>False) (fun _=>K .undef h []))
 |_=>(match JA T ops o E h with
  |some (v,c')=>K v h (c++c')
  |none=>False)
section
variable {P:Program} {T:Tb} {p:Unit->Program} {R₀:RC} {h₀:List Zh}
theorem SL.ev {R:RC} {s:List AV} {t:Array Value} (A:SL R s t) (x:Operand):VR R (Vm.ev s x) (QH t x):=by
 cases x with
 |tmp i=>exact A.getD i
 |const v=>exact Zgc v
 |global g=>exact .undef _
 |func f=>exact .fn f [] [] #[] #[] rfl rfl (fun j c h=>by simp at h) (fun j c h=>by simp at h)
theorem VR.strip {R:RC} {a:AV} {v:Value} (h:VR R a v) (A:ZT (Zas a)):VR R (Vm.strip a) v:=by
 cases a with
 |gd g x=>exact h.gd_inv (A _ (aN.2 rfl))
 |ob g x=>
  rw[h.ob_inv (A _ (aN.2 rfl))];exact .pure _ _ (.bool _)
 |_=>exact h
theorem ZfC {E:Operand->AV}:∀ {l:List Operand},ZT (gdC E l)->∀x∈l,ZT (Zas (E x))
 |[],_,x,A=>by cases A
 |y::l,h,x,A=>by
  obtain⟨H,G⟩:=Z1 h;rcases bG.1 A with rfl|A
  ·exact H
  exact ZfC G x A
theorem ZmG {g:Unit->Bool}:∀ {c:Cd},ZT (ZuY g c)->g ()=true->ZT c
 |[],_,_=>Yb
 |p::c,h,hg=>fun q A=>by
  rcases bG.1 A with rfl|A
  ·exact h _ (aU ..) hg
  exact ZmG (c:=c) (fun r hr=>h r (aQ _ hr)) hg q A
theorem SL.putO {R:RC} {s:List AV} {t:Array Value} (A:SL R s t) {a:AV} {v:Value} (hv:VR R a v) (d:Option Tmp):SL R (Vm.putO s d a) (Z2 t d v):=by
 cases d with
 |none=>exact A
 |some d=>exact A.set hv d
def ZmJ:Option (Unit->Bool)->Bool
 |none=>true
 |some g=>g ()
def EOK (R:RC) (ops:Array Oper) (o:Oper) (E:Operand->AV) (t:Array Value):Prop:=∀x∈ZhC ops o,VR R (E x) (QH t x)
theorem ZfB {R:RC} {E:Operand->AV} {t:Array Value} {ops:Array Oper} {o:Oper} {g:Option (Unit->Bool)} (V:EOK R ops o E t) (A:ZgJ ops E o.guard=some g):
  Region.wanted o (yielded ops t)=ZmJ g:=by
 have J:∀x∈ZmI ops o.guard,VR R (E x) (QH t x):=fun x hx=>V x (List.mem_append_right _ hx);unfold ZgJ at A;unfold Region.wanted;split at A
 ·rename_i Y;simp only[aC]at A;subst A;rw[Y];rfl
 rename_i j H U;rw[U]at J|-;split at A
 ·rename_i d I;split at A
  ·rename_i b S;simp only[aC]at A;subst A;have hv:=J (.tmp d) (by simp[ZmI,I]);rw[S]at hv;have hv:t.getD d undef= .bool (b ()):=hv.bool_inv;have G:d<t.size:=by
    rcases fq d t.size with h|h
    ·exact h
    rw[aI,eE h]at hv;cases hv
   have:yielded ops t j=some (b ()):=by
    unfold yielded;rw[I];simp only[gG];rw[aI,aY G,bY]at hv;rw[aY G,hv]
   simp only[this];cases H<;>cases hbb:b ()<;>simp[ZmJ,hbb]
  ·rename_i Z b S;simp only[aC]at A;subst A;have hv:=J (.tmp d) (by simp[ZmI,I]);rw[S]at hv;cases hgg:Z ()
   ·have hv:t.getD d undef=undef:=hv.ob_none hgg;have:yielded ops t j=none:=by
     unfold yielded;rw[I];simp only[gG];rw[aI]at hv;cases he:t[d]? with
     |none=>rfl
     |some u=>
      rw[he,bY]at hv;subst hv;rfl
    simp only[this];cases H<;>simp[ZmJ,hgg]
   have hv:t.getD d undef= .bool (b ()):=hv.ob_inv hgg;have G:d<t.size:=by
    rcases fq d t.size with h|h
    ·exact h
    rw[aI,eE h]at hv;cases hv
   have:yielded ops t j=some (b ()):=by
    unfold yielded;rw[I];simp only[gG];rw[aI,aY G,bY]at hv;rw[aY G,hv]
   simp only[this];cases H<;>cases hbb:b ()<;>simp[ZmJ,hbb,hgg]
  cases A
 cases A
def ZdZ (P:Program) (R₀:RC) (h₀:List Zh) (ops:Array Oper) (i:Nat) (o:Oper) (E:Operand->AV) (h:List Zh) (K:AV->List Zh->Prop):Prop:=
 ∀(R:RC) (t:Array Value),Inv R₀ h₀ R h->EOK R ops o E t->∀(b:FB) (I:List Deferred) (k:List Item) (cs:List Frame) (G:List Nat),
  ∃v H A u,K v H/\Inv R₀ h₀ A H/\Xd R h A H/\R.le A/\VR A v u/\
   Steps P R.cx (ZH (mkF b t I (.inRegion ops (i::G)::k)) cs R.w) (ZH (mkF b (Z2 t o.dst u) I (.inRegion ops G::k)) cs A.w)
theorem Zbi {o:Op} {n:Nat} (h:Zee o=n) (A:n≠0):∀c,o≠ .defer c:=fun c e=>by
 subst e;exact A h.symm
theorem ZhR {E:Operand->AV} {h:List Zh} {o:Op} {x:AV×Cd} (hv:Jv P E h o=some x):∀c,o≠ .defer c:=fun c e=>by
 subst e;simp[Jv]at hv
theorem Zsm {id:Nat} {o:Oper} {f:Operand} {xs:Array Operand} {I:Array TypeId} {t:Array Value} {R:RC} (H:o.op= .call {callee:=.value f,args:=xs,argTypes:=I})
  (U:VR R (.yld id) (QH t f)) (A:List AV) (hy:A.length=xs.size) (S:∀j c,A[j]? =some c->VR R c ((xs.map (QH t)).getD j undef)) (w:World):
  ∃J,(execOp (QH t) o).run P w=(Instr.yield (R.α id).b J).run P w/\X0 R A J:=by
 have G:QH t f= .func (.yield (R.α id).b) #[] #[]:=by
  generalize QH t f=u at U;cases U with
  |pure _ _ Z=>cases Z
  |yld _ _=>rfl
 refine⟨xs.map (QH t),?_,by simp[hy],S⟩;obtain⟨aa,op,ty,pos,V,Y⟩:=o;simp only at H;subst H;show((do let d<-resolve (QH t) {callee:=.value f,args:=xs,argTypes:=I} ty;invoke d.target d.args):Sem Next).run P w=_;simp only[resolve,G,Deferred.ofValue,aP,bC,aH,invoke];simp
theorem Zjz {fid:FuncId} {a b:List AV} {o:Oper} {f:Operand} {xs:Array Operand} {Z:Array TypeId} {t:Array Value} {R:RC} (ho:o.op= .call {callee:=.value f,args:=xs,argTypes:=Z})
  (hf:VR R (.fn fid a b) (QH t f)) (hx:∀x∈xs,∃y,VR R y (QH t x)) (w:World) (hE:∃fn c,P.funcs[fid]? =some fn/\fn.body=some c/\(fn.name== "runtime.NumGoroutine")=false)
  (J:List AV) (V:J.length=xs.size) (ae:∀j c,J[j]? =some c->VR R c ((xs.map (QH t)).getD j undef)):
  ∃G,(execOp (QH t) o).run P w= .ok (.enter fid G) w/\X0 R (a++J++b) G:=by
 obtain⟨fn,c,e1,e2,e3⟩:=hE;have U:∃I G:Array Value,QH t f= .func (.func fid) I G/\a.length=I.size/\b.length=G.size/\(∀j c,a[j]? =some c->VR R c (I.getD j undef))/\(∀j c,b[j]? =some c->VR R c (G.getD j undef)):=by
  generalize QH t f=u at hf;cases hf with
  |pure _ _ hp=>cases hp
  |fn _ _ _ I G h1 h2 h3 h4=>exact⟨I,G,rfl,h1,h2,h3,h4⟩
 obtain⟨I,G,ab,S,l2,r1,r2⟩:=U;refine⟨I++xs.map (QH t)++G,?_,?_,?_⟩
 ·have aa:∀A:Array Value,(callFunc fid A).run P w= .ok (.enter fid A) w:=fun A=>by
   have ac:fn.name≠ "runtime.NumGoroutine" :=by simpa using e3
   simp[callFunc,e1,e2,ac]
  obtain⟨ak,op,ty,pos,ah,ai⟩:=o;simp only at ho;subst ho;show((do let d<-resolve (QH t) {callee:=.value f,args:=xs,argTypes:=Z} ty;invoke d.target d.args):Sem Next).run P w=_;simp only[resolve,ab,Deferred.ofValue,aP,bC,aH,invoke,aa]
 ·simp[S,l2,V]
 intro j c H;rw[aI];simp only[dT]at H;rw[dX]at H;split at H
 ·rename_i Y;have:=r1 j c H;rw[aI]at this;rw[dB,dF (by omega)];exact this
 rename_i al;rw[dB,dW (by omega)];rw[dX]at H;split at H
 ·rename_i Y;have:=ae _ c H;rw[aI]at this;rw[dF (by simp;omega),<-S];exact this
 rename_i aj;have:=r2 _ c H;rw[aI]at this;rw[dW (by simp;omega)];simp only[Array.size_map,<-S,<-V];exact this
theorem Zij {ops:Array Oper} {i:Nat} {o:Oper} (H:ops[i]? =some o) {h:List Zh} {R:RC} {t:Array Value} {v:AV} {K:AV->List Zh->Prop} (hw:Region.wanted o (yielded ops t)=false) (hi:Inv R₀ h₀ R h) (hv:VR R v undef) (I:K v h)
  (b:FB) (ds:List Deferred) (k:List Item) (cs:List Frame) (rest:List Nat):
  ∃v G A u,K v G/\Inv R₀ h₀ A G/\Xd R h A G/\R.le A/\VR A v u/\
   Steps P R.cx (ZH (mkF b t ds (.inRegion ops (i::rest)::k)) cs R.w) (ZH (mkF b (Z2 t o.dst u) ds (.inRegion ops rest::k)) cs A.w):=by
 refine⟨v,h,R,undef,I,hi,Xd.refl _ _,RC.le.refl _,hv,.one ?_⟩;have:=Zm3 (P:=P) (cx:=R.cx) (b:=b) (t:=t) (ds:=ds) (k:=k) (cs:=cs) (w:=R.w) (ops:=ops) (i:=i) (rest:=rest) (by rw[H];simpa using hw);rw[H]at this;exact this
theorem Zwp {R:RC} {g:Unit->Bool} {v:AV} (A:g ()=false):VR R (gW g v) undef:=by
 unfold gW;split
 ·exact .ob _ _ _ (fun h=>by rw[A]at h;cases h) fun _=>rfl
 exact .gd _ _ _ fun h=>by rw[A]at h;cases h
theorem ZuZ {R:RC} {g:Unit->Bool} {v:AV} {u:Value} (A:g ()=true) (h:VR R v u):VR R (gW g v) u:=by
 unfold gW;split
 ·exact .ob _ _ _ (fun _=>h.bool_inv) fun h=>by rw[A]at h;cases h
 exact .gd _ _ _ fun _=>h
theorem Zib {ops:Array Oper} {i:Nat} {o:Oper} (Z:ops[i]? =some o) {E:Operand->AV} {h:List Zh} {g:Option (Unit->Bool)} (hg:ZgJ ops E o.guard=some g) {v:AV} {c:Cd} (hc:ZT (ZbQ v c g).2) (hd:∀c,o.op≠ .defer c)
  (main:ZT c->∀(R:RC) (t:Array Value),Inv R₀ h₀ R h->EOK R ops o E t->JP R (Gof R₀ h₀) h v h ((execOp (QH t) o).run P R.w)/\Zv P (fun _=>False) (execOp (QH t) o)):
  ZdZ P R₀ h₀ ops i o E h fun U V=>U=(ZbQ v c g).1/\V=h:=by
 intro R t H S b ds k cs aa;have hw:=ZfB S hg;cases g with
 |none=>
  obtain⟨⟨nv,u,Y,h1,h2,h3,A,I,J⟩,G⟩:=main hc R t H S;exact⟨v,h,Y,u,⟨rfl,rfl⟩,H.step h3 A I,A,I,J,.one (ZaH Z hw hd G h1 h2)⟩
 |some g=>
  cases hgg:g ()
  ·exact Zij (v:=gW g v) (K:=fun U V=>U=gW g v/\V=h) Z (by rw[hw];exact hgg) H (Zwp hgg) ⟨rfl,rfl⟩ b ds k cs aa
  obtain⟨⟨nv,u,Y,h1,h2,h3,A,I,J⟩,G⟩:=main (ZmG hc hgg) R t H S;exact⟨gW g v,h,Y,u,⟨rfl,rfl⟩,H.step h3 A I,A,I,ZuZ hgg J,.one (ZaH Z (by rw[hw];exact hgg) hd G h1 h2)⟩
theorem ZhP (hT:T.Of P) {ops:Array Oper} {i:Nat} {o:Oper} (ho:ops[i]? =some o) {E:Operand->AV} {h:List Zh} {v:AV} {c:Cd} (hv:JA T ops o E h=some (v,c)) (G:ZT c):
  ZdZ P R₀ h₀ ops i o E h fun I Z=>I=v/\Z=h:=by
 have ac:∀ {E':Operand->AV} {v:AV} {c:Cd},Jv P E' h o.op=some (v,c)->ZT c->∀(R:RC) (t:Array Value),Inv R₀ h₀ R h->(∀x∈o.op.operands,VR R (E' x) (QH t x))->JP R (Gof R₀ h₀) h v h ((execOp (QH t) o).run P R.w)/\Zv P (fun _=>False) (execOp (QH t) o):=by
  intro E' v c hv G R t J H;obtain⟨u,h1,h2⟩:=Zu1 J.hr (ρ:=QH t) (fun _=>rfl) H hv G;exact⟨⟨.value u,u,R,h1,.inl rfl,J.hr,Xd.refl _ _,RC.le.refl _,h2⟩,Zqz (fun _=>rfl) H hv⟩
 have Y:∀ {R:RC} {t:Array Value},EOK R ops o E t->ZT (gdC E o.op.operands.toList)->∀x∈o.op.operands,VR R (strip (E x)) (QH t x):=fun H G x hx=>
  (H x (ei _ (cM.2 hx))).strip (ZfC G x (cM.2 hx))
 unfold JA at hv;split at hv
 ·cases hv
 rename_i g hg;split at hv
 ·split at hv;case h_2=>
   split at hv;case h_2=>cases hv
   rename_i g ah;simp only[aC,aK]at hv;obtain⟨rfl,rfl⟩:=hv;intro R t J H b ds k cs ae;have hw:=ZfB H hg;exact Zij (v:=.undef) (K:=fun I Z=>I= .undef/\Z=h) ho (by rw[hw];exact G _ (aN.2 rfl)) J (.undef _) ⟨rfl,rfl⟩ b ds k cs ae
  rename_i I V A;replace A:=ZmL hT A;simp only[aC]at hv;have U:(ZbQ I (gdC E o.op.operands.toList++V) g).1=v:=by rw[hv]
  have S:(ZbQ I (gdC E o.op.operands.toList++V) g).2=c:=by rw[hv]
  rw[<-U];exact Zib ho hg (by rw[S];exact G) (ZhR A) fun G R t J H=>ac A (Z1 G).2 R t J (Y H (Z1 G).1)
 ·split at hv;case h_2=>cases hv
  rename_i I V A;replace A:=ZmL hT A;simp only[aC]at hv;have U:(ZbQ I V g).1=v:=by rw[hv]
  have S:(ZbQ I V g).2=c:=by rw[hv]
  rw[<-U];exact Zib ho hg (by rw[S];exact G) (ZhR A) fun G R t J H=>ac A G R t J fun x hx=>H x (ei _ (cM.2 hx))
 ·rename_i aa;split at hv;case h_2=>cases hv
  rename_i tt n ps ab;split at hv;case h_2=>cases hv
  rename_i I A;replace A:=JD hT A;simp only[aC]at hv;have U:(ZbQ I (gdC E o.op.operands.toList) g).1=v:=by rw[hv]
  have S:(ZbQ I (gdC E o.op.operands.toList) g).2=c:=by rw[hv]
  rw[<-U];refine Zib ho hg (by rw[S];exact G) (Zbi aa (by decide)) fun G R t J H=>?_;exact⟨ZqA (gr:=false) (E:=fun x=>strip (E x)) (c:=[]) J.hr (Y H G) (by rw[ab];simp only[evE,A,cL]) Yb,Zke (gr:=false) (E:=fun x=>strip (E x)) (c:=[]) (h:=h) (v:=I) (h':=h) (Y H G) (by rw[ab];simp only[evE,A,cL])⟩
 cases hv
theorem Zkn:∀ {h:List Zh} {i id:Nat} {c:Nat} {l:Unit->List Bool},Zko h i=some (id,c,l)->i<=id/\h[id-i]? =some (Zh.gob (.chq c l))
 |[],_,_,_,_,h=>by cases h
 |b::r,i,id,c,l,h=>by
  have A:Zko r (i+1)=some (id,c,l)->i<=id/\(b::r)[id-i]? =some (Zh.gob (.chq c l)):=fun h=>by
   obtain⟨I,G⟩:=Zkn h;refine⟨by omega,?_⟩;rw[show id-i=(id-(i+1))+1 by omega];exact G
  cases b with
  |gob g=>
   cases g with
   |chq H J=>
    simp only[Zko,aC,aK]at h;obtain⟨rfl,rfl,rfl⟩:=h;exact⟨aJ _,by rw[eX];rfl⟩
   |_=>exact A h
  |_=>exact A h
theorem Zsj {G:Nat->Nat->Nat->Prop} {R:RC} {h h':List Zh} (H:HR G R h) {a b:AV} {u v:Value} {c:Cd} (ha:VR R a u) (hb:VR R b v) (hv:Zjt h a b=some (h',c)) (hc:ZT c):
  ∃Y x aa s r J I,R.cx=some Y/\u= .chan (some Y)/\v= .bool x/\R.w.heap[Y]? =some (.chan 0 aa false s r J)/\I.w=R.w.setChan Y 0 (aa.push (.bool x)) false (s+1) r J/\HR G I h'/\Xd R h I h'/\R.le I:=by
 unfold Zjt at hv;split at hv;case h_2=>cases hv
 rename_i S x;split at hv;case h_2=>cases hv
 rename_i id c' l hq;cases hv;obtain⟨_,hi⟩:=Zkn hq;rw[Nat.sub_zero]at hi;have e:=(Cn.out (hc _ (aN.2 rfl)));subst e;obtain⟨o,Z,hk,A,ab,s,r,J,rfl⟩:=H.blk id _ hi;obtain⟨I,hw,_,V,H',ac,U⟩:=H.upd hi rfl (blk':=.gob (.chq S fun _=>l ()++[x ()])) rfl (R.w.setChan S 0 (((l ()).map Value.bool).toArray.push (.bool (x ()))) false (s+1) r J) rfl rfl rfl (by simp[World.setChan])
  (fun b hb=>by
   show(R.w.heap.setIfInBounds S _)[b]? =_
   rw[Array.getElem?_setIfInBounds_ne (by rw[<-A];exact Ne.symm hb)]) (fun I U V hw=>⟨.chan 0 (((l ()).map Value.bool).toArray.push (.bool (x ()))) false (s+1) r J,by
   rw[hw,V,A];show(R.w.heap.setIfInBounds S _)[S]? =_;rw[A]at Z
   rw[Array.getElem?_setIfInBounds_self_of_lt (aM.1 Z).1],rfl,by rw[V];exact A,U.cx.trans ab,s+1,r,J,by simp⟩)
 refine⟨S,x (),_,s,r,J,I,ab,?_,hb.bool_inv,by rw[A]at Z;exact Z,hw,H',ac,U⟩;cases ha with
 |pure _ _ hp=>cases hp;rfl
theorem Zjd (hT:T.Of (p ())) {ops:Array Oper} {i:Nat} {o:Oper} (ho:ops[i]? =some o) {E:Operand->AV} {h:List Zh} {c:Cd} {K:AV->List Zh->Cd->Prop} (hK:∀v h c,K v h c->ZT c) (hW:Wop T p ops o E h c K):
  ZT c/\ZdZ (p ()) R₀ h₀ ops i o E h fun v h=>∃c,K v h c:=by
 unfold Wop at hW
 have ap:∀ {g:Option (Unit->Bool)} {A:Cd->Prop} {B:Unit->Prop},ZgJ ops E o.guard=some g->ZcT c g A B->(∀c,A c->ZT c/\∀ {R:RC} {t:Array Value},Inv R₀ h₀ R h->EOK R ops o E t->Region.wanted o (yielded ops t)=true->
    ∀(b:FB) (ds:List Deferred) (k:List Item) (cs:List Frame) (G:List Nat),
    ∃v S U u,(∃c,K v S c)/\Inv R₀ h₀ U S/\Xd R h U S/\R.le U/\VR U v u/\
     Steps (p ()) R.cx (ZH (mkF b t ds (.inRegion ops (i::G)::k)) cs R.w) (ZH (mkF b (Z2 t o.dst u) ds (.inRegion ops G::k)) cs U.w))->
   (B ()->K .undef h [])->ZT c/\ZdZ (p ()) R₀ h₀ ops i o E h fun v h=>∃c,K v h c:=by
  intro g A B hg au I hB;unfold ZcT at au;split at au
  ·obtain⟨h1,h2⟩:=I c au;exact⟨h1,fun R t J Y=>h2 J Y (ZfB Y hg)⟩
  rename_i g;obtain⟨h1,h2⟩:=Z5 au;refine⟨h1,fun R t J Y b ds k cs G=>?_⟩;have hw:=ZfB Y hg;cases hgg:g ()
  ·exact Zij (v:=.undef) (K:=fun v h=>∃c,K v h c) ho (by rw[hw];exact hgg) J (.undef _) ⟨_,hB (h2.f hgg)⟩ b ds k cs G
  exact(I [] (h2.t hgg)).2 J Y (by rw[hw];exact hgg) b ds k cs G
 have aj:∀ {R:RC} {t:Array Value},EOK R ops o E t->ZT (gdC E o.op.operands.toList)->∀x∈o.op.operands,VR R (strip (E x)) (QH t x):=fun hE hc x hx=>
  (hE x (ei _ (cM.2 hx))).strip (ZfC hc x (cM.2 hx))
 split at hW
 ·
  rename_i ah;split at hW
  ·exact hW.elim
  rename_i g hg;refine ap hg hW (fun c I=>?_) (fun h=>h);split at I;case h_2=>exact I.elim
  rename_i v S c' hv;replace hv:=ZsR hT hv;obtain⟨a1,a2⟩:=Z1 (hK _ _ _ I);refine⟨a1,fun {R t} J Y hw b ds k cs G=>?_⟩;obtain⟨b1,b2⟩:=Z1 a2;obtain⟨nv,u,U,h1,h2,h3,h4,h5,h6⟩:=ZqA (E:=fun x=>strip (E x)) J.hr (ρ:=QH t) (aj Y b1) hv b2;exact⟨v,S,U,u,⟨_,I⟩,J.step h3 h4 h5,h4,h5,h6,.one (ZaH ho hw (Zbi ah (by decide)) (Zke (E:=fun x=>strip (E x)) (aj Y b1) hv) h1 h2)⟩
 ·
  split at hW
  ·exact hW.elim
  rename_i g hg;refine ap hg hW (fun c I=>?_) (fun h=>h);split at I;case h_2=>exact I.elim
  rename_i f xs ab;split at I;case h_2=>exact I.elim
  rename_i tg a b V;obtain⟨al,Z⟩:=Z5 I;obtain⟨a1,a2⟩:=Z1 al;refine⟨a1,fun {R t} J Y hw b' ds k cs G=>?_⟩;obtain⟨ae,ts,H,rfl⟩:∃(ae:Array Operand) (ts:Array TypeId),o.op= .call {callee:=.value f,args:=ae,argTypes:=ts}/\xs=ae.toList:=by
   unfold Zi3 at ab;split at ab
   ·rename_i f' bh bt bo;simp only[aC,aK]at ab;obtain⟨rfl,rfl⟩:=ab;exact⟨bh,bt,bo,rfl⟩
   cases ab
  have ai:=aj Y a2;have bp:f∈o.op.operands:=by rw[H];simp[bD,Call.operands]
  have bl:∀x∈ae,x∈o.op.operands:=fun x hx=>by rw[H];simp[bD,Call.operands,hx]
  have ac:=ai f bp;obtain⟨l1,r1⟩:=ZeF (E:=fun x=>strip (E x)) (ρ:=QH t) (xs:=ae) (R:=R) (fun x hx=>ai x (bl x hx));have bg:∀c,o.op≠ .defer c:=fun c e=>by rw[H]at e;cases e
  cases tg with
  |nxt id=>
   unfold ZpF at V;split at V<;>cases V
  |yld id=>
   obtain⟨he,rfl,rfl⟩:strip (E f)= .yld id/\a=[]/\b=[]:=by
    unfold ZpF at V;split at V
    ·cases V
    ·rename_i he;simp only[aC,aK,Tg.yld.injEq]at V;obtain⟨rfl,rfl,rfl⟩:=V;exact⟨he,rfl,rfl⟩
    cases V
   rw[he]at ac;obtain⟨vs,am,ao⟩:=Zsm (P:=p ()) H ac (ae.toList.map fun x=>strip (E x)) (by simp) r1 R.w;obtain⟨ca,bz,b9,ce,bq,bx⟩:=Z.run _ R vs J.hr (by simpa using ao);have bw:Zv (p ()) (fun _=>False) (execOp (QH t) o):=by
    have ak:QH t f= .func (.yield (R.α id).b) #[] #[]:=by
     generalize QH t f=u at ac;cases ac with
     |pure _ _ hp=>cases hp
     |yld _ _=>rfl
    obtain⟨bk,op,ty,pos,az,a9⟩:=o;simp only at H;subst H;exact Zll ak
   obtain⟨v,U,r,S,aa,h3,h4,h5,h6,h7⟩:=bx (mkF b' t ds (.inRegion ops (i::G)::k)) cs;refine⟨r,S,U,v,⟨_,h7⟩,J.step h3 h4 h5,h4,h5,h6,.head (ZkY ho hw bg bw (am.trans bq)) ?_⟩;rw[Xq,ho]at aa;exact aa
  |fn ba=>
  have V:strip (E f)= .fn ba a b:=by
   unfold ZpF at V;split at V
   ·rename_i he;simp only[aC,aK,Tg.fn.injEq]at V;obtain⟨rfl,rfl,rfl⟩:=V;exact he
   ·cases V
   cases V
  rw[V]at ac;have Z:SC p ba (a++(ae.toList.map fun x=>strip (E x))++b) h fun r S=>K r S []:=Z;obtain⟨vs,am,ao⟩:=Zjz (P:=p ()) H ac (fun x hx=>⟨_,ai x (bl x hx)⟩) R.w Z.enter (ae.toList.map fun x=>strip (E x)) (by simp) r1;have bg:∀c,o.op≠ .defer c:=fun c e=>by rw[H]at e;cases e
  have bu:Zv (p ()) (fun _=>False) (execOp (QH t) o):=by
   obtain⟨fn,c,e1,e2,e3⟩:=Z.enter;have ak:∃us vs:Array Value,QH t f= .func (.func ba) us vs:=by
    generalize QH t f=u at ac;cases ac with
    |pure _ _ hp=>cases hp
    |fn _ _ _ us vs _ _ _ _=>exact⟨us,vs,rfl⟩
   obtain⟨us,vs,ak⟩:=ak;obtain⟨bk,op,ty,pos,az,a9⟩:=o;simp only at H;subst H;exact Zgl ak e1 e2 e3
  obtain⟨v,U,r,S,aa,h3,h4,h5,h6,h7⟩:=Z.run _ R vs J.hr ao (mkF b' t ds (.inRegion ops (i::G)::k)::cs);have aa:=aa.call;refine⟨r,S,U,v,⟨_,h7⟩,J.step h3 h4 h5,h4,h5,h6,.head (Zm5 ho hw bg bu am) ?_⟩;rw[Xq,ho]at aa;exact aa
 ·
  rename_i ah;split at hW
  ·exact hW.elim
  rename_i g hg;refine ap hg hW (fun c I=>?_) (fun h=>h);split at I;case h_2=>exact I.elim
  rename_i a b aw;split at I;case h_2=>exact I.elim
  rename_i S c' hv;obtain⟨a1,a2⟩:=Z1 (hK _ _ _ I);refine⟨a1,fun {R t} J Y hw b' ds k cs G=>?_⟩;obtain⟨b1,b2⟩:=Z1 a2;have H:o.op= .send a b:=by
   unfold Zim at aw;split at aw
   ·rename_i e;cases aw;exact e
   cases aw
  have ai:=aj Y b1;obtain⟨ch,x,cf,s,r,tm,U,h0,h1,h2,h3,h4,h5,h6,h7⟩:=Zsj J.hr (ai a (by rw[H];simp[bD])) (ai b (by rw[H];simp[bD])) hv b2;have bc:=Zm4 (P:=p ()) (b:=b') (t:=t) (ds:=ds) (k:=k) (cs:=cs) (rest:=G) ho hw H h1 h2 h3;rw[<-h4]at bc;refine⟨.undef,S,U,undef,⟨_,I⟩,J.step h5 h6 h7,h6,h7,.undef _,?_⟩;rw[h0];exact .one bc
 ·
  rename_i ah;split at hW
  ·exact hW.elim
  rename_i g hg;refine ap hg hW (fun c I=>?_) (fun h=>h);split at I;case h_2=>exact I.elim
  rename_i it aq;split at I;case h_2=>exact I.elim
  rename_i id ar;obtain⟨al,Z⟩:=Z5 I;obtain⟨a1,a2⟩:=Z1 al;refine⟨a1,fun {R t} J Y hw b ds k cs G=>?_⟩;have H:o.op= .next it false:=by
   unfold Ziu at aq;split at aq
   ·rename_i e;cases aq;exact e
   cases aq
  have hv:=aj Y a2 it (by rw[H];simp[bD]);have bm:strip (E it)= .mit id:=by
   unfold ZmB at ar;split at ar
   ·rename_i e;cases ar;exact e
   cases ar
  rw[bm]at hv;have he:QH t it= .pointer (some ⟨(R.α id).b,0,none⟩):=by
   generalize QH t it=u at hv;cases hv with
   |pure _ _ hp=>cases hp
   |mit _ _ _=>rfl
  have Z:NC p id h fun r S=>K r S []:=Z;obtain⟨v,U,r,S,h1,h3,h4,h5,h6,h7⟩:=Z.run _ R J.hr;have hm:Zv (p ()) (fun _=>False) (execOp (QH t) o)/\(execOp (QH t) o).run (p ()) R.w= .ok (.value v) U.w:=by
   obtain⟨bk,op,ty,pos,az,a9⟩:=o;simp only at H;subst H;refine⟨QI fun K=>Znp,?_⟩;show(do let z<-Instr.next (QH t it) false ty;pure (Next.value z):Sem Next).run (p ()) R.w=_;rw[he];simp only[aP,h1 ty,aH,bC]
  exact⟨r,S,U,v,⟨_,h7⟩,J.step h3 h4 h5,h4,h5,h6,.one (ZaH ho hw (Zbi ah (by decide)) hm.1 hm.2 (.inl rfl))⟩
 split at hW;case h_2=>exact hW.elim
 rename_i v c' hv;obtain⟨a1,a2⟩:=Z1 (hK _ _ _ hW);refine⟨a1,fun R t J Y b ds k cs G=>?_⟩;obtain⟨v',S,U,u,⟨rfl,rfl⟩,h2⟩:=ZhP hT (R₀:=R₀) (h₀:=h₀) ho hv a2 R t J Y b ds k cs G;exact⟨v',S,U,u,⟨_,hW⟩,h2⟩
end
end Vm
namespace Vm
open Go Conc1
def Zjc (T:Tb) (p:Unit->Program) (ops:Array Oper):List Oper->List AV->List Zh->Cd->(List AV->List Zh->Cd->Prop)->Prop
 |[],s,h,c,K=>K s h c
 |o::r,s,h,c,K=>Wop T p ops o (ev s) h c fun v h c=>Zjc T p ops r (putO s o.dst v) h c K
def ZbD (P:Program) (R₀:RC) (h₀:List Zh) (ops:Array Oper) (G:List Nat) (s:List AV) (h:List Zh) (K:List AV->List Zh->Prop):Prop:=
 ∀(R:RC) (t:Array Value),Inv R₀ h₀ R h->SL R s t->∀(b:FB) (I:List Deferred) (k:List Item) (cs:List Frame),
  ∃J H A S,K J H/\Inv R₀ h₀ A H/\Xd R h A H/\R.le A/\SL A J S/\
   Steps P R.cx (ZH (mkF b t I (.inRegion ops G::k)) cs R.w) (ZH (mkF b S I k) cs A.w)
theorem SL.eok {R:RC} {s:List AV} {t:Array Value} (A:SL R s t) (ops:Array Oper) (o:Oper):EOK R ops o (Vm.ev s) t:=fun x _=>A.ev x
section
variable {T:Tb} {p:Unit->Program} {R₀:RC} {h₀:List Zh}
theorem ZmT (hT:T.Of (p ())) {ops:Array Oper} {K:List AV->List Zh->Cd->Prop} (hK:∀s h c,K s h c->ZT c):∀(l:List Oper) (j:Nat) (s:List AV) (h:List Zh) (c:Cd),(∀m,m<l.length->ops[j+m]? =l[m]?)->Zjc T p ops l s h c K->
  ZT c/\ZbD (p ()) R₀ h₀ ops (eH j l.length) s h fun s h=>∃c,K s h c
 |[],j,s,h,c,_,hW=>⟨hK _ _ _ hW,fun R t I A b H k cs=>⟨s,h,R,t,⟨_,hW⟩,I,Xd.refl _ _,RC.le.refl _,A,.one Y8⟩⟩
 |o::r,j,s,h,c,hl,hW=>by
  have ho:ops[j]? =some o:=by simpa using hl 0 (by simp)
  have U:=fun s h c=>ZmT hT hK r (j+1) s h c (fun m hm=>by have:=hl (m+1) (by simpa using hm);rw[show j+1+m=j+(m+1) by omega];simpa using this);obtain⟨h1,h2⟩:=Zjd hT (R₀:=R₀) (h₀:=h₀) ho (fun v h c G=>(U _ _ _ G).1) hW;refine⟨h1,fun R t I A b H k cs=>?_⟩;obtain⟨v,h',R',u,⟨c',G⟩,a1,a2,J,a4,a5⟩:=h2 R t I (A.eok ops o) b H k cs (eH (j+1) r.length);obtain⟨Z,V,S,Y,b1,b2,b3,b4,b5,b6⟩:=(U _ _ _ G).2 R' _ a1 ((A.mono J).putO a4 o.dst) b H k cs;exact⟨Z,V,S,Y,b1,b2,a2.trans b3,J.trans b4,b5,a5.trans (Ys J b6)⟩
theorem Zl4 (hT:T.Of (p ())) {ops:Array Oper} {K:List AV->List Zh->Cd->Prop} (A:∀s h c,K s h c->ZT c) {s:List AV} {h:List Zh} {c:Cd} (hW:Zjc T p ops ops.toList s h c K):
  ZT c/\ZbD (p ()) R₀ h₀ ops (aR ops.size) s h fun s h=>∃c,K s h c:=by
 have:=ZmT hT (R₀:=R₀) (h₀:=h₀) A ops.toList 0 s h c (fun m hm=>by simp) hW;rw[List.range_eq_range'];simpa using this
end
def YP (m i:Nat):Bool:=Nat.testBit m i
def add (m i:Nat):Nat:=m|||(1<<<i)
def sub (a b:Nat):Bool:=ZD (a&&&b) a
theorem Y0 (m i j:Nat):YP (add m i) j=(YP m j||decide (i=j)):=by
 simp[YP,add,iz,Nat.one_shiftLeft,Nat.testBit_two_pow]
theorem ZaW (j:Nat):YP 0 j=false:=by simp[YP]
theorem Zsc {a b j:Nat} (h:sub a b=true) (A:YP a j=true):YP b j=true:=by
 have e:a&&&b=a:=ZB h;have:=ix a b j;rw[e]at this;simp only[YP]at*;rw[A]at this;simpa using this.symm
def ZlY (e:Edge):Bool:=match e.ground with
 |.textOnly _|.gcOnly _=>false
 |_=>true
theorem ZhZ (e:Edge):ZlY e=Region.binds .any e:=by
 unfold ZlY Region.binds;cases e.ground<;>rfl
def aft (o:Oper):List Nat:=(o.after.toList.filter ZlY).map (·.on)
def Zg4 (m:Nat):List Nat->Nat
 |[]=>m
 |i::r=>Zg4 (add m i) r
theorem ZgG {j:Nat}:∀ {l:List Nat} {m:Nat},YP (Zg4 m l) j=true↔YP m j=true\/j∈l
 |[],m=>by simp[Zg4]
 |i::r,m=>by
  rw[Zg4,ZgG,Y0];simp only[dC,decide_eq_true_eq,bG];constructor
  ·rintro((h|h)|h)
   ·exact .inl h
   ·exact .inr (.inl h.symm)
   exact .inr (.inr h)
  rintro(h|h|h)
  ·exact .inl (.inl h)
  ·exact .inl (.inr h.symm)
  exact .inr h
def Zg3 (o:Oper):Nat:=Zg4 0 (aft o)
theorem ZdK {o:Oper} {j:Nat}:YP (Zg3 o) j=true↔j∈aft o:=by rw[Zg3,ZgG,ZaW];simp
def Xk (o:Op):Bool:=match Zee o with
 |1|2|5|6=>false
 |_=>true
def Zdx:Op->Bool
 |.load .. |.lookup .. |.entry _=>true
 |_=>false
def Yy (ops:Array Oper) (d j:Nat):Bool:=match ops[j]? with
 |some o=>(match o.dst with
  |some A=>ZD A d
  |none=>false)
 |none=>false
theorem Zaf {ops:Array Oper} {d j:Nat} {o:Oper} (A:ops[j]? =some o):Yy ops d j=true↔o.dst=some d:=by
 unfold Yy;rw[A];cases h:o.dst with
 |none=>simp[h]
 |some G=>simp[h,ZD]
def Zq2 (ops:Array Oper) (j:Nat):Nat:=match ops[j]? with
 |some o=>Zg3 o
 |none=>0
def ZpZ (ops:Array Oper):Bool:=(aR ops.size).all fun i=>match ops[i]? with
 |some o=>(aft o).all (ltN · i)&&
  (match o.dst with
   |some d=>(aR ops.size).all fun j=>ZD i j|| !Yy ops d j
   |none=>true)&&
  (ZhC ops o).all fun x=>match x with
   |.tmp d=>(aR ops.size).all fun j=> !Yy ops d j||YP (Zg3 o) j||YP (Zq2 ops j) i
   |_=>true
 |none=>true
structure ZbJ (ops:Array Oper):Prop where
 back:∀(i:Nat) (o:Oper),ops[i]? =some o->∀j∈aft o,j<i
 once:∀(i j:Nat) (o o':Oper) (d:Tmp),ops[i]? =some o->ops[j]? =some o'->o.dst=some d->o'.dst=some d->i=j
 ord:∀(i j:Nat) (o o':Oper) (d:Tmp),ops[i]? =some o->ops[j]? =some o'->.tmp d∈ZhC ops o->o'.dst=some d->j∈aft o\/i∈aft o'
theorem ZbJ.of {ops:Array Oper} (h:ZpZ ops=true):ZbJ ops:=by
 have I:∀i o,ops[i]? =some o->_:=fun i o G=>by
  have J:i<ops.size:=(aM.1 G).1;have:=bL.1 h i (bW.2 J);rw[G]at this;exact this
 refine⟨fun i o G j S=>?_,fun i j o Y d G A V H=>?_,fun i j o Y d G A U H=>?_⟩
 ·have:=I i o G;simp only[aT]at this;have:=bL.1 this.1.1 j S;exact Zaw this
 ·have:=I i o G;simp only[aT,V]at this;have:=bL.1 this.1.2 j (bW.2 (aM.1 A).1);simp only[(Zaf A).2 H,dY,eN]at this;exact ZB this
 have:=I i o G;simp only[aT]at this;have:=bL.1 (bL.1 this.2 _ U) j (bW.2 (aM.1 A).1);simp only[(Zaf A).2 H,dY,Bool.false_or,dC,Zq2,A]at this;exact this.imp ZdK.1 ZdK.1
structure Pr where
 i:Nat
 o:Oper
 m:Nat
 a:Nat
 fl:Bool
def Zh1 (A:List Nat) (m:Nat):List Nat->Nat
 |[]=>m
 |j::r=>Zh1 A (add (m|||A.getD j 0) j) r
def Zit:List Oper->Nat->List Nat->List Pr
 |[],_,_=>[]
 |o::r,i,acc=>⟨i,o,Zg3 o,Zh1 acc 0 (aft o),Xk o.op⟩::Zit r (i+1) (acc++[Zh1 acc 0 (aft o)])
def Zss (ops:Array Oper):List Pr:=Zit ops.toList 0 []
def ZeO (ops:Array Oper) (D:Nat->Prop):Prop:=∀i o,ops[i]? =some o->D i->∀j∈aft o,D j
theorem Zh0 {G:List Nat} {D:Nat->Prop}:∀ {l:List Nat} {m:Nat},(∀j∈l,D j)->(∀j∈l,∀x,YP (G.getD j 0) x=true->D x)->(∀x,YP m x=true->D x)->∀x,YP (Zh1 G m l) x=true->D x
 |[],m,_,_,hm,x,hx=>hm x hx
 |j::l,m,h1,h2,hm,x,hx=>by
  refine Zh0 (l:=l) (fun j H=>h1 j (aQ _ H)) (fun j H=>h2 j (aQ _ H)) (fun y A=>?_) x hx;rw[Y0]at A;simp only[dC,decide_eq_true_eq]at A;rcases A with A|rfl
  ·have:YP (m|||G.getD j 0) y=(YP m y||YP (G.getD j 0) y):=by simp[YP,iz]
   rw[this,dC]at A;rcases A with A|A
   ·exact hm y A
   exact h2 j (aU ..) y A
  exact h1 _ (aU ..)
theorem Zb1 {ops:Array Oper} (D:Nat->Prop) (U:ZeO ops D):∀(l:List Oper) (i:Nat) (G:List Nat),(∀m,m<l.length->ops[i+m]? =l[m]?)->G.length=i->(∀j,D j->∀x,YP (G.getD j 0) x=true->D x)->
  ∀p∈Zit l i G,ops[p.i]? =some p.o/\p.m=Zg3 p.o/\p.fl=Xk p.o.op/\((∀j∈aft p.o,D j)->∀x,YP p.a x=true->D x)
 |[],_,_,_,_,_,p,I=>by cases I
 |o::r,i,G,hl,hlen,hacc,p,I=>by
  have S:ops[i]? =some o:=by simpa using hl 0 (by simp)
  have H:(∀j∈aft o,D j)->∀x,YP (Zh1 G 0 (aft o)) x=true->D x:=fun J=>Zh0 J (fun j V=>hacc j (J j V)) (fun x A=>by rw[ZaW]at A;cases A);rcases bG.1 I with rfl|I
  ·exact⟨S,rfl,rfl,H⟩
  refine Zb1 D U r (i+1) _ (fun m hm=>by have:=hl (m+1) (by simpa using hm);rw[show i+1+m=i+(m+1) by omega];simpa using this) (by simp[hlen]) (fun j J x A=>?_) p I;rw[aA,dX]at A;split at A
  ·exact hacc j J x (by rw[aA];exact A)
  rename_i Y;by_cases e:j=i
  ·subst e;rw[hlen,eX]at A;exact H (fun x A=>U _ _ S J x A) x A
  rw[cD (by simp;omega)]at A;simp[ZaW]at A
theorem Zf7 {i:Nat}:∀(l:List Oper) (A:List Nat) (m:Nat) (o:Oper),l[m]? =some o->∃p∈Zit l i A,p.i=i+m/\p.o=o
 |[],_,_,_,h=>by cases h
 |x::r,A,0,o,h=>by
  simp only[List.getElem?_cons_zero,aC]at h;exact⟨_,aU ..,rfl,h⟩
 |x::r,A,m+1,o,h=>by
  obtain⟨p,H,I,G⟩:=Zf7 (i:=i+1) r (A++[Zh1 A 0 (aft x)]) m o (by simpa using h);exact⟨p,aQ _ H,by omega,G⟩
def evR (ops:Array Oper) (s0 s:List AV) (o:Oper):Operand->AV
 |.tmp d=>if(aft o).any (Yy ops d)then ev s (.tmp d)else ev s0 (.tmp d)
 |x=>ev s x
def Zub (s:List AV):Option Tmp->AV
 |some d=>s.getD d .undef
 |none=>.undef
def X9 (T:Tb) (ops:Array Oper) (h:List Zh):List Pr->List AV->Nat->Cd->Option (List AV×Nat×Cd)
 |[],s,done,c=>some (s,done,c)
 |p::r,s,done,c=>if p.fl&& !YP done p.i&&sub p.m done then(match JA T ops p.o (ev s) h with
   |some (v,c')=>X9 T ops h r (putO s p.o.dst v) (add done p.i) (c++c')
   |none=>none)
  else X9 T ops h r s done c
def Zhy:List Pr->Nat->Bool
 |[],_=>true
 |p::r,done=>(!p.fl||YP done p.i|| !sub p.m done)&&Zhy r done
def Yd:List Pr->Nat->List Pr
 |[],_=>[]
 |p::r,done=>if !p.fl&& !YP done p.i&&sub p.m done then p::Yd r done else Yd r done
def Zq0:List Pr->Nat->Bool
 |[],_=>true
 |p::r,done=>YP done p.i&&Zq0 r done
def YJ (T:Tb) (ops:Array Oper) (s0 s:List AV) (h:List Zh) (a done:Nat):List Pr->Option Cd
 |[]=>some []
 |p::r=>if p.fl&&YP done p.i&& !YP a p.i&&Zdx p.o.op then(match JA T ops p.o (evR ops s0 s p.o) h,YJ T ops s0 s h a done r with
   |some (v,c),some c'=>some (c++(.e (fun _=>v) (fun _=>Zub s p.o.dst)::c'))
   |_,_=>none)
  else YJ T ops s0 s h a done r
structure Zjh (A B:Prop):Prop where
 l:A
 r:B
def Zn5 {α:Type} (f:α->Prop):List α->Prop
 |[]=>True
 |[a]=>f a
 |a::l=>Zjh (f a) (Zn5 f l)
def WD (T:Tb) (p:Unit->Program) (ops:Array Oper) (pr:List Pr) (s0:List AV) (K:List AV->List Zh->Cd->Prop):Nat->Nat->List AV->List Zh->Cd->Prop
 |0,_,_,_,_=>False
 |n+1,done,s,h,c=>(match X9 T ops h pr s done c with
  |none=>False
  |some (s,done,c)=>if Zhy pr done then(match Yd pr done with
    |[]=>if Zq0 pr done then K s h c else False
    |[q]=>Wop T p ops q.o (ev s) h c fun v h c=>(match YJ T ops s0 (putO s q.o.dst v) h q.a done pr with
     |some A=>WD T p ops pr s0 K n (add done q.i) (putO s q.o.dst v) h (c++A)
     |none=>False)
    |ps=>chk c (Zn5 (fun q:Pr=>Wop T p ops q.o (ev s) h [] fun v h c=>(match YJ T ops s0 (putO s q.o.dst v) h q.a done pr with
     |some A=>WD T p ops pr s0 K n (add done q.i) (putO s q.o.dst v) h (c++A)
     |none=>False)) ps))
   else False)
def Zl5 (T:Tb) (p:Unit->Program) (ops:Array Oper) (s:List AV) (h:List Zh) (c:Cd) (K:List AV->List Zh->Cd->Prop):Prop:=
 WD T p ops (Zss ops) s K (ops.size+1) 0 s h (c++[dd fun _=>ZpZ ops=true])
end Vm
namespace Vm
open Go Conc1
theorem ZuK {a b:Nat} (h:∀j,YP a j=true->YP b j=true):sub a b=true:=by
 have:a&&&b=a:=Nat.eq_of_testBit_eq fun j=>by
  rw[ix];have:=h j;simp only[YP]at this;cases ha:a.testBit j with
  |false=>rfl
  |true=>rw[this ha];rfl
 simp[sub,this,ZD]
theorem ZdZ.congr {P:Program} {R₀:RC} {h₀ h:List Zh} {ops:Array Oper} {i:Nat} {o:Oper} {E G:Operand->AV} {K:AV->List Zh->Prop} (H:ZdZ P R₀ h₀ ops i o E h K) (J:∀x∈ZhC ops o,E x=G x):ZdZ P R₀ h₀ ops i o G h K:=
 fun R t I S=>H R t I fun x A=>by rw[J x A];exact S x A
theorem Zj7 {T:Tb} {ops:Array Oper} {o:Oper} {E:Operand->AV} (h h':List Zh) (hr:Zdx o.op=false):JA T ops o E h=JA T ops o E h':=by
 have A:∀E,ZgN T E h o.op=ZgN T E h' o.op:=fun E=>by
  unfold ZgN;split<;>first
   |rfl
   |(rename_i e;rw[e]at hr;cases hr)
 unfold JA;simp only[A]
structure CnS (ops:Array Oper) (s0 s:List AV) (done:Nat):Prop where
 cl:ZeO ops (fun i=>YP done i=true)
 keep:∀d:Nat,(∀(i:Nat) (o:Oper),ops[i]? =some o->o.dst=some d->YP done i=false)->s.getD d .undef=s0.getD d .undef
 bound:∀i,YP done i=true->i<ops.size
 len:s.length=s0.length
structure Ct (R₀:RC) (h₀:List Zh) (ops:Array Oper) (s0 s:List AV) (h:List Zh) (done:Nat) (D:Nat->Prop) (R:RC) (t:Array Value):Prop where
 inv:Inv R₀ h₀ R h
 sz:t.size=s.length
 sub:∀i,D i->YP done i=true
 ev:∀(i:Nat) (o:Oper),ops[i]? =some o->Xk o.op=false->YP done i=true->D i
 cl:ZeO ops D
 slotD:∀(i:Nat) (o:Oper) (d:Nat),ops[i]? =some o->o.dst=some d->D i->VR R (s.getD d .undef) (t.getD d undef)
 slot0:∀d:Nat,(∀(i:Nat) (o:Oper),ops[i]? =some o->o.dst=some d->¬D i)->VR R (s0.getD d .undef) (t.getD d undef)
def Zh8 (T:Tb) (ops:Array Oper) (s0 s:List AV) (h:List Zh) (done:Nat) (D:Nat->Prop):Prop:=
 ∀(i:Nat) (o:Oper),ops[i]? =some o->Xk o.op=true->YP done i=true->¬D i->
  ∃E v c,(∀x∈ZhC ops o,E x=evR ops s0 s o x)/\JA T ops o E h=some (v,c)/\ZT c/\∀d,o.dst=some d->d<s.length->Imp v (s.getD d .undef)
section
variable {T:Tb} {R₀:RC} {h₀:List Zh} {ops:Array Oper} {s0:List AV}
theorem Zac {o:Oper} {d:Nat}:(aft o).any (Yy ops d)=true↔∃j∈aft o,∃G,ops[j]? =some G/\G.dst=some d:=by
 rw[List.any_eq_true];constructor
 ·rintro⟨j,hj,hw⟩;refine⟨j,hj,?_⟩;unfold Yy at hw;split at hw
  ·rename_i G A;exact⟨G,A,(Zaf A).1 (by unfold Yy;rw[A];exact hw)⟩
  cases hw
 rintro⟨j,hj,G,A,hd⟩;exact⟨j,hj,(Zaf A).2 hd⟩
theorem ZgM {R:RC} {s:List AV} {t:Array Value} {x:Operand} (A:∀d,x≠ .tmp d):VR R (Vm.ev s x) (QH t x):=by
 cases x with
 |tmp i=>exact absurd rfl (A i)
 |const v=>exact Zgc v
 |global g=>exact .undef _
 |func f=>exact .fn f [] [] #[] #[] rfl rfl (fun j c h=>by simp at h) (fun j c h=>by simp at h)
theorem Ct.eok (S:ZbJ ops) {s:List AV} {h:List Zh} {done:Nat} {D:Nat->Prop} {R:RC} {t:Array Value} (H:Ct R₀ h₀ ops s0 s h done D R t) {i:Nat} {o:Oper} (Y:ops[i]? =some o) (V:¬D i) (hp:∀j∈aft o,D j):
  EOK R ops o (evR ops s0 s o) t:=fun x hx=>by
 cases x with
 |tmp d=>
  by_cases hw:(aft o).any (Yy ops d)=true
  ·simp only[evR,hw,if_true];obtain⟨j,Z,G,A,I⟩:=Zac.1 hw;exact H.slotD j G d A I (hp j Z)
  simp only[evR,if_neg hw];refine H.slot0 d fun j G A I U=>?_;rcases S.ord i j o G d Y A hx I with J|J
  ·exact hw (Zac.2 ⟨j,J,G,A,I⟩)
  exact V (H.cl j G A U i J)
 |const v=>exact ZgM (s:=s) (x:=.const v) (fun d h=>by cases h)
 |global g=>exact ZgM (s:=s) (x:=.global g) (fun d h=>by cases h)
 |func f=>exact ZgM (s:=s) (x:=.func f) (fun d h=>by cases h)
theorem CnS.evR (J:ZbJ ops) {s:List AV} {done:Nat} (H:CnS ops s0 s done) {i:Nat} {o:Oper} (V:ops[i]? =some o) (U:YP done i=false):∀x∈ZhC ops o,Vm.ev s x=Vm.evR ops s0 s o x:=fun x Y=>by
 cases x with
 |tmp d=>
  by_cases hw:(aft o).any (Yy ops d)=true
  ·simp only[Vm.evR,hw,if_true]
  simp only[Vm.evR,if_neg hw];refine H.keep d fun j G A S=>?_;cases hj:YP done j with
  |false=>rfl
  |true=>
   rcases J.ord i j o G d V A Y S with I|I
   ·exact absurd (Zac.2 ⟨j,I,G,A,S⟩) hw
   have this:YP done i=true:=H.cl j G A hj i I;rw[U]at this;cases this
 |_=>rfl
theorem Jb {s:List AV} {d:Option Tmp} {v:AV} {e:Nat} (A:d≠some e):(putO s d v).getD e .undef=s.getD e .undef:=by
 cases d with
 |none=>rfl
 |some d=>
  have:d≠e:=fun h=>A (by rw[h]);simp[putO,aA,this]
theorem Zce {s:List AV} {d:Nat} {v:AV} (A:d<s.length):(putO s (some d) v).getD d .undef=v:=by
 simp[putO,aA,A]
theorem YO {s:List AV} {d:Option Tmp} {v:AV}:(putO s d v).length=s.length:=by cases d<;>simp[putO]
theorem Zkd (G:ZbJ ops) {s:List AV} {done:Nat} (H:ZeO ops (fun i=>YP done i=true)) {i k:Nat} {o A:Oper} (U:ops[i]? =some o) (hi:YP done i=true) (J:ops[k]? =some A) (V:YP done k=false) (v:AV) (x:Operand):
  evR ops s0 (putO s A.dst v) o x=evR ops s0 s o x:=by
 cases x with
 |tmp d=>
  by_cases hw:(aft o).any (Yy ops d)=true
  ·simp only[evR,hw,if_true];obtain⟨j,Y,S,I,Z⟩:=Zac.1 hw;refine Jb fun e=>?_;have:=G.once j k S A d I J Z e;subst this;have this:YP done j=true:=H i o U hi j Y;rw[V]at this;cases this
  simp only[evR,if_neg hw]
 |_=>rfl
theorem CnS.put (Z:ZbJ ops) {s:List AV} {done:Nat} (H:CnS ops s0 s done) {i:Nat} {o:Oper} (I:ops[i]? =some o) (Y:∀j∈aft o,YP done j=true) (v:AV):CnS ops s0 (putO s o.dst v) (add done i):=by
 refine⟨fun j J G A x U=>?_,fun d V=>?_,fun j A=>?_,by rw[YO];exact H.len⟩
 ·simp only[Y0,dC,decide_eq_true_eq]at A|-;rcases A with A|rfl
  ·exact .inl (H.cl j J G A x U)
  rw[I]at G;cases G;exact .inl (Y x U)
 ·rw[Jb (fun e=>by have:=V i o I e;simp[Y0]at this)];exact H.keep d fun j J G S=>by
   have:=V j J G S;rw[Y0]at this;simp at this;exact this.1
 simp only[Y0,dC,decide_eq_true_eq]at A;rcases A with A|rfl
 ·exact H.bound j A
 exact(aM.1 I).1
theorem ZlC (J:ZbJ ops) {s:List AV} {h:List Zh} {done:Nat} (H:CnS ops s0 s done) {i:Nat} {o:Oper} (Z:ops[i]? =some o) (hf:Xk o.op=true) (hn:YP done i=false) {v:AV} {c:Cd} (hv:JA T ops o (ev s) h=some (v,c)) (hc:ZT c)
  {D:Nat->Prop} {R:RC} {t:Array Value} (C:Ct R₀ h₀ ops s0 s h done D R t) (G:Zh8 T ops s0 s h done D):
  Ct R₀ h₀ ops s0 (putO s o.dst v) h (add done i) D R t/\Zh8 T ops s0 (putO s o.dst v) h (add done i) D:=by
 have ac:¬D i:=fun hD=>by have:=C.sub i hD;rw[hn]at this;cases this
 refine⟨⟨C.inv,by rw[YO];exact C.sz,fun j I=>by rw[Y0,C.sub j I];rfl,fun j S A Y I=>?_,C.cl,fun j S d A U hD=>?_,C.slot0⟩,fun j S A Y I ab=>?_⟩
 ·simp only[Y0,dC,decide_eq_true_eq]at I;rcases I with I|rfl
  ·exact C.ev j S A Y I
  rw[Z]at A;cases A;rw[hf]at Y;cases Y
 ·rw[Jb (fun e=>ac (by have:=J.once j i S o d A Z U e;exact this▸hD))];exact C.slotD j S d A U hD
 simp only[Y0,dC,decide_eq_true_eq]at I;by_cases e:i=j
 ·subst e;rw[Z]at A;cases A;refine⟨ev s,v,c,fun x hx=>?_,hv,hc,fun d U V=>?_⟩
  ·rw[H.evR J Z hn x hx];cases x with
   |tmp d=>
    by_cases hw:(aft o).any (Yy ops d)=true
    ·simp only[evR,hw,if_true];obtain⟨k,hk,S,A,U⟩:=Zac.1 hw;exact(Jb fun e=>by have:=J.once k i S o d A Z U e;subst this;exact absurd (J.back _ _ Z _ hk) (Nat.lt_irrefl _)).symm
    simp only[evR,if_neg hw]
   |_=>rfl
  rw[U]at*;rw[YO]at V;rw[Zce V];exact Imp.refl _
 have aa:YP done j=true:=by
  rcases I with I|I
  ·exact I
  exact absurd I e
 obtain⟨E,v',c',h1,h2,h3,h4⟩:=G j S A Y aa ab;refine⟨E,v',c',fun x hx=>(h1 x hx).trans (Zkd J H.cl A aa Z hn v x).symm,h2,h3,fun d U V=>?_⟩;rw[Jb (fun e'=>e (J.once i j o S d Z A e' U))];exact h4 d U (by rw[YO]at V;exact V)
theorem Zcf (I:ZbJ ops) {h:List Zh}:∀(l:List Pr) (s:List AV) (done:Nat) (c:Cd) (S:List AV) (A:Nat) (Y:Cd),(∀p∈l,ops[p.i]? =some p.o/\p.m=Zg3 p.o/\p.fl=Xk p.o.op)->
  X9 T ops h l s done c=some (S,A,Y)->ZT Y->ZT c/\(CnS ops s0 s done->CnS ops s0 S A/\∀ {V:RC} {U:List Zh} {D:Nat->Prop} {R:RC} {t:Array Value},Ct V U ops s0 s h done D R t->Zh8 T ops s0 s h done D->
   Ct V U ops s0 S h A D R t/\Zh8 T ops s0 S h A D)
 |[],s,done,c,S,A,Y,_,hv,hc=>by
  simp only[X9,aC,aK]at hv;obtain⟨rfl,rfl,rfl⟩:=hv;exact⟨hc,fun H=>⟨H,fun C G=>⟨C,G⟩⟩⟩
 |p::r,s,done,c,S,A,Y,hl,hv,hc=>by
  obtain⟨e1,e2,e3⟩:=hl p (aU ..);have Z:=fun q hq=>hl q (aQ _ hq);simp only[X9]at hv;split at hv
  ·rename_i J;simp only[aT,cG]at J;obtain⟨⟨f1,f2⟩,f3⟩:=J;split at hv;case h_2=>cases hv
   rename_i v c1 aa;obtain⟨a1,a2⟩:=Zcf I r _ _ _ _ _ _ Z hv hc;obtain⟨b1,b2⟩:=Z1 a1;refine⟨b1,fun H=>?_⟩;have H':=H.put I e1 (fun j hj=>Zsc f3 (by rw[e2];exact ZdK.2 hj)) v;obtain⟨d1,d2⟩:=a2 H';refine⟨d1,fun C G=>?_⟩;obtain⟨T',G'⟩:=ZlC I H e1 (by rw[<-e3];exact f1) f2 aa b2 C G;exact d2 T' G'
  exact Zcf I r _ _ _ _ _ _ Z hv hc
theorem Zbh {s:List AV} {h:List Zh} {a done:Nat}:∀(l:List Pr) (c:Cd),YJ T ops s0 s h a done l=some c->ZT c->∀p∈l,p.fl=true->YP done p.i=true->YP a p.i=false->Zdx p.o.op=true->
  ∃v U,JA T ops p.o (evR ops s0 s p.o) h=some (v,U)/\ZT U/\Imp v (Zub s p.o.dst)
 |[],_,_,_,p,A=>by cases A
 |q::r,c,hv,hc,p,A=>by
  intro S H J I;simp only[YJ]at hv;split at hv
  ·split at hv;case h_2=>cases hv
   rename_i v Y c2 h1 Z;simp only[aC]at hv;subst hv;obtain⟨b1,V⟩:=Z1 hc;rcases bG.1 A with rfl|A
   ·exact⟨v,Y,h1,b1,(V _ (aU ..)).elim (fun e=>by simp only at e;rw[e];exact Imp.refl _) id⟩
   exact Zbh r _ Z (fun x hx=>V x (aQ _ hx)) p A S H J I
  rename_i G;rcases bG.1 A with rfl|A
  ·simp[S,H,J,I]at G
  exact Zbh r _ hv hc p A S H J I
theorem Zjx {done:Nat}:∀ {l:List Pr},Zhy l done=true->∀p∈l,p.fl=true->sub p.m done=true->YP done p.i=true
 |[],_,p,A=>by cases A
 |q::r,h,p,A=>fun H G=>by
  simp only[Zhy,aT]at h;rcases bG.1 A with rfl|A
  ·simpa [H,G]using h.1
  exact Zjx h.2 p A H G
theorem ZeY {done:Nat}:∀ {l:List Pr} {p:Pr},p∈l->p.fl=false->YP done p.i=false->sub p.m done=true->p∈Yd l done
 |[],_,A,_,_,_=>by cases A
 |q::r,p,A,h1,h2,h3=>by
  simp only[Yd];rcases bG.1 A with rfl|A
  ·simp[h1,h2,h3]
  have:=ZeY A h1 h2 h3;split
  ·exact aQ _ this
  exact this
theorem YK {done:Nat}:∀ {l:List Pr} {p:Pr},p∈Yd l done->p∈l/\YP done p.i=false
 |[],_,A=>by cases A
 |q::r,p,A=>by
  simp only[Yd]at A;split at A
  ·rename_i G;rcases bG.1 A with rfl|A
   ·simp only[aT,cG]at G;exact⟨aU ..,G.1.2⟩
   exact⟨aQ _ (YK A).1,(YK A).2⟩
  exact⟨aQ _ (YK A).1,(YK A).2⟩
theorem ZkO {α:Type} {f:α->Prop}:∀ {l:List α},Zn5 f l->∀x∈l,f x
 |[],_,x,A=>by cases A
 |[a],h,x,A=>by
  rcases bG.1 A with rfl|A
  ·exact h
  cases A
 |a::b::l,h,x,A=>by
  rcases bG.1 A with rfl|A
  ·exact h.l
  exact ZkO h.r x A
theorem Ct.sl {s:List AV} {h:List Zh} {done:Nat} {D:Nat->Prop} {R:RC} {t:Array Value} (C:Ct R₀ h₀ ops s0 s h done D R t) (H:CnS ops s0 s done) (J:∀i,i<ops.size->D i):SL R s t:=by
 refine⟨C.sz,fun d a U=>?_⟩;have S:s.getD d .undef=a:=by rw[aA,U];rfl
 by_cases hw:∃(i:Nat) (o:Oper),ops[i]? =some o/\o.dst=some d
 ·obtain⟨i,o,G,A⟩:=hw;rw[<-S];exact C.slotD i o d G A (J i (aM.1 G).1)
 have I:∀(i:Nat) (o:Oper),ops[i]? =some o->o.dst=some d->False:=fun i o G A=>hw ⟨i,o,G,A⟩;rw[<-S,H.keep d fun i o G A=>(I i o G A).elim];exact C.slot0 d fun i o G A=>(I i o G A).elim
theorem ZhN {t:Array Value} {d:Option Tmp} {u:Value} {e:Nat} (A:d≠some e):(Z2 t d u).getD e undef=t.getD e undef:=by
 cases d with
 |none=>rfl
 |some d=>
  have:d≠e:=fun h=>A (by rw[h]);simp[Z2,aI,this]
theorem Zm7 {t:Array Value} {d:Option Tmp} {u:Value}:(Z2 t d u).size=t.size:=by cases d<;>simp[Z2]
theorem Ct.run (Y:ZbJ ops) {s:List AV} {h h':List Zh} {done done':Nat} {D:Nat->Prop} {R R':RC} {t:Array Value} (C:Ct R₀ h₀ ops s0 s h done D R t) {i:Nat} {o:Oper} (S:ops[i]? =some o) (ab:¬D i) (hp:∀j∈aft o,D j) {s':List AV} {u:Value}
  (hi:Inv R₀ h₀ R' h') (U:R.le R') (V:s'.length=s.length) (hs:∀d:Nat,o.dst≠some d->s'.getD d .undef=s.getD d .undef) (hv:∀d:Nat,o.dst=some d->d<s.length->VR R' (s'.getD d .undef) u)
  (J:∀j,YP done' j=true↔YP done j=true\/j=i):Ct R₀ h₀ ops s0 s' h' done' (fun j=>D j\/j=i) R' (Z2 t o.dst u):=by
 have Z:∀(j:Nat) (H:Oper) (d:Nat),ops[j]? =some H->H.dst=some d->D j->o.dst≠some d:=fun j H d A I hD e=>by
  have:=Y.once i j o H d S A e I;subst this;exact ab hD
 refine⟨hi,by rw[Zm7,V];exact C.sz,fun j G=>(J j).2 (G.imp (C.sub j) id),fun j H A hf G=>?_,fun j H A G x hx=>?_,fun j H d A I G=>?_,fun d I=>?_⟩
 ·exact((J j).1 G).imp (C.ev j H A hf) id
 ·rcases G with G|rfl
  ·exact .inl (C.cl j H A G x hx)
  rw[S]at A;cases A;exact .inl (hp x hx)
 ·rcases G with G|rfl
  ·have:=Z j H d A I G;rw[hs d this,ZhN this];exact(C.slotD j H d A I G).mono U
  rw[S]at A;cases A;by_cases hlt:d<s.length
  ·have e:(Z2 t o.dst u).getD d undef=u:=by
    rw[I];simp[Z2,aI,C.sz,hlt]
   rw[e];exact hv d I hlt
  rw[aA,cD (by omega)];exact .undef _
 have:o.dst≠some d:=fun e=>I i o S e (.inr rfl);rw[ZhN this];exact(C.slot0 d fun j H A aa G=>I j H A aa (.inl G)).mono U
end
end Vm
namespace Vm
open Go Conc1
section
variable {T:Tb} {p:Unit->Program} {R₀:RC} {h₀:List Zh} {ops:Array Oper} {s0:List AV} {K:List AV->List Zh->Cd->Prop}
def WDk (T:Tb) (p:Unit->Program) (ops:Array Oper) (pr:List Pr) (s0:List AV) (K:List AV->List Zh->Cd->Prop) (n done:Nat) (s:List AV) (q:Pr) (v:AV) (h:List Zh) (c:Cd):Prop:=
 match YJ T ops s0 (putO s q.o.dst v) h q.a done pr with
 |some A=>WD T p ops pr s0 K n (add done q.i) (putO s q.o.dst v) h (c++A)
 |none=>False
theorem ZkG {pr:List Pr} {n:Nat} (G:∀done s h c,WD T p ops pr s0 K n done s h c->ZT c) {done:Nat} {s:List AV} {q:Pr} {v:AV} {h:List Zh} {c:Cd} (A:WDk T p ops pr s0 K n done s q v h c):ZT c:=by
 unfold WDk at A;split at A
 ·exact(Z1 (G _ _ _ _ A)).1
 exact A.elim
theorem ZkH (hT:T.Of (p ())) {pr:List Pr} {n done:Nat} {s:List AV} {h:List Zh} {c:Cd} (U:∀q∈pr,ops[q.i]? =some q.o) (V:∀s h c,K s h c->ZT c) (Y:∀done s h c,WD T p ops pr s0 K n done s h c->ZT c) (hW:WD T p ops pr s0 K (n+1) done s h c):
  ∃I A J,X9 T ops h pr s done c=some (I,A,J)/\ZT J/\Zhy pr A=true/\(Yd pr A=[]->∃c,K I h c)/\
   ∀q∈Yd pr A,∃c',Wop T p ops q.o (ev I) h c' (WDk T p ops pr s0 K n A I q):=by
 simp only[WD]at hW;split at hW
 ·exact hW.elim
 rename_i I A J hf;refine⟨I,A,J,hf,?_⟩;split at hW;case isFalse=>exact hW.elim
 rename_i H;split at hW
 ·rename_i hr;split at hW
  ·exact⟨V _ _ _ hW,H,fun _=>⟨_,hW⟩,fun q G=>by rw[hr]at G;cases G⟩
  exact hW.elim
 ·rename_i q hr;have hp:q∈pr:=(YK (done:=A) (by rw[hr];exact aU ..)).1;refine⟨(Zjd hT (R₀:=⟨default,0,0,fun _=>⟨0,0⟩,fun _=>0,fun _=>undef,fun _ _ _=>False,none⟩) (h₀:=[]) (U q hp) (fun v h c hk=>ZkG Y hk) hW).1,H,fun e=>(by rw[hr]at e;cases e),fun q' G=>?_⟩;rw[hr]at G;rcases bG.1 G with rfl|G
  ·exact⟨_,hW⟩
  cases G
 rename_i S _;obtain⟨a1,Z⟩:=Z5 hW;exact⟨a1,H,fun e=>absurd e S,fun q G=>⟨_,ZkO Z q G⟩⟩
theorem ZaA {h:List Zh}:∀(l:List Pr) (s:List AV) (done:Nat) (c:Cd) (H:List AV) (A:Nat) (G:Cd),X9 T ops h l s done c=some (H,A,G)->ZT G->ZT c
 |[],s,done,c,H,A,G,hv,hc=>by
  simp only[X9,aC,aK]at hv;obtain⟨rfl,rfl,rfl⟩:=hv;exact hc
 |p::r,s,done,c,H,A,G,hv,hc=>by
  simp only[X9]at hv;split at hv
  ·split at hv;case h_2=>cases hv
   exact(Z1 (ZaA r _ _ _ _ _ _ hv hc)).1
  exact ZaA r _ _ _ _ _ _ hv hc
theorem ZdV (hT:T.Of (p ())) {pr:List Pr} (G:∀q∈pr,ops[q.i]? =some q.o/\q.m=Zg3 q.o/\q.fl=Xk q.o.op) (H:∀s h c,K s h c->ZT c):∀(n done:Nat) (s:List AV) (h:List Zh) (c:Cd),WD T p ops pr s0 K n done s h c->ZT c
 |0,_,_,_,_,hW=>by simp only[WD]at hW
 |n+1,done,s,h,c,hW=>by
  obtain⟨S,A,J,V,U,_⟩:=ZkH hT (fun q I=>(G q I).1) H (ZdV hT G H n) hW;exact ZaA pr s done c S A J V U
def Fin (P:Program) (R₀:RC) (h₀:List Zh) (ops:Array Oper) (K:List AV->List Zh->Cd->Prop) (R:RC) (h:List Zh) (t:Array Value) (G:List Nat):Prop:=
 ∀(b:FB) (I:List Deferred) (k:List Item) (cs:List Frame),∃J H A S,(∃c,K J H c)/\Inv R₀ h₀ A H/\Xd R h A H/\R.le A/\SL A J S/\
  Steps P R.cx (ZH (mkF b t I (.inRegion ops G::k)) cs R.w) (ZH (mkF b S I k) cs A.w)
def Zlv (ops:Array Oper) (A:Array Bool):Nat:=(aR ops.size).countP fun i=> !A.getD i true
theorem Znz {A:Array Bool} (H:A.size=ops.size) (h:Zlv ops A=0):∀i,i<ops.size->A.getD i false=true:=by
 intro i G;have:=List.countP_eq_zero.1 h i (bW.2 G);simp only[Bool.not_eq_true,Bool.not_eq_false']at this;rw[aI,aY (by omega)]at this|-;exact this
theorem Zqk {A:Array Bool} (Z:A.size=ops.size) {i:Nat} (hi:i<ops.size) (hn:A.getD i true=false):Zlv ops (A.setIfInBounds i true)+1<=Zlv ops A:=by
 unfold Zlv;have U:∀j,j<ops.size->(A.setIfInBounds i true).getD j true=(A.getD j true||decide (i=j)):=fun j G=>by
  rw[aI,aI,bR];by_cases e:i=j
  ·subst e;simp[Z,hi]
  simp[e]
 generalize S:aR ops.size=l;have H:l.Nodup:=S▸List.nodup_range;have I:i∈l:=S▸bW.2 hi;have J:∀j∈l,j<ops.size:=fun j G=>bW.1 (S▸G);clear S;induction l with
 |nil=>cases I
 |cons x r ih=>
  rw[List.nodup_cons]at H;rw[fP,fP,U x (J x (aU ..))];rcases bG.1 I with rfl|hm
  ·have:iM (fun j=> !(A.setIfInBounds i true).getD j true) r=iM (fun j=> !A.getD j true) r:=List.countP_congr fun j G=>by
    have V:i≠j:=fun e=>H.1 (e▸G);rw[U j (J j (aQ _ G))];simp[V]
   rw[this,hn];simp
  have Y:i≠x:=fun e=>H.1 (e▸hm);have:=ih H.2 hm (fun j G=>J j (aQ _ G));simp only[Y,decide_false,eN];omega
theorem Znh (H:ZbJ ops) {A:Array Bool} (Y:A.size=ops.size) (h:Region.ready .any ops A=[]):∀i,i<ops.size->A.getD i false=true:=by
 intro i;induction i using Nat.strongRecOn with
 |_ i V=>
  intro J;cases hl:A.getD i false with
  |true=>rfl
  |false=>
   have:i∈Region.ready .any ops A:=by
    unfold Region.ready;refine ff.2 ⟨bW.2 J,?_⟩;have I:ops[i]? =some ops[i]:=aY J;have U:A.getD i true=false:=by
     rw[aI,aY (by omega)]at hl|-;exact hl
    rw[I,U];simp only[Bool.not_false,cL,bY,Bool.true_and];rw[ig];intro m hm;cases hb:Region.binds .any ops[i].after[m]with
    |false=>rfl
    |true=>
     have G:ops[i].after[m].on∈aft ops[i]:=bE.2 ⟨ops[i].after[m],ff.2 ⟨by simp,by rw[ZhZ];exact hb⟩,rfl⟩;have S:=H.back i _ I _ G;rw[V _ S (by omega)];rfl
   rw[h]at this;cases this
theorem Zni {A:Array Bool} {i:Nat} (h:i∈Region.ready .any ops A):i<ops.size/\A.getD i true=false/\∃o,ops[i]? =some o/\∀j∈aft o,A.getD j false=true:=by
 unfold Region.ready at h;obtain⟨Y,H⟩:=ff.1 h;have J:=bW.1 Y;rw[aY J]at H;simp only[cL,bY,aT,cG]at H;refine⟨J,H.1,_,aY J,fun j U=>?_⟩;obtain⟨e,V,rfl⟩:=bE.1 U;obtain⟨S,I⟩:=ff.1 V;rw[ZhZ]at I;have:=H.2;rw[ig]at this;obtain⟨m,hm,G⟩:=List.getElem_of_mem S;have:=this m (by simpa using hm);have G:ops[i].after[m]'(by simpa using hm)=e:=by simpa using G
 rw[G,I]at this;simpa using this
theorem ZnH {A:Array Bool} {i j:Nat} (hi:i<A.size):(A.setIfInBounds i true).getD j false=true↔A.getD j false=true\/j=i:=by
 rw[aI,aI,bR];by_cases e:i=j
 ·subst e;simp[hi]
 simp only[if_neg e];constructor
 ·exact fun h=>.inl h
 rintro(h|h)
 ·exact h
 exact absurd h.symm e
theorem Ct.congr {s:List AV} {h:List Zh} {done:Nat} {D D':Nat->Prop} {R:RC} {t:Array Value} (T:Ct R₀ h₀ ops s0 s h done D R t) (A:∀j,D' j↔D j):Ct R₀ h₀ ops s0 s h done D' R t:=by
 have:D'=D:=funext fun j=>propext (A j);subst this;exact T
theorem ZwU (ae:T.Of (p ())) (I:ZbJ ops) {pr:List Pr} (bp:pr=Zss ops) (hK:∀s h c,K s h c->ZT c):∀(n done:Nat) (s:List AV) (h:List Zh) (c:Cd),WD T p ops pr s0 K n done s h c->CnS ops s0 s done->
  ∀(H tape:Nat) (A:Array Bool) (R:RC) (t:Array Value),A.size=ops.size->Ct R₀ h₀ ops s0 s h done (fun i=>A.getD i false=true) R t->Zh8 T ops s0 s h done (fun i=>A.getD i false=true)->
   Zlv ops A<=H->Fin (p ()) R₀ h₀ ops K R h t (Region.linearise.go .any ops H tape A []):=by
 have au:∀(D:Nat->Prop),ZeO ops D->∀q∈pr,ops[q.i]? =some q.o/\q.m=Zg3 q.o/\q.fl=Xk q.o.op/\((∀j∈aft q.o,D j)->∀x,YP q.a x=true->D x):=fun D hD q Z=>
  Zb1 D hD ops.toList 0 [] (fun m hm=>by simp) rfl (fun j V x hx=>by simp[ZaW]at hx) q (by rw[bp]at Z;exact Z)
 have bx:ZeO ops fun _=>True:=fun _ _ _ _ _ _=>trivial;have J:∀q∈pr,ops[q.i]? =some q.o/\q.m=Zg3 q.o/\q.fl=Xk q.o.op:=fun q Z=>let ⟨a,b,c,_⟩:=au _ bx q Z;⟨a,b,c⟩;have aw:∀(i:Nat) (o:Oper),ops[i]? =some o->∃q∈pr,q.i=i/\q.o=o:=fun i o U=>by
  obtain⟨q,h1,h2,h3⟩:=Zf7 (i:=0) ops.toList [] i o (by simpa using U);exact⟨q,by rw[bp];exact h1,by omega,h3⟩
 intro n;induction n with
 |zero=>intro done s h c hW;simp only[WD]at hW
 |succ n cq=>
  intro done s h c hW hC H tape A R t ar bt hG ct;obtain⟨s1,G,c1,hf,cj,bz,bw,ce⟩:=ZkH ae (fun q hq=>(J q hq).1) hK (ZdV ae J hK n) hW;obtain⟨_,ab⟩:=Zcf (s0:=s0) I pr s done c s1 G c1 J hf cj;obtain⟨C1,ab⟩:=ab hC;obtain⟨T1,G1⟩:=ab bt hG;clear bt hG ab hf hC hW;have ak:∀(A:Array Bool) (R:RC) (t:Array Value),Ct R₀ h₀ ops s0 s1 h G (fun i=>A.getD i false=true) R t->(∀i,i<ops.size->A.getD i false=true)->Fin (p ()) R₀ h₀ ops K R h t []:=by
   intro A R t C hD b ds k cs;have al:Yd pr G=[]:=by
    cases hr:Yd pr G with
    |nil=>rfl
    |cons q l=>
     obtain⟨h1,h2⟩:=YK (done:=G) (p:=q) (l:=pr) (by rw[hr];exact aU ..);have:=C.sub q.i (hD q.i (aM.1 (J q h1).1).1);rw[h2]at this;cases this
   exact⟨s1,h,R,t,bw al,C.inv,Xd.refl _ _,RC.le.refl _,C.sl C1 hD,.one Y8⟩
  induction H generalizing tape A R t with
  |zero=>exact ak A R t T1 (Znz ar (by omega))
  |succ H ck=>
   rw[Region.linearise.go]
   show Fin (p ()) R₀ h₀ ops K R h t (match(Region.ready .any ops A)[tape%(Region.ready .any ops A).length]? with
    |some i=>Region.linearise.go .any ops H (tape/(Region.ready .any ops A).length) (A.setIfInBounds i true) [i]
    |none=>[].reverse)
   cases hi:(Region.ready .any ops A)[tape%(Region.ready .any ops A).length]? with
   |none=>
    have al:Region.ready .any ops A=[]:=by
     cases hr:Region.ready .any ops A with
     |nil=>rfl
     |cons x xs=>
      rw[hr]at hi;have S:tape%(x::xs).length<(x::xs).length:=Nat.mod_lt _ (by simp);rw[List.getElem?_eq_none_iff]at hi;omega
    exact ak A R t T1 (Znh I ar al)
   |some i=>
    obtain⟨S,am,o,U,Z⟩:=Zni (List.mem_of_getElem? hi);simp only[];rw[linearise_go_acc,List.reverse_singleton,List.singleton_append];have aj:¬A.getD i false=true:=by
     rw[aI,aY (by omega)]at am|-;simp only[bY]at am|-;rw[am];exact Bool.false_ne_true
    have bq:(A.setIfInBounds i true).size=ops.size:=by simpa using ar
    have ai:Zlv ops (A.setIfInBounds i true)<=H:=by have:=Zqk ar S am;omega
    have aa:∀j,(A.setIfInBounds i true).getD j false=true↔A.getD j false=true\/j=i:=fun j=>ZnH (by omega);have ba:=T1.eok I U aj Z;obtain⟨q,ap,rfl,rfl⟩:=aw i o U;obtain⟨_,hm,ab⟩:=J q ap;have bl:sub q.m G=true:=ZuK fun j V=>T1.sub j (Z j (by rw[hm]at V;exact ZdK.1 V));intro b ds k cs;cases hff:Xk q.o.op with
    |true=>
     have ac:=Zjx bz q ap (by rw[ab];exact hff) bl;obtain⟨E,v,c',g1,g2,g3,g4⟩:=G1 q.i q.o U hff ac aj;obtain⟨v',h',R',u,⟨rfl,rfl⟩,a1,a2,a3,a4,a5⟩:=(ZhP ae (R₀:=R₀) (h₀:=h₀) U g2 g3).congr g1 R t T1.inv ba b ds k cs (Region.linearise.go .any ops H (tape/(Region.ready .any ops A).length) (A.setIfInBounds q.i true) []);have T2:=T1.run I (done':=G) (s':=s1) (u:=u) U aj Z a1 a3 rfl (fun _ _=>rfl) (fun d Y S=>(g4 d Y S).f _ _ a4) (fun j=>⟨.inl,fun V=>V.elim id fun e=>e▸ac⟩);have T2:=T2.congr (D':=fun j=>(A.setIfInBounds q.i true).getD j false=true) aa;obtain⟨a9,bh,bg,az,b1,b2,b3,b4,b5,b6⟩:=ck (tape/(Region.ready .any ops A).length) (A.setIfInBounds q.i true) R' (Z2 t q.o.dst u) bq ai T2 (fun j o' ah ao V aq=>G1 j o' ah ao V fun e=>aq ((aa j).2 (.inl e))) b ds k cs;exact⟨a9,bh,bg,az,b1,b2,a2.trans b3,a3.trans b4,b5,a5.trans (Ys a3 b6)⟩
    |false=>
     have ac:YP G q.i=false:=by
      cases e:YP G q.i with
      |false=>rfl
      |true=>exact absurd (T1.ev q.i q.o U hff e) aj
     obtain⟨cx,ca⟩:=ce q (ZeY ap (by rw[ab];exact hff) ac bl);have cn:=C1.evR I U ac;obtain⟨_,b9⟩:=Zjd ae (R₀:=R₀) (h₀:=h₀) U (fun v h c hk=>ZkG (ZdV ae J hK n) hk) ca;obtain⟨v,h',R',u,⟨c2,hk⟩,a1,a2,a3,a4,a5⟩:=b9.congr cn R t T1.inv ba b ds k cs (Region.linearise.go .any ops H (tape/(Region.ready .any ops A).length) (A.setIfInBounds q.i true) []);unfold WDk at hk;split at hk;case h_2=>exact hk.elim
     rename_i c3 cr;have ci:=(Z1 (ZdV ae J hK n _ _ _ _ hk)).2;have C2:=C1.put I U (fun j V=>T1.sub j (Z j V)) v
     have T2:=T1.run I (done':=add G q.i) (s':=putO s1 q.o.dst v) (u:=u) U aj Z a1 a3 YO (fun d Y=>Jb Y) (fun d Y S=>by rw[Y,Zce S];exact a4) (fun j=>by
      rw[Y0];simp only[dC,decide_eq_true_eq];exact⟨fun h=>h.imp id Eq.symm,fun h=>h.imp id Eq.symm⟩)
     have T2:=T2.congr (D':=fun j=>(A.setIfInBounds q.i true).getD j false=true) aa;have G2:Zh8 T ops s0 (putO s1 q.o.dst v) h' (add G q.i) fun j=>(A.setIfInBounds q.i true).getD j false=true:=by
      intro j o' ah ao V aq;have bk:¬A.getD j false=true:=fun e=>aq ((aa j).2 (.inl e));have bu:j≠q.i:=fun e=>aq ((aa j).2 (.inr e));have bc:YP G j=true:=by
       rw[Y0]at V;simp only[dC,decide_eq_true_eq]at V;exact V.resolve_right fun e=>bu e.symm
      have bm:∀d,o'.dst=some d->(putO s1 q.o.dst v).getD d .undef=s1.getD d .undef:=fun d Y=>Jb fun e=>bu (I.once j q.i o' q.o d ah U Y e);obtain⟨E,v1,c4,g1,g2,g3,g4⟩:=G1 j o' ah ao bc bk;cases hrm:Zdx o'.op with
      |false=>exact⟨E,v1,c4,fun x hx=>(g1 x hx).trans (Zkd I C1.cl ah bc U ac v x).symm,by rw[Zj7 h' h hrm];exact g2,g3,fun d Y S=>by rw[bm d Y];exact g4 d Y (by rw[YO]at S;exact S)⟩
      |true=>
       obtain⟨q2,bo,rfl,rfl⟩:=aw j o' ah;obtain⟨_,_,cf⟩:=J q2 bo;have cg:YP q.a q2.i=false:=by
        cases e:YP q.a q2.i with
        |false=>rfl
        |true=>exact absurd ((au _ T1.cl q ap).2.2.2 Z q2.i e) bk
       obtain⟨v2,c5,k1,k2,k3⟩:=Zbh pr c3 cr ci q2 bo (by rw[cf];exact ao) bc cg hrm;exact⟨_,v2,c5,fun x hx=>rfl,k1,k2,fun d Y S=>by rw[Y]at k3;exact k3⟩
     obtain⟨a9,bh,bg,az,b1,b2,b3,b4,b5,b6⟩:=cq _ _ _ _ hk C2 H (tape/(Region.ready .any ops A).length) (A.setIfInBounds q.i true) R' (Z2 t q.o.dst u) bq T2 G2 ai b ds k cs;exact⟨a9,bh,bg,az,b1,b2,a2.trans b3,a3.trans b4,b5,a5.trans (Ys a3 b6)⟩
theorem Zh3 (J:T.Of (p ())) (hK:∀s h c,K s h c->ZT c) {s:List AV} {h:List Zh} {c:Cd} (hW:Zl5 T p ops s h c K) (tape:Nat):ZT c/\ZbD (p ()) R₀ h₀ ops (Region.linearise .any ops tape) s h fun s h=>∃c,K s h c:=by
 unfold Zl5 at hW;have V:∀q∈Zss ops,ops[q.i]? =some q.o/\q.m=Zg3 q.o/\q.fl=Xk q.o.op:=fun q hp=>by
  obtain⟨S,U,h3,_⟩:=Zb1 (ops:=ops) (fun _=>True) (fun _ _ _ _ _ _=>trivial) ops.toList 0 [] (fun m hm=>by simp) rfl (fun j hj x hx=>by simp[ZaW]at hx) q hp;exact⟨S,U,h3⟩
 obtain⟨S,U⟩:=Z1 (ZdV J V hK _ _ _ _ _ hW);have Y:=ZbJ.of (U _ (aN.2 rfl));refine⟨S,fun R t A Z b ds k cs=>?_⟩;have G:∀j,¬(dJ ops.size false).getD j false=true:=fun j=>by
  rw[aI,Array.getElem?_replicate];split<;>simp
 have I:∀(i:Nat) {p:Prop},YP 0 i=true->p:=fun i p A=>(by rw[ZaW]at A;cases A);have C:CnS ops s s 0:=⟨fun i o _ A=>I i A,fun _ _=>rfl,fun i A=>I i A,rfl⟩;have C0:Ct R₀ h₀ ops s s h 0 (fun i=>(dJ ops.size false).getD i false=true) R t:=⟨A,Z.1,fun i A=>absurd A (G i),fun i _ _ _ A=>I i A,fun i o _ A=>absurd A (G i),fun i o d _ _ A=>absurd A (G i),fun d _=>Z.getD d⟩;have H:Zlv ops (dJ ops.size false)<=ops.size:=by
  have:=List.countP_le_length (p:=fun i=> !(dJ ops.size false).getD i true) (l:=aR ops.size);rw[List.length_range]at this;exact this
 exact ZwU J Y rfl hK _ _ _ _ _ hW C ops.size tape (dJ ops.size false) R t (by simp) C0 (fun i o _ _ A=>I i A) H b ds k cs
end
end Vm
namespace Vm
open Go Conc1
abbrev FBr (rd:Bool):={b:FB//rd=false->b.roundOf=none}
def CI (P:Program) (rd:Bool) (R₀:RC) (h₀:List Zh) (pre:List Item) (K:Ex->List AV->List Zh->Prop) (s:List AV) (h:List Zh):Prop:=
 ∀(R:RC) (t:Array Value),Inv R₀ h₀ R h->SL R s t->∀(b:FBr rd) (H:List Deferred) (k:List Item) (cs:List Frame),Zd0 b.1.base R₀.w.heap.size R.w H->
  ∃e I J G S A,K e I J/\Inv R₀ h₀ G J/\SL G I S/\Zd0 b.1.base R₀.w.heap.size G.w A/\(b.1.roundOf≠none->A=H)/\Arr P R.cx (ZH (mkF b.1 t H (pre++k)) cs R.w) b.1 k cs S A G.w e
structure LP (rd:Bool) (p:Unit->Program) (c:Code) (Q:Ex->List AV->List Zh->Prop) (s:List AV) (h:List Zh):Prop where
 run:∀(R₀:RC) (h₀:List Zh),CI (p ()) rd R₀ h₀ [.code c,.inLoop c] (fun e s h=>e≠ .normal/\Q e s h) s h
structure CB (p:Unit->Program) (c:Code) (Q:Ex->List AV->List Zh->Prop) (s:List AV) (h:List Zh):Prop where
 run:∀(R₀:RC) (h₀:List Zh),CI (p ()) false R₀ h₀ [.code c] Q s h
structure XP (rd:Bool) (p:Unit->Program) (c:Code) (Q:Ex->List AV->List Zh->Prop) (s:List AV) (h:List Zh):Prop where
 run:∀(R₀:RC) (h₀:List Zh),CI (p ()) rd R₀ h₀ [.code c] Q s h
def ZgL:Nat->Code->Option Nat
 |0,_=>none
 |n+1,c=>(match c with
  |.region id _ _=>some id
  |.seq x _=>ZgL n x
  |.block _ x=>ZgL n x
  |.scope x=>ZgL n x
  |.loop x=>ZgL n x
  |_=>none)
def ZhT (T:Tb):List Item->Bool
 |.code y::_=>(match T.cuts with
  |[]=>false
  |l=>(match ZgL 6 y with
   |some id=>l.any (ZD id)
   |none=>false))
 |.inBlock _::k=>ZhT T k
 |.inScope _::k=>ZhT T k
 |_=>false
def rsv (h:List Zh) (a:AV):AV:=match a with
 |.gsl id n=>(match h[id]? with
  |some (.fro s m f)=>.gd (fun _=>decide (n ()=m ())) (.isl s m f .none)
  |_=>.gsl id n)
 |a=>a
def Zd7 (T:Tb) (h:List Zh) (s:List AV):List AV:=if T.rs then s.map (rsv h)else s
theorem SL.rsv {G:Nat->Nat->Nat->Prop} {R:RC} {h:List Zh} (H:HR G R h) {s:List AV} {t:Array Value} (A:SL R s t) (T:Tb):SL R (Zd7 T h s) t:=by
 unfold Zd7;split
 ·refine⟨by rw[List.length_map];exact A.1,fun i a J=>?_⟩;rw[List.getElem?_map,Option.map_eq_some_iff]at J;obtain⟨x,Z,rfl⟩:=J;have hv:=A.2 i x Z;generalize t.getD i undef=u at hv|-;unfold Vm.rsv;split
  ·split
   ·rename_i id n _ s m f U;cases hv with
    |pure _ _ V=>cases V
    |gsl _ _ a l c aa hn Y _=>
     refine .gd _ _ _ fun I=>?_;have I:=of_decide_eq_true I;obtain⟨S,h1⟩:=H.blk id _ U;rw[Y (by rw[I,S])];exact .pure _ _ h1
   exact hv
  exact hv
 exact A
structure HP (rd:Bool) (nb:Nat) (p:Unit->Program) (k:List Item) (K:Ex->List AV->List Zh->Cd->Prop) (s:List AV) (h:List Zh):Prop where
 run:(∀e s h c,K e s h c->ZT c)->∀(R₀:RC) (h₀:List Zh),R₀.n0<=nb->CI (p ()) rd R₀ h₀ k (fun e s h=>∃c,K e s h c) s h
def ZlA (T:Tb) (id:Nat):Bool:=match T.fl with
 |false=>false
 |true=>T.hand.any (ZD id)
def W (T:Tb) (p:Unit->Program) (K:Ex->List AV->List Zh->Cd->Prop):Nat->List Item->List AV->List Zh->Cd->Prop
 |0,_,_,_,_=>False
 |n+1,k,s,h,c=>(match k with
  |[]=>K .normal s h c
  |.inBlock _::k=>W T p K n k s h c
  |.inScope _::k=>W T p K n k s h c
  |.code x::k=>(match x with
   |.skip=>W T p K n k s h c
   |.label _=>W T p K n k s h c
   |.seq x y=>W T p K n (.code x:: .code y::k) s h c
   |.cond o x y=>if ZhT T k then chk c (XP T.rd p (.cond o x y) (fun e s h=>match e with
    |.normal=>W T p K n k s h []
    |.exit id=>(match exitTo id k with
     |some k=>W T p K n k s h []
     |none=>K (.exit id) s h [])
    |.ret=>K .ret s h []) s h)else(match strip (ev s o)with
    |.bool b=>chk (c++Zas (ev s o)) (Br b (fun _=>W T p K n (.code x::k) s h []) (fun _=>W T p K n (.code y::k) s h []))
    |_=>False)
   |.block id x=>if ZhT T k then chk c (XP T.rd p (.block id x) (fun e s h=>match e with
    |.normal=>W T p K n k s h []
    |.exit id=>(match exitTo id k with
     |some k=>W T p K n k s h []
     |none=>K (.exit id) s h [])
    |.ret=>K .ret s h []) s h)else W T p K n (.code x:: .inBlock id::k) s h c
   |.scope x=>W T p K n (.code x:: .inScope x::k) s h c
   |.loop x=>if T.fl&&T.lp then chk c (HP T.rd T.nb p (.code x:: .inLoop x::k) K s h)else chk c (LP T.rd p x (fun e s h=>match e with
    |.normal=>False
    |.exit id=>(match exitTo id k with
     |some k=>W T p K n k s h []
     |none=>K (.exit id) s h [])
    |.ret=>K .ret s h []) s h)
   |.exit id=>(match exitTo id k with
    |some k=>W T p K n k s h c
    |none=>K (.exit id) s h c)
   |.goto l=>(match gotoIn l k with
    |some k=>if T.fl then chk c (HP T.rd T.nb p k K s h)else False
    |none=>False)
   |.ret=>K .ret s h c
   |.region id ops d=>if ZlA T id then chk c (HP T.rd T.nb p (.code (.region id ops d)::k) K s h)else(match d with
    |false=>Zjc T p ops ops.toList s h c (fun s h c=>W T p K n k (Zd7 T h s) h c)
    |true=>Zl5 T p ops s h c (fun s h c=>W T p K n k (Zd7 T h s) h c))
   |.rangeFunc f ps a x=>if T.rd then False else chk c (CB p (.rangeFunc f ps a x) (fun e s h=>match e with
    |.normal=>W T p K n k s h []
    |.exit id=>(match exitTo id k with
     |some k=>W T p K n k s h []
     |none=>K (.exit id) s h [])
    |.ret=>K .ret s h []) s h)
   |_=>False)
  |.inLoop x::k=>if T.fl then chk c (HP T.rd T.nb p (.code x:: .inLoop x::k) K s h)else False
  |_=>False)
section
variable {P:Program} {rd:Bool} {R₀:RC} {h₀:List Zh}
theorem Zg0 {R R':RC} {h h':List Zh} {m:Cf} {b:FB} {k:List Item} {cs:List Frame} {t:Array Value} {ds:List Deferred} {w:World} {e:Ex} (hi:Inv R₀ h₀ R h) (A:Inv R₀ h₀ R' h') (s:Arr P R'.cx m b k cs t ds w e):Arr P R.cx m b k cs t ds w e:=by
 rw[hi.le.cx,<-A.le.cx];exact s
theorem CI.mono {pre:List Item} {K A:Ex->List AV->List Zh->Prop} {s:List AV} {h:List Zh} (H:CI P rd R₀ h₀ pre K s h) (J:∀e s h,K e s h->A e s h):CI P rd R₀ h₀ pre A s h:=
 fun R t S G b I k cs U=>let ⟨e,s',h',R',t',ds',a,r⟩:=H R t S G b I k cs U;⟨e,s',h',R',t',ds',J _ _ _ a,r⟩
theorem CI.here {pre:List Item} {K:Ex->List AV->List Zh->Prop} {s:List AV} {h:List Zh} (e:Ex) (I:K e s h) (G:∀ {cx:Option Nat} (b:FB) (t:Array Value) (A:List Deferred) (k:List Item) (cs:List Frame) (w:World),Arr P cx (ZH (mkF b t A (pre++k)) cs w) b k cs t A w e):CI P rd R₀ h₀ pre K s h:=
 fun R t J H b A k cs S=>⟨e,s,h,R,t,A,I,J,H,S,fun _=>rfl,G b t A k cs R.w⟩
theorem CI.step {pre pre':List Item} {K:Ex->List AV->List Zh->Prop} {s:List AV} {h:List Zh} (H:CI P rd R₀ h₀ pre' K s h) (G:∀ {cx:Option Nat} (b:FB) (t:Array Value) (A:List Deferred) (k:List Item) (cs:List Frame) (w:World),Steps P cx (ZH (mkF b t A (pre++k)) cs w) (ZH (mkF b t A (pre'++k)) cs w)):CI P rd R₀ h₀ pre K s h:=
 fun R t J I b A k cs S=>let ⟨e,s',h',R',t',ds',a1,a2,a5,a6,a7,a8⟩:=H R t J I b A k cs S;⟨e,s',h',R',t',ds',a1,a2,a5,a6,a7,Arr.of_steps (G b t A k cs R.w) a8⟩
theorem Inv.drawn {R:RC} {h:List Zh} (H:Inv R₀ h₀ R h) (n:Nat):Inv R₀ h₀ {R with w:={R.w with drawn:=n}} h/\Xd R h {R with w:={R.w with drawn:=n}} h/\R.le {R with w:={R.w with drawn:=n}}:=by
 have A:R.le {R with w:={R.w with drawn:=n}}:=⟨aJ _,fun _ _=>rfl,fun _ _=>⟨Int.le_refl _,fun _=>rfl⟩,fun _ _=>.refl _,fun _ _ _ h=>h,fun _ _ _ _ _ _=>rfl,fun _ _ _ _ h=>h,rfl⟩;have I:Xd R h {R with w:={R.w with drawn:=n}} h:=⟨rfl,rfl,rfl,rfl,aJ _,aJ _,fun _ _=>rfl,fun _ _ _ k=>k,fun _ _ _ _ _ _=>rfl,fun _ _ _=>rfl,fun id blk b G J=>.inr ⟨id,blk,G,J,.inl rfl⟩⟩;exact⟨H.step ⟨H.hr.len,H.hr.okd,fun id blk G=>(H.hr.blk id blk G).mono A rfl rfl rfl rfl (fun _ _=>rfl),H.hr.dis,H.hr.cl,H.hr.fresh,H.hr.tokG,H.hr.n0m⟩ I A,I,A⟩
theorem CI.region {id:Nat} {ops:Array Oper} {s:List AV} {h:List Zh} {K:List AV->List Zh->Prop} {G:Ex->List AV->List Zh->Prop} (H:ZbD P R₀ h₀ ops (aR ops.size) s h K) (V:∀s h,K s h->G .normal s h):CI P rd R₀ h₀ [.code (.region id ops false)] G s h:=
 fun R t I J b A k cs hd=>by
  obtain⟨Y,h',S,t',a1,U,Z,a4,a5,a6⟩:=H R t I J b.1 A k cs;exact⟨.normal,Y,h',S,t',A,V _ _ a1,U,a5,hd.ext I.hr Z,fun _=>rfl,.head Zct a6⟩
theorem CI.regionD (hm:P.follows .mixedOrders=true) {id:Nat} {ops:Array Oper} {s:List AV} {h:List Zh} {K:List AV->List Zh->Prop} {I:Ex->List AV->List Zh->Prop} (H:∀tape,ZbD P R₀ h₀ ops (Region.linearise .any ops tape) s h K) (Z:∀s h,K s h->I .normal s h):
  CI P rd R₀ h₀ [.code (.region id ops true)] I s h:=
 fun R t S Y b J k cs hd=>by
  obtain⟨A,hx,G⟩:=S.drawn (R.w.drawn+1);obtain⟨s',h',R',U,a1,a2,a3,a4,a5,V⟩:=H (R.w.tape R.w.drawn (.order b.1.fn id)) _ t A (Y.mono G) b.1 J k cs;refine⟨.normal,s',h',R',U,J,Z _ _ a1,a2,a5,(hd.ext S.hr hx).ext A.hr a3,fun _=>rfl,.head ZkX ?_⟩;simp only[Region.schedule,hm,Bool.true_or,if_true];exact V
theorem Jl {id:Nat}:∀ {a b:List Item},exitTo id (a++b)=match exitTo id a with
  |some k=>some (k++b)
  |none=>exitTo id b
 |[],b=>rfl
 |x::a,b=>by
  cases x with
  |inBlock i=>
   simp only[im,exitTo];split
   ·rfl
   exact Jl
  |_=>exact Jl (a:=a)
theorem CI.rsv {T:Tb} {k:List Item} {K:Ex->List AV->List Zh->Prop} {s:List AV} {h:List Zh} (H:CI P rd R₀ h₀ k K (Zd7 T h s) h):CI P rd R₀ h₀ k K s h:=
 fun R t A G=>H R t A (G.rsv A.hr T)
theorem CI.then {x:Item} {k:List Item} {A:List AV->List Zh->Prop} {K:Ex->List AV->List Zh->Prop} {s:List AV} {h:List Zh} (H:CI P rd R₀ h₀ [x] (fun e s h=>e= .normal/\A s h) s h) (hn:∀s h,A s h->CI P rd R₀ h₀ k K s h):CI P rd R₀ h₀ (x::k) K s h:=by
 intro R t U hs b ds V cs hd;obtain⟨e,s',h',R',t',aa,⟨rfl,a1⟩,S,a5,a6,a7,a8⟩:=H R t U hs b ds (k++V) cs hd;obtain⟨e,Z,J,I,Y,G,b1,b2,b5,b6,b7,b8⟩:=hn s' h' a1 R' t' S a5 b aa V cs a6;exact⟨e,Z,J,I,Y,G,b1,b2,b5,b6,fun hr=>(b7 hr).trans (a7 hr),Arr.of_steps a8 (Zg0 U S b8)⟩
theorem CI.out {pre:List Item} {k:List Item} {Q K:Ex->List AV->List Zh->Prop} {s:List AV} {h:List Zh} (H:CI P rd R₀ h₀ pre Q s h) (hn:∀s h,Q .normal s h->CI P rd R₀ h₀ k K s h)
  (hx:∀id s h,Q (.exit id) s h->match exitTo id k with
   |some k=>CI P rd R₀ h₀ k K s h
   |none=>K (.exit id) s h) (hr:∀s h,Q .ret s h->K .ret s h):CI P rd R₀ h₀ (pre++k) K s h:=by
 intro R t hi hs b ds k' cs hd;obtain⟨e,s',h',R',Y,G,a1,I,a5,Z,a7,a8⟩:=H R t hi hs b ds (k++k') cs hd;rw[<-dT]at a8;cases e with
 |normal=>
  obtain⟨e,V,S,J,U,A,b1,b2,b5,b6,b7,b8⟩:=hn s' h' a1 R' Y I a5 b G k' cs Z;exact⟨e,V,S,J,U,A,b1,b2,b5,b6,fun hr=>(b7 hr).trans (a7 hr),Arr.of_steps a8 (Zg0 hi I b8)⟩
 |ret=>exact⟨.ret,s',h',R',Y,G,hr _ _ a1,I,a5,Z,a7,a8⟩
 |exit id=>
  have hh:=hx id s' h' a1;obtain⟨q,q1,q2⟩:=a8;cases he:exitTo id k with
  |none=>
   rw[he]at hh;exact⟨.exit id,s',h',R',Y,G,hh,I,a5,Z,a7,q++k,fun aa=>by rw[dT,q1,Jl,he],by rw[dT q];exact q2⟩
  |some k2=>
   rw[he]at hh;obtain⟨e,V,S,J,U,A,b1,b2,b5,b6,b7,b8⟩:=hh R' Y I a5 b G k' cs Z;refine⟨e,V,S,J,U,A,b1,b2,b5,b6,fun hr=>(b7 hr).trans (a7 hr),Arr.of_steps (Steps.trans q2 (.one (Zmg ?_))) (Zg0 hi I b8)⟩;rw[q1,Jl,he]
theorem Zaz {l:Nat}:∀ {a b k:List Item},gotoIn l a=some k->gotoIn l (a++b)=some (k++b)
 |[],_,_,h=>by cases h
 |x::a,b,k,h=>by
  cases x with
  |inScope G=>
   simp only[gotoIn,im]at h|-;split at h
   ·rename_i A hr;cases h;simp
   rename_i hr;exact Zaz h
  |_=>exact Zaz (a:=a) h
theorem Zl6 {T:Tb} {p:Unit->Program} (hT:T.Of (p ())) (hm:(p ()).follows .mixedOrders=true) (aa:T.fl=true->R₀.n0<=T.nb) {K:Ex->List AV->List Zh->Cd->Prop} (Y:∀e s h c,K e s h c->ZT c):∀(n:Nat) (k:List Item) (s:List AV) (h:List Zh) (c:Cd),W T p K n k s h c->
  ZT c/\CI (p ()) T.rd R₀ h₀ k (fun e s h=>∃c,K e s h c) s h:=by
 intro n;induction n with
 |zero=>intro k s h c hW;simp only[W]at hW
 |succ n I=>
  intro k s h c hW
  have S:∀(id:Nat) (k:List Item) (s:List AV) (h:List Zh) (c:Cd),(match exitTo id k with
    |some k=>W T p K n k s h c
    |none=>K (.exit id) s h c)->(match exitTo id k with
    |some k=>CI (p ()) T.rd R₀ h₀ k (fun e s h=>∃c,K e s h c) s h
    |none=>∃c,K (.exit id) s h c)/\ZT c:=fun id k s h c V=>by
   cases he:exitTo id k with
   |none=>rw[he]at V;exact⟨⟨_,V⟩,Y _ _ _ _ V⟩
   |some k=>rw[he]at V;exact⟨(I _ _ _ _ V).2,(I _ _ _ _ V).1⟩
  unfold W at hW;split at hW
  ·exact⟨Y _ _ _ _ hW,CI.here .normal ⟨_,hW⟩ fun _ _ _ _ _ _=>.refl _⟩
  ·obtain⟨G,A⟩:=I _ _ _ _ hW;exact⟨G,CI.step A fun _ _ _ _ _ _=>.one Zk0⟩
  ·obtain⟨G,A⟩:=I _ _ _ _ hW;exact⟨G,CI.step A fun _ _ _ _ _ _=>.one ZkZ⟩
  ·split at hW
   ·obtain⟨G,A⟩:=I _ _ _ _ hW;exact⟨G,CI.step A fun _ _ _ _ _ _=>.one Zsf⟩
   ·obtain⟨G,A⟩:=I _ _ _ _ hW;exact⟨G,CI.step A fun _ _ _ _ _ _=>.one ZpP⟩
   ·obtain⟨G,A⟩:=I _ _ _ _ hW;exact⟨G,CI.step A fun _ _ _ _ _ _=>.one Zih⟩
   ·rename_i k _ o x y;split at hW
    ·obtain⟨G,A⟩:=Z5 hW;exact⟨G,CI.out (pre:=[.code (.cond o x y)]) (A.run R₀ h₀) (fun s h H=>(I _ _ _ _ H).2) (fun id s h H=>(S _ _ _ _ _ H).1) (fun s h H=>⟨_,H⟩)⟩
    split at hW;case h_2=>exact hW.elim
    rename_i v hv;obtain⟨G,A⟩:=Z5 hW;obtain⟨h3,h4⟩:=Z1 G;refine⟨h3,fun R t hi hs b ds k' cs hd=>?_⟩;have hb:=(hs.ev o).strip h4;rw[hv]at hb;have hb:=hb.bool_inv;have Z:Steps (p ()) R.cx (ZH (mkF b t ds (.code (.cond o x y)::k++k')) cs R.w) (ZH (mkF b t ds (.code (if v ()then x else y)::k++k')) cs R.w):=.one (Zmh (by rw[Zcz];exact hb));cases hvv:v ()with
    |true=>
     obtain⟨e,s',h',R',t',ac,a1,a2,a5,a6,a7,a8⟩:=(I _ _ _ _ (A.t hvv)).2 R t hi hs b ds k' cs hd;rw[hvv]at Z;exact⟨e,s',h',R',t',ac,a1,a2,a5,a6,a7,Arr.of_steps Z a8⟩
    |false=>
     obtain⟨e,s',h',R',t',ac,a1,a2,a5,a6,a7,a8⟩:=(I _ _ _ _ (A.f hvv)).2 R t hi hs b ds k' cs hd;rw[hvv]at Z;exact⟨e,s',h',R',t',ac,a1,a2,a5,a6,a7,Arr.of_steps Z a8⟩
   ·rename_i k _ id x;split at hW
    ·obtain⟨G,A⟩:=Z5 hW;exact⟨G,CI.out (pre:=[.code (.block id x)]) (A.run R₀ h₀) (fun s h H=>(I _ _ _ _ H).2) (fun id s h H=>(S _ _ _ _ _ H).1) (fun s h H=>⟨_,H⟩)⟩
    obtain⟨G,A⟩:=I _ _ _ _ hW;exact⟨G,CI.step A fun _ _ _ _ _ _=>.one ZpR⟩
   ·obtain⟨G,A⟩:=I _ _ _ _ hW;exact⟨G,CI.step A fun _ _ _ _ _ _=>.one ZpM⟩
   ·rename_i k _ x;split at hW
    ·rename_i J;simp only[aT]at J;obtain⟨G,A⟩:=Z5 hW;exact⟨G,CI.step (pre':=.code x:: .inLoop x::k) (A.run Y R₀ h₀ (aa J.1)) fun _ _ _ _ _ _=>.one Zmf⟩
    obtain⟨G,A⟩:=Z5 hW;refine⟨G,CI.step (pre':=[.code x,.inLoop x]++k) (CI.out (A.run R₀ h₀) (fun s h H=>absurd rfl H.1) (fun id s h H=>(S _ _ _ _ _ H.2).1) (fun s h H=>⟨_,H.2⟩)) fun _ _ _ _ _ _=>.one Zmf⟩
   ·rename_i k _ id;have V:=S _ _ _ _ _ hW;refine⟨V.2,CI.out (pre:=[.code (.exit id)]) (Q:=fun e s' h'=>e= .exit id/\s'=s/\h'=h) (CI.here (.exit id) ⟨rfl,rfl,rfl⟩ fun _ _ _ _ _ _=>⟨[],fun _=>rfl,.refl _⟩) (fun s h H=>by cases H.1) (fun ae s' h' H=>?_) (fun s h H=>by cases H.1)⟩;obtain⟨e,rfl,rfl⟩:=H;cases e;exact V.1
   ·split at hW;case h_2=>exact hW.elim
    rename_i k2 hg;split at hW;case isFalse=>exact hW.elim
    rename_i J;obtain⟨G,A⟩:=Z5 hW;exact⟨G,CI.step (A.run Y R₀ h₀ (aa J)) fun _ _ _ _ _ _=>.one (Zsg (Zaz hg))⟩
   ·exact⟨Y _ _ _ _ hW,CI.here .ret ⟨_,hW⟩ fun _ _ _ k _ _=>⟨_,.refl _⟩⟩
   ·split at hW
    ·rename_i J;have J:T.fl=true:=by
      unfold ZlA at J;split at J
      ·cases J
      rename_i h;exact h
     obtain⟨G,A⟩:=Z5 hW;exact⟨G,A.run Y R₀ h₀ (aa J)⟩
    split at hW;case h_2=>
     exact⟨(Zh3 hT (R₀:=R₀) (h₀:=h₀) (fun s h c U=>(I _ _ _ _ U).1) hW 0).1,CI.then (CI.regionD hm (fun tape=>(Zh3 hT (R₀:=R₀) (h₀:=h₀) (fun s h c U=>(I _ _ _ _ U).1) hW tape).2) fun s h U=>⟨rfl,U⟩) fun s h ⟨c,U⟩=>CI.rsv (I _ _ _ _ U).2⟩
    obtain⟨G,A⟩:=Zl4 hT (R₀:=R₀) (h₀:=h₀) (fun s h c U=>(I _ _ _ _ U).1) hW;exact⟨G,CI.then (CI.region A fun s h U=>⟨rfl,U⟩) fun s h ⟨c,U⟩=>CI.rsv (I _ _ _ _ U).2⟩
   ·rename_i k _ f ps a x;split at hW
    ·exact hW.elim
    rename_i ab;have ab:T.rd=false:=by simpa using ab
    obtain⟨G,A⟩:=Z5 hW;have A:=A.run R₀ h₀;rw[<-ab]at A;exact⟨G,CI.out (pre:=[.code (.rangeFunc f ps a x)]) A (fun s h H=>(I _ _ _ _ H).2) (fun id s h H=>(S _ _ _ _ _ H).1) (fun s h H=>⟨_,H⟩)⟩
   exact hW.elim
  ·split at hW;case isFalse=>exact hW.elim
   rename_i J;obtain⟨G,A⟩:=Z5 hW;exact⟨G,CI.step (A.run Y R₀ h₀ (aa J)) fun _ _ _ _ _ _=>.one Zhv⟩
  exact hW.elim
theorem HP.ofW {T:Tb} {p:Unit->Program} (hT:T.Of (p ())) (hm:(p ()).follows .mixedOrders=true) {K:Ex->List AV->List Zh->Cd->Prop} {n:Nat} {k:List Item} {s:List AV} {h:List Zh} (hW:W T p K n k s h []):HP T.rd T.nb p k K s h:=
 ⟨fun G I H A=>(Zl6 hT hm (fun _=>A) G n k s h [] hW).2⟩
theorem XP.mono {rd:Bool} {p:Unit->Program} {x:Code} {Q Q':Ex->List AV->List Zh->Prop} {s:List AV} {h:List Zh} (H:XP rd p x Q s h) (I:∀e s h,Q e s h->Q' e s h):XP rd p x Q' s h:=⟨fun A G=>(H.run A G).mono I⟩
theorem LP.mono {rd:Bool} {p:Unit->Program} {x:Code} {Q Q':Ex->List AV->List Zh->Prop} {s:List AV} {h:List Zh} (H:LP rd p x Q s h) (I:∀e s h,Q e s h->Q' e s h):LP rd p x Q' s h:=⟨fun A G=>(H.run A G).mono fun e s h ⟨S,J⟩=>⟨S,I _ _ _ J⟩⟩
end
end Vm
end Go.Proofs.YtjgpiclllehgmaaGreat
