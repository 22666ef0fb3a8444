/- The abstract machine: ranges over functions, frames, lists as slices, in-place calls, runs at given values. -/
import Derived.RangeFuncIn
import Derived.RangeFuncRecord
import Derived.Test.YtjgpiclllehgmaaGreatMD
set_option linter.unusedSimpArgs false
set_option linter.unusedVariables false
namespace Go.Proofs.YtjgpiclllehgmaaGreat.Vm
open Go Go.Proofs.YtjgpiclllehgmaaGreat.Conc1
def Zd0:List Tmp→List AV→List AV→List AV
 |t::ps,v::vs,s=>Zd0 ps vs (s.set t v)
 |_,_,s=>s
def ZiV (n id:Nat) (j:Option Code) (Post:AV→List Zi→Prop) (h:List Zi):Prop:=match h[id]? with
 |some (.loop s d)=>Post (.bool fun _=>j.isNone) (sel true (List.range n) (h.set id (.loop s {d with st:=if j.isNone then .ready else .done,pe:=j})))
 |_=>False
def Zqy (n id:Nat) (Post:AV→List Zi→Prop) (e:Ex) (_:List AV) (h:List Zi) (c:Cd):Prop:=match e with
 |.normal=>chk c (ZiV n id none Post h)
 |.exit i=>chk c (ZiV n id (some (.exit i)) Post h)
 |.ret=>chk c (ZiV n id (some .ret) Post h)
def ZsM (D:List AV→List Zi→Prop) (id:Nat) (e:Ex) (s:List AV) (h:List Zi) (c:Cd):Prop:=match e with
 |.normal=>chk c (match h[id]? with
  |some (.loop s' d)=>(match d.st with
   |.ready=>D s (h.set id (.loop s' {d with st:=.busy}))
   |_=>False)
  |_=>False)
 |_=>False
section
variable {T:Tb} {p:Unit→Program} {P:Program}
theorem Zin {R:RC}:∀(ps:List Tmp) (xs:List AV) (us:List Value) {s:List AV} {t:Array Value},xs.length=us.length→(∀j c,xs[j]? =some c→VR R c (us.getD j undef))→SL R s t→SL R (Zd0 ps xs s) ((ps.zip us).foldl (fun t (a,v)=>t.setIfInBounds a v) t)
 |[],xs,us,s,t,_,_,hs=>by simpa [Zd0]using hs
 |_::_,[],us,s,t,hl,_,hs=>by
  have:us=[]:=List.eq_nil_of_length_eq_zero (by simpa using hl.symm)
  subst this
  simpa [Zd0]using hs
 |a::ps,x::xs,[],s,t,hl,_,hs=>by simp at hl
 |a::ps,x::xs,u::us,s,t,hl,hx,hs=>by
  simp only[List.zip_cons_cons,List.foldl_cons,Zd0]
  exact Zin ps xs us (by simpa using hl) (fun j c hj=>by simpa using hx (j+1) c (by simpa using hj)) (hs.set (by simpa using hx 0 x rfl) a)
theorem HR.loopSet {G:Nat→Nat→Nat→Prop} {R:RC} {h:List Zi} (H:HR G R h) {id:Nat} {s:List AV} {d:Zg0} (hi:h[id]? =some (.loop s d)):
  ∃l,R.w.heap[(R.α id).b]? =some (.loop l)∧l.params=d.ps∧l.assign=d.a∧l.body=d.x∧l.state=d.st∧l.pending=d.pe∧SL R s l.tmps∧∀(st:LoopState) (pe:Option Code),
   ∃R',R'.w=R.w.putObj (R.α id).b (.loop {l with state:=st,pending:=pe})∧R'.α=R.α∧HR G R' (h.set id (.loop s {d with st,pe}))∧Xf R h R' (h.set id (.loop s {d with st,pe}))∧R.le R':=by
 obtain⟨l,h1,h2,h3,h4,h5,h6,h7⟩:=H.blk id _ hi
 refine⟨l,h1,h2,h3,h4,h5,h6,h7,fun st pe=>?_⟩
 have hlt:(R.α id).b<R.w.heap.size:=(Array.getElem?_eq_some_iff.1 h1).1
 obtain⟨R',a1,a2,a3,a4,a5,a6⟩:=H.upd hi rfl (blk':=.loop s {d with st,pe}) rfl (R.w.putObj (R.α id).b (.loop {l with state:=st,pending:=pe})) rfl rfl rfl World.putObj_size (fun b hb=>World.putObj_heap_other hb)
  (fun R' hle hα hw=>⟨{l with state:=st,pending:=pe},by rw[hα,hw];exact World.putObj_heap_same hlt,h2,h3,h4,rfl,rfl,h7.mono hle⟩)
 exact⟨R',a1,a3,a4,a5,a6⟩
theorem YC.ofN {p:Unit→Program} {id:Nat} {xs:List AV} {h:List Zi} {Post:AV→List Zi→Prop} (hz:zOk h=true)
  (H:∀(G:Nat→Nat→Nat→Prop) (R:RC) (vs:Array Value),HR G R h→R.n0=h.length→XZ R xs vs→∃f tmps a x,(Instr.yield (R.α id).b vs).run (p ()) R.w= .ok (.round (R.α id).b f tmps a x) R.w∧
   ∀(c:Frame) (cs:List Frame),∃v R' r h',Steps (p ()) R.cx (ZB (Frame.round (R.α id).b f tmps a x .normal) (c::cs) R.w) (ZB (c.finish v) cs R'.w)∧HR G R' h'∧Xf R h R' h'∧R.le R'∧VR R' r v∧Post r h'):YC p id xs h Post:=
 ⟨fun G R vs hr ha=>by
  have hz':True:=trivial
  have H₁:=hr.setN0 h.length (by rw[hr.len];exact Nat.le_refl _) hz'
  obtain⟨f,tmps,a,x,c1,c2⟩:=H G _ vs H₁ rfl ⟨ha.1,fun j c hj=>(ha.2 j c hj).mono (.setN0 R _)⟩
  refine⟨f,tmps,a,x,c1,fun c cs=>?_⟩
  obtain⟨v,R',r,h',b1,b3,b4,b5,b6,b7⟩:=c2 c cs
  have e0:R'.n0=h.length:=b4.n0
  have hle:R.n0≤h.length:=by rw[hr.len];exact hr.n0m
  refine⟨v,{R' with n0:=R.n0},r,h',b1,b3.setN0 R.n0 (Nat.le_trans hle (e0▸b3.n0m)) trivial,⟨rfl,b4.os,b4.tape,b4.output,b4.size,b4.m,b4.α,b4.ok,b4.keep,b4.frame,fun id x b hi hp=>?_⟩,⟨b5.m,b5.α,b5.tk,b5.fm,b5.ok,b5.keep,b5.keepM,b5.cx⟩,b6.mono (.setN0 R' _),b7⟩
  rcases b4.own id x b hi ((ZG.congr (R:=R') (R':={R' with n0:=R.n0}) rfl rfl).1 hp)with h1|⟨i,y,h1,h2,h3⟩
  ·exact .inl h1
  ·refine .inr ⟨i,y,h1,h2,.inl ?_⟩
   have:=(List.getElem?_eq_some_iff.1 h1).1
   rcases h3 with h3|h3
   ·exact h3
   ·have h3:h.length≤i:=h3
    omega⟩
def JM (Q:Ex→List AV→List Zi→Prop) (s:List AV) (m:Nat) (h:List Zi):Prop:=match h[m]? with
 |some (.loop s' d)=>(match d.st with
  |.busy=>False
  |_=>(match d.pe with
   |none=>Q .normal s (sel true (List.range m) (h.set m (.loop s' {d with st:=.exhausted})))
   |some (.exit i)=>Q (.exit i) s (sel true (List.range m) (h.set m (.loop s' {d with st:=.exhausted})))
   |some .ret=>Q .ret s (sel true (List.range m) (h.set m (.loop s' {d with st:=.exhausted})))
   |_=>False))
 |_=>False
theorem CB.of {f:Operand} {ps:Array Tmp} {a x:Code} {Q:Ex→List AV→List Zi→Prop} {s:List AV} {h:List Zi} {fid:FuncId} {first cap:List AV} (hf:strip (ev s f)= .fn fid first cap) (hc:ZN (JQ (ev s f)))
  (H:SC p fid (first++[.yld h.length]++cap) (h++[.loop s ⟨ps,a,x,.ready,none⟩]) fun _ h'=>JM Q s h.length h'):CB p (.rangeFunc f ps a x) Q s h:=by
 refine⟨fun R₀ h₀ R t hi hs b ds k cs hd=>?_⟩
 have hro:b.1.roundOf=none:=b.2 rfl
 have hml:R.m=h.length:=hi.hr.len.symm
 obtain⟨R1,w1,m1,α1,_,_,H1,x1,l1,_⟩:=hi.hr.make (.deferred (some []))
 obtain⟨R2,w2,m2,α2,H2,x2,l2⟩:=H1.alloc (.loop s ⟨ps,a,x,.ready,none⟩) (.loop {state:=.ready,pending:=none,fn:=b.1.fn,tmps:=t,params:=ps,assign:=a,body:=x,defers:=R.w.heap.size})
  (fun R'=>⟨rfl,fun b hp=>hp.symm,fun b o n=>Iff.rfl⟩) (fun R' hle hα hh=>⟨_,by rw[hα];exact hh,rfl,rfl,rfl,rfl,rfl,(hs.mono l1).mono hle⟩)
 have hsz1:R1.w.heap.size=R.w.heap.size+1:=by rw[w1];simp
 have hα2:(R2.α h.length).b=R.w.heap.size+1:=by rw[←hml,←m1,α2,←hsz1]
 have henter:(Instr.enterLoop b.1.fn t ps a x b.1.roundOf).run (p ()) R.w= .ok (R.w.heap.size+1,[{target:=.collected R.w.heap.size,args:= #[]}]) R2.w:=by
  rw[hro,run_enterLoop_outer,w2,w1]
  rfl
 have hs2:SL R2 s t:=(hs.mono l1).mono l2
 have hfv:VR R2 (.fn fid first cap) (Qv t f):=by
  rw[←hf]
  exact(hs2.ev f).strip hc
 obtain⟨vs,hrun,hrow⟩:=Zik (P:=p ()) (o:={dst:=none,op:=.call (rangeCall f (R.w.heap.size+1)),type:=0,pos:= "",after:= #[],guard:=none}) (f:=f) rfl hfv
  (fun y hy=>⟨.undef,.undef _⟩) R2.w H.enter [.yld h.length] rfl (fun j c hj=>by
   cases j with
   |zero=>
    simp only[List.getElem?_cons_zero,Option.some.injEq]at hj
    subst hj
    have:VR R2 (.yld h.length) (.func (.yield (R2.α h.length).b) #[] #[]):=.yld _ (by rw[m2,m1,hml];omega)
    rw[hα2]at this
    simpa [Qv]using this
   |succ j=>simp at hj)
 have hmid:h₀.length≤h.length:=by rw[hi.len,←hml];exact hi.le.m
 have hmc:∀l K,Zt (p ()) K (do let d←resolve (Qv t) (rangeCall f l) 0;invoke d.target d.args):=fun l K=>by
  obtain⟨fn,c,e1,e2,e3⟩:=H.enter
  have hfe:∃us vs:Array Value,Qv t f= .func (.func fid) us vs:=by
   generalize Qv t f=u at hfv
   cases hfv with
   |pure _ _ hp=>cases hp
   |fn _ _ _ us vs _ _ _ _=>exact⟨us,vs,rfl⟩
  obtain⟨us,vs,hfe⟩:=hfe
  exact Zfi hfe e1 e2 e3
 have st1:=Zha (cx:=R.cx) (P:=p ()) (b:=b.1) (t:=t) (ds:=ds) (k:=k) (cs:=cs) (g:=f) (ps:=ps) (a:=a) (x:=x) hro henter hmc hrun
 obtain⟨v,R3,r,h3,hcome,H3,x3,l3,hv3,hpost⟩:=H.run _ R2 vs H2 hrow (mkF b.1 t ([{target:=.collected R.w.heap.size,args:= #[]}]++ds) (.inRangeFunc (R.w.heap.size+1)::k)::cs)
 have hcome:=hcome.call
 have hfin:(mkF b.1 t ([{target:=.collected R.w.heap.size,args:= #[]}]++ds) (.inRangeFunc (R.w.heap.size+1)::k)).finish v=mkF b.1 t ([{target:=.collected R.w.heap.size,args:= #[]}]++ds) (.endRangeFunc (R.w.heap.size+1)::k):=by
  simp[Frame.finish,mkF]
 rw[hfin]at hcome
 unfold JM at hpost
 split at hpost
 case h_2=>exact hpost.elim
 rename_i s' d' hi3
 obtain⟨q,q1,q2,q3,q4,q5,q6,q7,q8⟩:=H3.loopSet hi3
 obtain⟨R4,w4,α4,H4,x4,l4⟩:=q8 .exhausted d'.pe
 have hα3:(R3.α h.length).b=R.w.heap.size+1:=by rw[l3.α h.length (by rw[m2,m1,hml];omega)];exact hα2
 have hnb:d'.st≠ .busy:=fun e=>by rw[e]at hpost;exact hpost
 have hend:(Instr.endLoop (R.w.heap.size+1)).run (p ()) R3.w= .ok d'.pe R4.w:=by
  rw[w4,←hα3,←q6]
  exact run_endLoop q1 (by rw[q5];exact hnb)
 have st3:=Zek (cx:=R.cx) (P:=p ()) (b:=b.1) (t:=t) (ds:=[{target:=.collected R.w.heap.size,args:= #[]}]++ds) (k:=k) (cs:=cs) hend
 have i4:JG R₀ h₀ R4 (h3.set h.length (.loop s' {d' with st:=.exhausted})):=(((hi.step H1 x1 l1).step H2 x2 l2).step H3 x3 l3).step H4 x4 l4
 obtain⟨R5,w5,i5,x5,l5,_⟩:=i4.trim (((x1.trans x2).trans x3).trans x4) (((l1.trans l2).trans l3).trans l4) hml.symm hmid (by rw[←hml];exact hi.hr.n0m)
 have hsteps:Steps (p ()) R.cx (ZB (mkF b.1 t ds (.code (.rangeFunc f ps a x)::k)) cs R.w) (ZB (mkF b.1 t ([{target:=.collected R.w.heap.size,args:= #[]}]++ds) ((d'.pe.map Item.code).toList++k)) cs R5.w):=by
  rw[w5]
  exact .head st1 (Steps.trans (X3 (l1.trans l2) hcome) (.one st3))
 have hdef:Zc7 b.1.base R₀.w.heap.size R5.w ([{target:=.collected R.w.heap.size,args:= #[]}]++ds):=by
  rw[w5]
  refine Zc7.ext H3 x4 (Zc7.ext H2 x3 ?_)
  obtain⟨rs,rfl,hnd,hrs⟩:=hd
  refine⟨R.w.heap.size::rs,rfl,List.nodup_cons.2 ⟨fun hm=>?_,hnd⟩,fun r hr=>?_⟩
  ·have:=(Array.getElem?_eq_some_iff.1 (hrs _ hm).2).1
   omega
  ·have hpush:∀r,r<R.w.heap.size+1→R2.w.heap[r]? =(R.w.heap.push (.deferred (some [])))[r]? :=fun r hr=>by
    rw[w2,w1]
    show((R.w.heap.push _).push _)[r]? =_
    rw[Array.getElem?_push,if_neg (by simp;omega)]
   rcases List.mem_cons.1 hr with rfl|hr
   ·refine⟨hi.ext.size,?_⟩
    rw[hpush _ (by omega)]
    simp
   ·have h1:=hrs r hr
    have hlt:=(Array.getElem?_eq_some_iff.1 h1.2).1
    refine⟨h1.1,?_⟩
    rw[hpush _ (by omega),Array.getElem?_push,if_neg (by omega)]
    exact h1.2
 have out:∀e,Q e s (sel true (List.range h.length) (h3.set h.length (.loop s' {d' with st:=.exhausted})))→Arr (p ()) R.cx (ZB (mkF b.1 t ds ([.code (.rangeFunc f ps a x)]++k)) cs R.w) b.1 k cs t ([{target:=.collected R.w.heap.size,args:= #[]}]++ds) R5.w e→
   ∃e s' h' R' t' ds',Q e s' h'∧JG R₀ h₀ R' h'∧SL R' s' t'∧Zc7 b.1.base R₀.w.heap.size R'.w ds'∧(b.1.roundOf≠none→ds'=ds)∧Arr (p ()) R.cx (ZB (mkF b.1 t ds ([.code (.rangeFunc f ps a x)]++k)) cs R.w) b.1 k cs t' ds' R'.w e:=
  fun e hq hA=>⟨e,s,_,R5,t,_,hq,i5,hs.mono l5,hdef,fun hne=>absurd hro hne,hA⟩
 split at hpost
 ·exact hpost.elim
 ·split at hpost
  ·rename_i hpe
   rw[hpe]at hsteps
   exact out .normal hpost hsteps
  ·rename_i i hpe
   rw[hpe]at hsteps
   exact out (.exit i) hpost ⟨[],fun _=>rfl,hsteps⟩
  ·rename_i hpe
   rw[hpe]at hsteps
   exact out .ret hpost ⟨_,hsteps⟩
  ·exact hpost.elim
end
end Go.Proofs.YtjgpiclllehgmaaGreat.Vm
namespace Go.Proofs.YtjgpiclllehgmaaGreat.Vm
open Go Go.Proofs.YtjgpiclllehgmaaGreat.Conc1
def YK (l:List Nat) (m j:Nat):Nat:=match l[j]? with
 |some i=>i
 |none=>m+(j-l.length)
def ren (φ:Nat→Nat):Nat→AV→AV
 |0,_=>.undef
 |k+1,a=>(match a with
  |.ptr id off=>.ptr (φ id) off
  |.aptr id s e off=>.aptr (φ id) s e off
  |.msl id s lo m c=>.msl (φ id) s lo m c
  |.gsl id m=>.gsl (φ id) m
  |.gptr id s m e off=>.gptr (φ id) s m e off
  |.lit s cs=>.lit s (cs.map (ren φ k))
  |.map id=>.map (φ id)
  |.mit id=>.mit (φ id)
  |.yld id=>.yld (φ id)
  |.isl s m f (.own id)=>.isl s m f (.own (φ id))
  |.fn f xs bs=>.fn f (xs.map (ren φ k)) (bs.map (ren φ k))
  |.agg cs=>.agg (cs.map (ren φ k))
  |.tup cs=>.tup (cs.map (ren φ k))
  |.gd g v=>.gd g (ren φ k v)
  |a=>a)
def Q9 (φ:Nat→Nat):Zi→Zi
 |.cells cs=>.cells (cs.map (ren φ 5))
 |.loop s d=>.loop (s.map (ren φ 5)) d
 |b=>b
def ZbC (φ:Nat→Nat):List Nat→List Zi→List Zi→List Zi
 |i::r,b::s,h=>ZbC φ r s (h.set i (Q9 φ b))
 |[],s,h=>h++s.map (Q9 φ)
 |_::_,[],h=>h
def back (l:List Nat) (h h₂:List Zi):List Zi:=ZbC (YK l h.length) l h₂ h
theorem Zci {φ:Nat→Nat}:∀ {l:List Nat} {h₂ h:List Zi},l.length≤h₂.length→(ZbC φ l h₂ h).length=h.length+(h₂.length-l.length)
 |[],s,h,_=>by simp[ZbC]
 |i::r,[],h,hl=>by simp at hl
 |i::r,b::s,h,hl=>by
  simp only[ZbC]
  rw[Zci (by simpa using hl)]
  simp
theorem ZfP {φ:Nat→Nat}:∀ {l:List Nat} {h₂ h:List Zi} {id:Nat} {x:Zi},l.length≤h₂.length→l.Nodup→(∀i∈l,i<h.length)→(ZbC φ l h₂ h)[id]? =some x→
  (∃(j:Nat) (b:Zi),l[j]? =some id∧h₂[j]? =some b∧x=Q9 φ b)∨(id∉l∧id<h.length∧h[id]? =some x)∨(h.length≤id∧∃b,h₂[l.length+(id-h.length)]? =some b∧x=Q9 φ b)
 |[],s,h,id,x,_,_,_,hx=>by
  simp only[ZbC]at hx
  rw[List.getElem?_append]at hx
  split at hx
  ·rename_i hlt
   exact .inr (.inl ⟨by simp,hlt,hx⟩)
  ·rename_i hge
   rw[List.getElem?_map,Option.map_eq_some_iff]at hx
   obtain⟨b,hb,rfl⟩:=hx
   exact .inr (.inr ⟨by omega,b,by simpa using hb,rfl⟩)
 |i::r,[],h,id,x,hl,_,_,_=>by simp at hl
 |i::r,b::s,h,id,x,hl,hn,hlt,hx=>by
  simp only[ZbC]at hx
  rw[List.nodup_cons]at hn
  have hi:=hlt i (List.mem_cons_self ..)
  rcases ZfP (by simpa using hl) hn.2 (fun j hj=>by rw[List.length_set];exact hlt j (List.mem_cons_of_mem _ hj)) hx with⟨j,b',h1,h2,h3⟩|⟨h1,h2,h3⟩|⟨h1,b',h2,h3⟩
  ·exact .inl ⟨j+1,b',by simpa using h1,by simpa using h2,h3⟩
  ·rw[List.length_set]at h2
   rw[List.getElem?_set]at h3
   by_cases e:i=id
   ·subst e
    rw[if_pos rfl,if_pos hi]at h3
    simp only[Option.some.injEq]at h3
    exact .inl ⟨0,b,rfl,rfl,h3.symm⟩
   ·rw[if_neg e]at h3
    exact .inr (.inl ⟨fun hm=>by rcases List.mem_cons.1 hm with h|h;exact e h.symm;exact h1 h,h2,h3⟩)
  ·rw[List.length_set]at h1 h2
   refine .inr (.inr ⟨h1,b',?_,h3⟩)
   rw[List.length_cons,show r.length+1+(id-h.length)=r.length+(id-h.length)+1 from by omega]
   simpa using h2
theorem Zdg {R R':RC} {φ:Nat→Nat} {i j:Nat} (hα:R'.α j=R.α i) (hhv:R'.hv j=R.hv i) {blk:Zi} {b:Nat}:ZG R' j (Q9 φ blk) b↔ZG R i blk b:=by
 cases blk with
 |gob g=>cases g<;>simp only[Q9,ZG,hα]
 |_=>simp only[Q9,ZG,hα,hhv]
theorem Zks {R R':RC} {φ:Nat→Nat} {i j:Nat} (hα:R'.α j=R.α i) (hhv:R'.hv j=R.hv i) {blk:Zi} {b o m:Nat}:Qo R' j (Q9 φ blk) b o m↔Qo R i blk b o m:=by
 cases blk with
 |gob g=>cases g<;>simp only[Q9,Qo,ZG,hα]
 |_=>simp only[Q9,Qo,ZG,hα,hhv]
theorem ZmM {φ:Nat→Nat} {blk:Zi}:Zb5 (Q9 φ blk)=Zb5 blk:=by
 cases blk with
 |gob g=>cases g<;>rfl
 |_=>rfl
theorem Zsl {R R':RC} {φ:Nat→Nat} (hw:R'.w=R.w) (hφ:∀j,j<R.m→φ j<R'.m∧R'.α (φ j)=R.α j∧R'.hw (φ j)=R.hw j∧R'.hv (φ j)=R.hv j) (hok:∀b o n,R.ok b o n→R'.ok b o n):∀(k:Nat) {a:AV} {v:Value},VR R a v→VR R' (ren φ k a) v:=by
 have hpr:∀ {a:AV} {v:Value},PR R.w R.ok a v→PR R'.w R'.ok a v:=fun h=>h.mono hok (fun _ _ _ _ _ _=>by rw[hw]) (fun _ _ _ _ h=>by rw[hw];exact h)
 intro k
 induction k with
 |zero=>exact fun _=>.undef _
 |succ k ih=>
  intro a v hv
  cases hv with
  |pure _ _ hp=>
   cases hp with
   |isl0 s m f tk h0 ht=>cases tk with
    |own id=>cases ht
    |nn=>cases ht
    |_=>exact .pure _ _ (.isl0 _ _ _ _ h0 ht)
   |islE s m f tk a h0 ht=>cases tk with
    |own id=>exact absurd ht (fun h=>by cases h<;>contradiction)
    |nn=>exact absurd ht (fun h=>by cases h<;>contradiction)
    |_=>exact .pure _ _ (.islE _ _ _ _ a h0 ht)
   |isl s m f tk b o len cap us hn hc ht he hl h1 h2 h3=>cases tk with
    |own id=>exact absurd ht (fun h=>by cases h<;>contradiction)
    |nn=>exact absurd ht (fun h=>by cases h<;>contradiction)
    |_=>exact .pure _ _ (hpr (.isl _ _ _ _ b o len cap us hn hc ht he hl h1 h2 h3))
   |iptr cs off b o us h1 h2 h3=>exact .pure _ _ (hpr (.iptr cs off b o us h1 h2 h3))
   |bool b=>exact .pure _ _ (.bool b)
   |int k n=>exact .pure _ _ (.int k n)
   |str s=>exact .pure _ _ (.str s)
   |cch c=>exact .pure _ _ (.cch c)
   |imap ka n L b es clk h1 h2 h3=>exact .pure _ _ (hpr (.imap ka n L b es clk h1 h2 h3))
   |imap0 ka n L h=>exact .pure _ _ (.imap0 ka n L h)
   |nilptr=>exact .pure _ _ .nilptr
   |nilmap=>exact .pure _ _ .nilmap
   |nilfn=>exact .pure _ _ .nilfn
  |undef=>exact .undef _
  |ptr id off hid=>
   obtain⟨h1,h2,_,_⟩:=hφ id hid
   simp only[ren]
   rw[←h2]
   exact .ptr _ off h1
  |nn s m f _ hp hv=>exact .nn s m f v (hpr hp) hv
  |own s m f id _ hid hp hn he=>
   obtain⟨h1,_,h2,h3⟩:=hφ id hid
   exact .own s m f _ v h1 (hpr hp) (by rw[h2];exact hn) (by rw[h2,h3];exact he)
  |aptr id s e off i hid he=>
   obtain⟨h1,h2,_,_⟩:=hφ id hid
   simp only[ren]
   rw[←h2]
   exact .aptr _ s e off i h1 he
  |msl id s lo m c i len cap hid hlo hn hc hle=>
   obtain⟨h1,h2,_,_⟩:=hφ id hid
   simp only[ren]
   rw[←h2]
   exact .msl _ s lo m c i len cap h1 hlo hn hc hle
  |gsl id m a l c hid hn he hl=>
   obtain⟨h1,_,h2,h3⟩:=hφ id hid
   exact .gsl _ m a l c h1 (by rw[h2];exact hn) (by rw[h2,h3];exact he) hl
  |gptr id s m e off a hid hn he=>
   obtain⟨h1,_,h2,h3⟩:=hφ id hid
   exact .gptr _ s m e off a h1 (by rw[h2];exact hn) (by rw[h2,h3];exact he)
  |lit s cs b o us hs h1 h2 h3=>
   refine .lit s _ b o us (by rw[List.length_map];exact hs) (fun j c hj=>?_) (fun j c hj=>?_) (hok _ _ _ h3)
   ·rw[List.getElem?_map,Option.map_eq_some_iff]at hj
    obtain⟨c0,hc0,rfl⟩:=hj
    rw[hw]
    exact h1 j c0 hc0
   ·rw[List.getElem?_map,Option.map_eq_some_iff]at hj
    obtain⟨c0,hc0,rfl⟩:=hj
    exact ih (h2 j c0 hc0)
  |map id hid=>
   obtain⟨h1,h2,_,_⟩:=hφ id hid
   simp only[ren]
   rw[←h2]
   exact .map _ h1
  |mit id hid h0=>
   obtain⟨h1,h2,_,_⟩:=hφ id hid
   simp only[ren]
   rw[←h2]
   exact .mit _ h1 (by rw[h2];exact h0)
  |yld id hid=>
   obtain⟨h1,h2,_,_⟩:=hφ id hid
   simp only[ren]
   rw[←h2]
   exact .yld _ h1
  |fn f xs bs us vs ha hb h1 h2=>
   refine .fn f _ _ us vs (by simpa using ha) (by simpa using hb) (fun j c hj=>?_) (fun j c hj=>?_)
   ·rw[List.getElem?_map,Option.map_eq_some_iff]at hj
    obtain⟨x,hx,rfl⟩:=hj
    exact ih (h1 j x hx)
   ·rw[List.getElem?_map,Option.map_eq_some_iff]at hj
    obtain⟨x,hx,rfl⟩:=hj
    exact ih (h2 j x hx)
  |agg cs us ha h=>
   refine .agg _ us (by simpa using ha) (fun j c hj=>?_)
   rw[List.getElem?_map,Option.map_eq_some_iff]at hj
   obtain⟨x,hx,rfl⟩:=hj
   exact ih (h j x hx)
  |tup cs us ha h=>
   refine .tup _ us (by simpa using ha) (fun j c hj=>?_)
   rw[List.getElem?_map,Option.map_eq_some_iff]at hj
   obtain⟨x,hx,rfl⟩:=hj
   exact ih (h j x hx)
  |gd g a _ h=>exact .gd g _ _ fun hg=>ih (h hg)
  |ob g b _ h1 h2=>exact .ob g b _ h1 h2
def ZqT (R:RC) (h:List Zi) (l:List Nat):Nat→Nat→Nat→Prop:=fun b o n=>R.ok b o n∨R.w.heap.size≤b∨∃i blk,i∈l∧h[i]? =some blk∧Zb5 blk=true∧ZG R i blk b
theorem ZaU {R:RC} {id:Nat} {blk:Zi} {b o n:Nat} (h:¬ZG R id blk b):Qo R id blk b o n:=by
 cases blk with
 |tok s hw=>exact fun a len cap hv hl hb=>absurd ⟨a,len,cap,hv,hl,hb⟩ h
 |_=>exact h
theorem ZfA {G:Nat→Nat→Nat→Prop} {R R₂ R₂':RC} {h h₂':List Zi} {l:List Nat} (H:HR G R h) (hnd:l.Nodup) (hlt:∀i∈l,i<h.length)
  (hcx:R₂.cx=R.cx) (hn0:R₂.n0=l.length) (hw:R₂.w=R.w) (hm:R₂.m=l.length) (hα:∀j i,l[j]? =some i→R₂.α j=R.α i) (hhw:∀j i,l[j]? =some i→R₂.hw j=R.hw i) (hhv:∀j i,l[j]? =some i→R₂.hv j=R.hv i) (hok:∀b o n,R.ok b o n→R₂.ok b o n)
  (H':HR (ZqT R h l) R₂' h₂') (hx:Xf R₂ (sel false l h) R₂' h₂') (hle:R₂.le R₂'):
  ∃R',R'.w=R₂'.w∧HR G R' (back l h h₂')∧Xf R h R' (back l h h₂')∧R.le R'∧∀k a v,VR R₂' a v→VR R' (ren (YK l h.length) k a) v:=by
 have hml:l.length≤h₂'.length:=by rw[H'.len,←hm];exact hle.m
 have hlen:(back l h h₂').length=h.length+(h₂'.length-l.length):=Zci hml
 let α':Nat→Loc:=fun id=>if id<h.length then R.α id else R₂'.α (l.length+(id-h.length))
 let hw':Nat→Int:=fun id=>match Qk id l 0 with
  |some j=>R₂'.hw j
  |none=>if id<h.length then R.hw id else R₂'.hw (l.length+(id-h.length))
 let hv':Nat→Value:=fun id=>match Qk id l 0 with
  |some j=>R₂'.hv j
  |none=>if id<h.length then R.hv id else R₂'.hv (l.length+(id-h.length))
 let R':=Zlz R.cx G R.n0 R₂'.w (h.length+(h₂'.length-l.length)) α' hw' hv' (back l h h₂')
 have posI:∀ {j id:Nat},l[j]? =some id→Qk id l 0=some j:=fun {j id} hj=>by
  cases hp:Qk id l 0 with
  |none=>exact absurd (List.mem_of_getElem? hj) (YJ hp)
  |some j'=>
   obtain⟨_,h2⟩:=Jr hp
   rw[Nat.sub_zero]at h2
   have a1:=List.getElem?_eq_some_iff.1 hj
   have a2:=List.getElem?_eq_some_iff.1 h2
   congr 1
   exact(List.getElem_inj (h₀:=a2.1) (h₁:=a1.1) hnd).1 (by rw[a1.2,a2.2])
 have callee:∀j,j<h₂'.length→YK l h.length j<R'.m∧R'.α (YK l h.length j)=R₂'.α j∧R'.hw (YK l h.length j)=R₂'.hw j∧R'.hv (YK l h.length j)=R₂'.hv j:=fun j hj=>by
  unfold YK
  cases hlj:l[j]? with
  |some i=>
   have hi:=hlt i (List.mem_of_getElem? hlj)
   have hjm:j<R₂.m:=by rw[hm];exact(List.getElem?_eq_some_iff.1 hlj).1
   refine⟨by show i<h.length+_;omega,?_,?_,?_⟩
   ·show(if i<h.length then R.α i else _)=_
    rw[if_pos hi,hle.α j hjm,hα j i hlj]
   ·show(match Qk i l 0 with
     |some j=>R₂'.hw j
     |none=>_)=_
    rw[posI hlj]
   ·show(match Qk i l 0 with
     |some j=>R₂'.hv j
     |none=>_)=_
    rw[posI hlj]
  |none=>
   have hge:l.length≤j:=List.getElem?_eq_none_iff.1 hlj
   have hnp:Qk (h.length+(j-l.length)) l 0=none:=by
    cases hp:Qk (h.length+(j-l.length)) l 0 with
    |none=>rfl
    |some j'=>
     obtain⟨_,h2⟩:=Jr hp
     have:=hlt _ (List.mem_of_getElem? h2)
     omega
   have e:l.length+(h.length+(j-l.length)-h.length)=j:=by omega
   refine⟨by show h.length+(j-l.length)<h.length+(h₂'.length-l.length);omega,?_,?_,?_⟩
   ·show(if h.length+(j-l.length)<h.length then _ else R₂'.α (l.length+(h.length+(j-l.length)-h.length)))=_
    rw[if_neg (by omega),e]
   ·show(match Qk (h.length+(j-l.length)) l 0 with
     |some j=>R₂'.hw j
     |none=>if h.length+(j-l.length)<h.length then _ else R₂'.hw (l.length+(h.length+(j-l.length)-h.length)))=_
    rw[hnp]
    simp only[if_neg (show¬h.length+(j-l.length)<h.length by omega),e]
   ·show(match Qk (h.length+(j-l.length)) l 0 with
     |some j=>R₂'.hv j
     |none=>if h.length+(j-l.length)<h.length then _ else R₂'.hv (l.length+(h.length+(j-l.length)-h.length)))=_
    rw[hnp]
    simp only[if_neg (show¬h.length+(j-l.length)<h.length by omega),e]
 have other:∀id,id∉l→id<h.length→R'.α id=R.α id∧R'.hw id=R.hw id∧R'.hv id=R.hv id:=fun id hn hi=>by
  have hp:Qk id l 0=none:=by
   cases hp:Qk id l 0 with
   |none=>rfl
   |some j=>exact absurd (List.mem_of_getElem? (Jr hp).2) hn
  refine⟨if_pos hi,?_,?_⟩
  ·show(match Qk id l 0 with
    |some j=>R₂'.hw j
    |none=>if id<h.length then R.hw id else _)=_
   rw[hp]
   simp only[if_pos hi]
  ·show(match Qk id l 0 with
    |some j=>R₂'.hv j
    |none=>if id<h.length then R.hv id else _)=_
   rw[hp]
   simp only[if_pos hi]
 have hget:∀ {id x},(back l h h₂')[id]? =some x→(∃j b,id=YK l h.length j∧h₂'[j]? =some b∧x=Q9 (YK l h.length) b∧(j<l.length→l[j]? =some id)∧(l.length≤j→h.length≤id))∨(id∉l∧id<h.length∧h[id]? =some x):=fun {id x} hx=>by
  rcases ZfP hml hnd hlt hx with⟨j,b,h1,h2,h3⟩|h1|⟨h1,b,h2,h3⟩
  ·exact .inl ⟨j,b,by simp[YK,h1],h2,h3,fun _=>h1,fun hge=>by have:=(List.getElem?_eq_some_iff.1 h1).1;omega⟩
  ·exact .inr h1
  ·refine .inl ⟨_,b,?_,h2,h3,fun hlt'=>by omega,fun _=>h1⟩
   unfold YK
   rw[List.getElem?_eq_none (by omega)]
   show id=h.length+(l.length+(id-h.length)-l.length)
   omega
 have g2:∀b o n,ZqT R h l b o n→G b o n:=fun b o n k=>by
  rcases k with k|k|⟨i,blk,_,hi,hk,hp⟩
  ·exact((H.okd _ _ _).1 k).2.1
  ·exact H.fresh _ _ _ k
  ·exact H.tokG i blk b hi hk hp o n
 have hsz:R.w.heap.size≤R₂'.w.heap.size:=by rw[←hw];exact hx.size
 have hok':∀b o n,R₂'.ok b o n→R'.ok b o n:=fun b o n k=>by
  obtain⟨h1,h2,h3⟩:=(H'.okd _ _ _).1 k
  refine⟨h1,g2 _ _ _ h2,fun id x hx'=>?_⟩
  rcases hget hx' with⟨j,b',rfl,hj,rfl,_⟩|⟨hn,hi,hx'⟩
  ·obtain⟨_,c1,_,c2⟩:=callee j (List.getElem?_eq_some_iff.1 hj).1
   exact(Zks c1 c2).2 (h3 j b' hj)
  ·obtain⟨c1,_,c2⟩:=other id hn hi
   refine(Qo.congr (R:=R) c1 c2).2 ?_
   rcases h2 with k|k|⟨i,blk,hil,hi',hk,hp⟩
   ·exact((H.okd _ _ _).1 k).2.2 id x hx'
   ·exact ZaU fun hp=>by have:=H.phys_lt hx' hp;omega
   ·exact ZaU fun hp'=>H.dis i id blk x b (fun e=>hn (e▸hil)) hi' hx' hp hp'
 have hselP:∀ {j blk b},(sel false l h)[j]? =some blk→ZG R₂ j blk b→∃i y,l[j]? =some i∧h[i]? =some y∧ZG R i y b:=fun hj hp=>by
  obtain⟨i,y,hi,hy,rfl⟩:=ZbN hlt hj
  exact⟨i,y,hi,hy,(Zab (hα _ i hi) (hhv _ i hi)).1 hp⟩
 have hframe:∀id x b,id∉l→h[id]? =some x→ZG R id x b→R₂'.w.heap[b]? =R.w.heap[b]? :=fun id x b hn hx' hp=>by
  rw[hx.frame b (by rw[hw];exact H.phys_lt hx' hp) (fun j blk hj hp'=>?_),hw]
  obtain⟨i,y,hi,hy,hp'⟩:=hselP hj hp'
  exact H.dis i id y x b (fun e=>hn (e▸List.mem_of_getElem? hi)) hy hx' hp' hp
 have hle':R.le R':=by
  refine⟨by show R.m≤h.length+_;rw[H.len];omega,fun id hi=>if_pos (by rw[H.len];exact hi),fun id hi=>?_,fun id hi=>?_,fun b o n k=>hok' _ _ _ (hle.ok _ _ _ (hok _ _ _ k)),fun b o n k j hj=>by
   have:=hle.keep b o n (hok _ _ _ k) j hj
   rw[hw]at this
   exact this,(fun b k es clk e=>by
   rw[←hw]at e
   exact hle.keepM b (hok _ _ _ k) es clk e),rfl⟩
  by_cases hn:id∈l
  ·obtain⟨j,hj,rfl⟩:=List.getElem_of_mem hn
   have hlj:l[j]? =some l[j]:=List.getElem?_eq_getElem hj
   obtain⟨_,_,c1,c2⟩:=callee j (by omega)
   have e:YK l h.length j=l[j]:=by simp[YK,hlj]
   rw[e]at c1 c2
   obtain⟨t1,t2⟩:=hle.tk j (by omega)
   rw[hhw j _ hlj]at t1 t2
   rw[hhv j _ hlj]at t2
   exact⟨by rw[c1];exact t1,fun e=>by rw[c2];exact t2 (by rw[←c1];exact e)⟩
  ·obtain⟨_,c1,c2⟩:=other id hn (by rw[H.len];exact hi)
   rw[c1,c2]
   exact⟨Int.le_refl _,fun _=>rfl⟩
  by_cases hn:id∈l
  ·obtain⟨j,hj,rfl⟩:=List.getElem_of_mem hn
   have hlj:l[j]? =some l[j]:=List.getElem?_eq_getElem hj
   obtain⟨_,_,c1,c2⟩:=callee j (by omega)
   have e:YK l h.length j=l[j]:=by simp[YK,hlj]
   rw[e]at c1 c2
   have:=hle.fm j (by omega)
   rw[hhv j _ hlj]at this
   rw[c2]
   exact this
  ·obtain⟨_,c1,c2⟩:=other id hn (by rw[H.len];exact hi)
   rw[c2]
   exact .refl _
 have hren:∀k a v,VR R₂' a v→VR R' (ren (YK l h.length) k a) v:=fun k a v hv=>Zsl (R:=R₂') (R':=R') rfl (fun j hj=>callee j (by rw[H'.len];exact hj)) hok' k hv
 have hpr:∀ {a:AV} {v:Value},PR R₂'.w R₂'.ok a v→PR R'.w R'.ok a v:=fun h=>h.mono hok' (fun _ _ _ _ _ _=>rfl) (fun _ _ _ _ h=>h)
 have hown:∀ {j blk b},h₂'[j]? =some blk→ZG R₂' j blk b→R.w.heap.size≤b∨∃i y,l[j]? =some i∧h[i]? =some y∧ZG R i y b:=fun hj hp=>by
  rcases hx.own _ _ _ hj hp with h1|⟨i₁,blk₁,h1,h2,h3⟩
  ·rw[hw]at h1;exact .inl h1
  ·have hlt₁:=(List.getElem?_eq_some_iff.1 h1).1
   rw[show(sel false l h).length=l.length from Zaw]at hlt₁
   have:i₁=_:=h3.resolve_right (by omega)
   subst this
   exact .inr (hselP h1 h2)
 refine⟨R',rfl,⟨hlen,fun _ _ _=>Iff.rfl,fun id x hx'=>?_,fun i j bi bj b hij hi hj hp hp'=>?_,H.cl,fun b o n hb=>H.fresh b o n (Nat.le_trans hsz hb),fun id x b hx' hk hp o n=>?_,Nat.le_trans H.n0m hle'.m⟩,?_,hle',hren⟩
 ·rcases hget hx' with⟨j,b',rfl,hj,rfl,_⟩|⟨hn,hi,hx'⟩
  ·obtain⟨_,e1,e2,e3⟩:=callee j (List.getElem?_eq_some_iff.1 hj).1
   have hb:=H'.blk j b' hj
   cases b' with
   |cells cs=>
    obtain⟨arr,ty,h1,h2,h3⟩:=hb
    refine⟨arr,ty,by rw[e1];exact h1,by rw[List.length_map,e1];exact h2,fun k c hk=>?_⟩
    rw[List.getElem?_map,Option.map_eq_some_iff]at hk
    obtain⟨c0,hc0,rfl⟩:=hk
    rw[e1]
    exact hren 5 _ _ (h3 k c0 hc0)
   |arr s m f=>
    obtain⟨arr,ty,len,h1,h2,h3,h4⟩:=hb
    exact⟨arr,ty,len,by rw[e1];exact h1,h2,by rw[e1];exact h3,fun k hk=>⟨(h4 k hk).1,fun q c hq=>by rw[e1];exact hpr ((h4 k hk).2 q c hq)⟩⟩
   |tok s hw=>
    obtain⟨h1,h2⟩:=hb
    exact⟨e2.trans h1,by rw[e3];exact h2⟩
   |gar s m f=>
    obtain⟨h1,h2⟩:=hb
    refine⟨e2.trans h1,?_⟩
    rw[e3]
    rcases h2 with h2|⟨b,o,len,cap,arr,ty,g1,g2,g3,g4,g5,g6⟩
    ·exact .inl h2
    ·exact .inr ⟨b,o,len,cap,arr,ty,g1,g2,g3,g4,g5,fun k hk=>⟨(g6 k hk).1,fun q c hq=>hpr ((g6 k hk).2 q c hq)⟩⟩
   |fro s m f=>
    obtain⟨h1,h2⟩:=hb
    exact⟨e2.trans h1,by rw[e3];exact hpr h2⟩
   |mapB m=>
    obtain⟨es,c,h1,h2⟩:=hb
    exact⟨es,c,by rw[e1];exact h1,h2⟩
   |gob g=>
    obtain⟨o,h1,h2,h3⟩:=hb
    exact⟨o,by rw[e1];exact h1,h2,by rw[e1];exact h3.tr rfl hok' (hle.cx.trans hcx).symm⟩
   |main=>exact(hle.cx.trans hcx).symm.trans hb
   |loop s d=>
    obtain⟨q,h1,h2,h3,h4,h5,h6,h7,h8⟩:=hb
    refine⟨q,by rw[e1];exact h1,h2,h3,h4,h5,h6,by rw[List.length_map];exact h7,fun k c hk=>?_⟩
    rw[List.getElem?_map,Option.map_eq_some_iff]at hk
    obtain⟨c0,hc0,rfl⟩:=hk
    exact hren 5 _ _ (h8 k c0 hc0)
   |dead=>trivial
  ·obtain⟨c1,c2,c3⟩:=other id hn hi
   exact(H.blk id x hx').mono hle' rfl c1 c2 c3 (fun b hp=>hframe id x b hn hx' hp)
 ·have one:∀ {id x},(back l h h₂')[id]? =some x→ZG R' id x b→(∃j y,h₂'[j]? =some y∧ZG R₂' j y b∧id=YK l h.length j∧(j<l.length→l[j]? =some id)∧(l.length≤j→h.length≤id))∨(id∉l∧id<h.length∧h[id]? =some x∧ZG R id x b):=fun {id x} hx' hp=>by
   rcases hget hx' with⟨j,b',rfl,hj,rfl,hq⟩|⟨hn,hi,hx'⟩
   ·obtain⟨_,c1,_,c2⟩:=callee j (List.getElem?_eq_some_iff.1 hj).1
    exact .inl ⟨j,b',hj,(Zdg c1 c2).1 hp,rfl,hq⟩
   ·obtain⟨c1,_,c2⟩:=other id hn hi
    exact .inr ⟨hn,hi,hx',(ZG.congr (R:=R) c1 c2).1 hp⟩
  have mix:∀ {id:Nat} {x:Zi} {j:Nat} {y:Zi},id∉l→h[id]? =some x→ZG R id x b→h₂'[j]? =some y→ZG R₂' j y b→False:=fun {id x j y} hn hx' hp hj hp'=>by
   rcases hown hj hp' with h1|⟨i,z,h1,h2,h3⟩
   ·have:=H.phys_lt hx' hp
    omega
   ·exact H.dis i id z x b (fun e=>hn (e▸List.mem_of_getElem? h1)) h2 hx' h3 hp
  rcases one hi hp with⟨j1,y1,a1,a2,a3,a4⟩|⟨a1,a2,a3,a4⟩<;>rcases one hj hp' with⟨j2,y2,b1,b2,b3,b4⟩|⟨b1,b2,b3,b4⟩
  ·exact H'.dis j1 j2 y1 y2 b (fun e=>hij (by rw[a3,b3,e])) a1 b1 a2 b2
  ·exact mix b1 b3 b4 a1 a2
  ·exact mix a1 a3 a4 b1 b2
  ·exact H.dis i j bi bj b hij a3 b3 a4 b4
 ·rcases hget hx' with⟨j,b',rfl,hj,rfl,_⟩|⟨hn,hi,hx'⟩
  ·obtain⟨_,c1,_,c2⟩:=callee j (List.getElem?_eq_some_iff.1 hj).1
   rw[ZmM]at hk
   exact g2 _ _ _ (H'.tokG j b' b hj hk ((Zdg c1 c2).1 hp) o n)
  ·obtain⟨c1,_,c2⟩:=other id hn hi
   exact H.tokG id x b hx' hk ((ZG.congr (R:=R) c1 c2).1 hp) o n
 ·refine⟨rfl,by rw[←hw];exact hx.os,by rw[←hw];exact hx.tape,by rw[←hw];exact hx.output,hsz,hle'.m,hle'.α,hle'.ok,hle'.keep,fun b hb hn=>?_,fun id x b hx' hp=>?_⟩
  ·show R₂'.w.heap[b]? =_
   rw[hx.frame b (by rw[hw];exact hb) (fun j blk hj hp=>?_),hw]
   obtain⟨i,y,hi,hy,hp⟩:=hselP hj hp
   exact hn i y hy hp
  ·rcases hget hx' with⟨j,b',rfl,hj,rfl,hq⟩|⟨hn,hi,hx'⟩
   ·obtain⟨_,c1,_,c2⟩:=callee j (List.getElem?_eq_some_iff.1 hj).1
    rcases hown hj ((Zdg c1 c2).1 hp)with h1|⟨i,y,h1,h2,h3⟩
    ·exact .inl h1
    ·have e:YK l h.length j=i:=by simp[YK,h1]
     rw[e]
     exact .inr ⟨_,y,h2,h3,.inl rfl⟩
   ·obtain⟨c1,_,c2⟩:=other id hn hi
    exact .inr ⟨_,x,hx',(ZG.congr (R:=R) c1 c2).1 hp,.inl rfl⟩
theorem SC.frame {p:Unit→Program} {f:FuncId} {xs:List AV} {h:List Zi} {Post Q:AV→List Zi→Prop} (l:List Nat) (hnd:l.Nodup) (hlt:∀i∈l,i<h.length) (H:SC p f (xs.map (Qs false l h 5)) (sel false l h) Q)
  (hq:∀r h₂,Q r h₂→Post (ren (YK l h.length) 5 r) (back l h h₂)):SC p f xs h Post:=
 ⟨H.enter,fun G R vs hr ha cs=>by
  obtain⟨R₂,acx,a0,a1,a2,a3,a4,a5,a6,a7,a8⟩:=hr.sel (fz:=false) (ι:=l) (ZqT R h l) (fun b o n k=>.inl k) (fun b o n o' n' k h1 h2=>by
    rcases k with k|k|k
    ·exact .inl (hr.sub k h1 h2)
    ·exact .inr (.inl k)
    ·exact .inr (.inr k)) (fun b o n hb=>.inr (.inl hb)) (fun i blk b hi hb hk hp o n=>.inr (.inr ⟨i,blk,hi,hb,hk,hp⟩)) hnd hlt (fun hf=>by cases hf) l.length (Nat.le_refl _) (fun hf=>by cases hf)
  have hrow:XZ R₂ (xs.map (Qs false l h 5)) vs:=⟨by rw[List.length_map];exact ha.1,fun j c hj=>by
   rw[List.getElem?_map,Option.map_eq_some_iff]at hj
   obtain⟨x,hx,rfl⟩:=hj
   exact a8 5 x _ (ha.2 j x hx)⟩
  obtain⟨v,R',r,h',b1,b3,b4,b5,b6,b7⟩:=H.run _ R₂ vs a6 hrow cs
  rw[a1,acx]at b1
  obtain⟨R'',c1,c2,c3,c4,c5⟩:=ZfA hr hnd hlt acx a0 a1 a2 a3 a4 a5 a7 b3 b4 b5
  exact⟨v,R'',_,_,by rw[c1];exact b1,c2,c3,c4,c5 5 r v b6,hq r h' b7⟩⟩
theorem SC.less {p:Unit→Program} {f:FuncId} {xs:List AV} {h:List Zi} {Post:AV→List Zi→Prop} (H:SC p f xs h fun r h'=>∃r₂ h₂,To [r] h' [r₂] h₂∧Post r₂ h₂):SC p f xs h Post:=
 ⟨H.enter,fun G R vs hr ha cs=>by
  obtain⟨v,R',r,h',b1,b3,b4,b5,b6,r₂,h₂,hto,b7⟩:=H.run G R vs hr ha cs
  obtain⟨R'',c1,c2,c3,c4,c5⟩:=hto G R' #[v] b3 ⟨rfl,fun i a hi=>by
   cases i with
   |zero=>simp at hi;subst hi;exact b6
   |succ i=>simp at hi⟩
  exact⟨v,R'',r₂,h₂,by rw[c1];exact b1,c2,b4.trans c3,b5.trans c4,c5.2 0 r₂ rfl,b7⟩⟩
theorem SC.to {p:Unit→Program} {f:FuncId} {xs xs₂:List AV} {h h₂:List Zi} {Post:AV→List Zi→Prop} (hto:To xs h xs₂ h₂) (H:SC p f xs₂ h₂ Post):SC p f xs h Post:=
 ⟨H.enter,fun G R vs hr ha cs=>by
  obtain⟨R',a1,a2,a3,a4,a5⟩:=hto G R vs hr ⟨ha.1.symm,ha.2⟩
  obtain⟨v,R'',r,h',b1,b3,b4,b5,b6,b7⟩:=H.run G R' vs a2 ⟨a5.1.symm,a5.2⟩ cs
  rw[a1]at b1
  exact⟨v,R'',r,h',ZoH a4 b1,b3,a3.trans b4,a4.trans b5,b6,b7⟩⟩
section
variable {n k:Nat}
theorem ZD.refl (a:AV):ZD n k a a:=⟨fun _ _ _ h=>h⟩
theorem ZD.undef (a:AV):ZD n k a .undef:=⟨fun _ _ _ _=>.undef _⟩
theorem ZD.int {q:IntKind} {a b:Unit→Int} (h:a ()=b ()):ZD n k (.int q a) (.int q b):=⟨fun R v _ hv=>by
 rw[hv.int_inv];exact VR.mkInt h.symm⟩
theorem ZD.bool {a b:Unit→Bool} (h:a ()=b ()):ZD n k (.bool a) (.bool b):=⟨fun R v _ hv=>by
 rw[hv.bool_inv];exact VR.mkBool h.symm⟩
theorem ZD.gd {g:Unit→Bool} {a b:AV} (hg:g ()=true) (h:ZD n k a b):ZD n k (.gd g a) b:=⟨fun R v hN hv=>h.f R v hN (hv.gd_inv hg)⟩
theorem PR.wk {w:World} {ok:Nat→Nat→Nat→Prop} {s:Nat} {m m':Unit→Int} {f f':(Unit→Int)→List AV} {tk tk':Tk} {v:Value} (h:PR w ok (.isl s m f tk) v) (hm:m ()=m' ()) (hf:∀i:Nat,(i:Int)<m ()→f (fun _=>(i:Int))=f' (fun _=>(i:Int)))
  (ht:tk'= .none∨tk'=tk):PR w ok (.isl s m' f' tk') v:=by
 cases h with
 |isl0 _ _ _ _ hz h1=>exact .isl0 _ _ _ _ (by omega) (by rcases ht with rfl|rfl;rfl;exact h1)
 |islE _ _ _ _ a hz h1=>exact .islE _ _ _ _ a (by omega) (by rcases ht with rfl|rfl;exact .inl rfl;exact h1)
 |isl _ _ _ _ b o len cap us hn hc h1 he hl h2 h3 h4=>
  exact .isl _ _ _ _ b o len cap us (by omega) hc (by rcases ht with rfl|rfl;exact .inl rfl;exact h1) (fun e=>by rcases ht with rfl|rfl;cases e;exact he e)
   (fun i hi=>by rw[←hf i (by omega)];exact hl i hi) (fun i j c hi hj=>by rw[←hf i (by omega)]at hj;exact h2 i j c hi hj) (fun i j c hi hj=>by rw[←hf i (by omega)]at hj;exact h3 i j c hi hj) h4
theorem ZD.isl {s:Nat} {m m':Unit→Int} {f f':(Unit→Int)→List AV} {tk:Tk} (hm:m ()=m' ()) (hf:∀i:Nat,(i:Int)<m ()→f (fun _=>(i:Int))=f' (fun _=>(i:Int))):ZD n k (.isl s m f tk) (.isl s m' f' tk):=⟨fun R v _ hv=>by
 cases hv with
 |pure _ _ hp=>exact .pure _ _ (hp.wk hm hf (.inr rfl))
 |nn _ _ _ _ h2 h3=>exact .nn _ _ _ v (h2.wk hm hf (.inl rfl)) h3
 |own _ _ _ id _ h1 h2 h3 h4=>exact .own _ _ _ id v h1 (h2.wk hm hf (.inl rfl)) (by omega) (fun e=>h4 (by omega))⟩
theorem ZD.none {s:Nat} {m m':Unit→Int} {f f':(Unit→Int)→List AV} {tk:Tk} (hm:m ()=m' ()) (hf:∀i:Nat,(i:Int)<m ()→f (fun _=>(i:Int))=f' (fun _=>(i:Int))):ZD n k (.isl s m f tk) (.isl s m' f' .none):=⟨fun R v _ hv=>.pure _ _ (hv.isl_inv.wk hm hf (.inl rfl))⟩
theorem ZD.empty {s s':Nat} {m m':Unit→Int} {f f':(Unit→Int)→List AV} (hm:m' ()=0):ZD n k (.isl s m f .nil) (.isl s' m' f' .none):=⟨fun R v _ hv=>by
 cases hv with
 |pure _ _ hp=>
  cases hp with
  |isl0 _ _ _ _ hz h1=>exact .pure _ _ (.isl0 _ _ _ _ hm rfl)
  |islE _ _ _ _ _ _ h1=>rcases h1 with h|h<;>cases h
  |isl _ _ _ _ b o len cap us hn hc h1=>rcases h1 with h|h<;>cases h⟩
theorem Zqf {R:RC} {s:Nat} {m:Unit→Int} {f:(Unit→Int)→List AV} {v:Value} (hv:VR R (.isl s m f .nil) v):v= .slice none 0 0:=by
 cases hv with
 |pure _ _ hp=>
  cases hp with
  |isl0 _ _ _ _ hz h1=>rfl
  |islE _ _ _ _ _ _ h1=>rcases h1 with h|h<;>cases h
  |isl _ _ _ _ b o len cap us hn hc h1=>rcases h1 with h|h<;>cases h
theorem ZD.nilOwn {s s' id:Nat} {m m':Unit→Int} {f f':(Unit→Int)→List AV} (h1:n≤id) (h2:id<n+k) (hm:m' ()=0):ZD n k (.isl s m f .nil) (.isl s' m' f' (.own id)):=⟨fun R v hN hv=>by
 obtain⟨a1,a2,a3⟩:=hN id h1 h2
 rw[Zqf hv]
 exact .own _ _ _ id _ a1 (.isl0 _ _ _ _ hm rfl) (by omega) (fun _=>a3.symm)⟩
theorem ZD.gsl {id:Nat} {m m':Unit→Int} (hm:m ()=m' ()):ZD n k (.gsl id m) (.gsl id m'):=⟨fun R v _ hv=>by
 cases hv with
 |pure _ _ hp=>cases hp
 |gsl _ _ a l c h1 h2 h3 h4=>exact .gsl id m' a l c h1 (by omega) (fun e=>h3 (by omega)) ⟨by rw[←hm];exact h4.1,h4.2⟩⟩
theorem ZD.agg {cs cs':List AV} (h:ZbF n k cs cs'):ZD n k (.agg cs) (.agg cs'):=⟨fun R v hN hv=>by
 obtain⟨us,rfl,hl,hr⟩:=hv.agg_inv
 exact .agg cs' us (by rw[←h.len];exact hl) fun j c hj=>by
  obtain⟨a,h1,h2⟩:=h.get hj
  exact h2.f R _ hN (hr j a h1)⟩
theorem ZD.tup {cs cs':List AV} (h:ZbF n k cs cs'):ZD n k (.tup cs) (.tup cs'):=⟨fun R v hN hv=>by
 obtain⟨us,rfl,hl,hr⟩:=hv.tup_inv
 exact .tup cs' us (by rw[←h.len];exact hl) fun j c hj=>by
  obtain⟨a,h1,h2⟩:=h.get hj
  exact h2.f R _ hN (hr j a h1)⟩
theorem ZD.fn {f:FuncId} {xs bs bs':List AV} (h:ZbF n k bs bs'):ZD n k (.fn f xs bs) (.fn f xs bs'):=⟨fun R v hN hv=>by
 cases hv with
 |pure _ _ hp=>cases hp
 |fn _ _ _ us vs ha hb h1 h2=>exact .fn f xs bs' us vs ha (by rw[←h.len];exact hb) h1 fun j c hj=>let ⟨a,e1,e2⟩:=h.get hj;e2.f R _ hN (h2 j a e1)⟩
theorem ZL.refl (b:Zi):ZL n k b b:=⟨fun _ _ _ h=>h,fun _ _ _=>Iff.rfl,fun _ _ _ _ _=>Iff.rfl,rfl⟩
theorem ZL.cells {cs cs':List AV} (h:ZbF n k cs cs'):ZL n k (.cells cs) (.cells cs'):=⟨fun R id hN ⟨arr,ty,h1,h2,h3⟩=>⟨arr,ty,h1,by rw[←h.len];exact h2,fun j c hj=>by
  obtain⟨a,e1,e2⟩:=h.get hj
  exact e2.f R _ hN (h3 j a e1)⟩,fun _ _ _=>Iff.rfl,fun _ _ _ _ _=>Iff.rfl,rfl⟩
theorem ZL.tok {s:Nat} {a b:Unit→Int} (h:a ()=b ()):ZL n k (.tok s a) (.tok s b):=⟨fun R id hN ⟨h1,h2⟩=>⟨by rw[←h];exact h1,by rw[←h];exact h2⟩,fun _ _ _=>Iff.rfl,fun _ _ _ _ _=>Iff.rfl,rfl⟩
theorem ZL.gar {s:Nat} {m m':Unit→Int} {f f':(Unit→Int)→List AV} (hm:m ()=m' ()) (hf:∀i:Nat,(i:Int)<m ()→f (fun _=>(i:Int))=f' (fun _=>(i:Int))):ZL n k (.gar s m f) (.gar s m' f'):=
 ⟨fun R id hN ⟨h1,h2⟩=>⟨by rw[←hm];exact h1,by
  rw[←hm]
  rcases h2 with h2|⟨b,o,len,cap,arr,ty,g1,g2,g3,g4,g5,g6⟩
  ·exact .inl h2
  ·exact .inr ⟨b,o,len,cap,arr,ty,g1,g2,g3,g4,g5,fun i hi=>by rw[←hf i (by omega)];exact g6 i hi⟩⟩,fun _ _ _=>Iff.rfl,fun _ _ _ _ _=>Iff.rfl,rfl⟩
theorem ZL.arr {s:Nat} {m m':Unit→Int} {f f':(Unit→Int)→List AV} (hm:m ()=m' ()) (hf:∀i:Nat,(i:Int)<m ()→f (fun _=>(i:Int))=f' (fun _=>(i:Int))):ZL n k (.arr s m f) (.arr s m' f'):=
 ⟨fun R id hN ⟨arr,ty,len,h1,h2,h3,h4⟩=>⟨arr,ty,len,h1,by rw[←hm];exact h2,h3,fun i hi=>by rw[←hf i (by omega)];exact h4 i hi⟩,fun _ _ _=>Iff.rfl,fun _ _ _ _ _=>Iff.rfl,rfl⟩
theorem ZL.map {m m':(Unit→Int)→Unit→Bool} (h:∀x:Int,m (fun _=>x) ()=m' (fun _=>x) ()):ZL n k (.mapB m) (.mapB m'):=
 ⟨fun R id hN ⟨es,c,h1,h2,h3⟩=>⟨es,c,h1,h2,fun x=>by rw[←h];exact h3 x⟩,fun _ _ _=>Iff.rfl,fun _ _ _ _ _=>Iff.rfl,rfl⟩
end
def Zdm {α:Type} (enc:α→List AV) (d:α) (l:List α):(Unit→Int)→List AV:=fun e=>enc (l.getD (e ()).toNat d)
def lst {α:Type} (s:Nat) (enc:α→List AV) (d:α) (l:List α):AV:=.isl s (fun _=>(l.length:Int)) (Zdm enc d l) .none
theorem Zs:∃nt:(α:Type)→α→List α→Int→α,∀(α:Type) (d:α) (l:List α) (i:Int),nt α d l i=l.getD i.toNat d:=⟨fun _ d l i=>l.getD i.toNat d,fun _ _ _ _=>rfl⟩
section
variable {nt:(α:Type)→α→List α→Int→α} {α:Type} {enc:α→List AV} {d:α} {l:List α}
theorem Za (hnt:∀(α:Type) (d:α) (l:List α) (i:Int),nt α d l i=l.getD i.toNat d) (s:Nat) (enc:α→List AV) (d:α) (l:List α):lst s enc d l= .isl s (fun _=>(l.length:Int)) (fun e=>enc (nt α d l (e ()))) .none:=by
 unfold lst Zdm
 congr 1
 funext e
 rw[hnt]
theorem Zso (hnt:∀(α:Type) (d:α) (l:List α) (i:Int),nt α d l i=l.getD i.toNat d) {l l':List α} (i:Nat):nt α d (l++l') (i:Int)=if i<l.length then nt α d l (i:Int)else nt α d l' ((i-l.length:Nat):Int):=by
 rw[hnt,hnt,hnt]
 simp only[Int.toNat_natCast,List.getD_eq_getElem?_getD]
 split
 ·rename_i h;rw[List.getElem?_append_left h]
 ·rename_i h;rw[List.getElem?_append_right (by omega)]
theorem XF (hnt:∀(α:Type) (d:α) (l:List α) (i:Int),nt α d l i=l.getD i.toNat d) {i:Nat} (hi:i<l.length):nt α d l (i:Int)∈l:=by
 rw[hnt,Int.toNat_natCast,List.getD_eq_getElem?_getD,List.getElem?_eq_getElem hi]
 exact List.getElem_mem hi
theorem Qu (hnt:∀(α:Type) (d:α) (l:List α) (i:Int),nt α d l i=l.getD i.toNat d) {i:Nat} (hi:i<l.length):l.drop i=nt α d l (i:Int)::l.drop (i+1):=by
 rw[hnt,Int.toNat_natCast,List.getD_eq_getElem?_getD,List.getElem?_eq_getElem hi,Option.getD_some]
 exact List.drop_eq_getElem_cons hi
theorem Zex (hnt:∀(α:Type) (d:α) (l:List α) (i:Int),nt α d l i=l.getD i.toNat d) {i:Nat} (hi:i<l.length):l.take (i+1)=l.take i++[nt α d l (i:Int)]:=by
 rw[hnt,Int.toNat_natCast,List.getD_eq_getElem?_getD,List.getElem?_eq_getElem hi,Option.getD_some]
 exact List.take_succ_eq_append_getElem hi
theorem ZkG (hnt:∀(α:Type) (d:α) (l:List α) (i:Int),nt α d l i=l.getD i.toNat d) {l:List α} {x:α} {n0:Unit→Int} {f g:(Unit→Int)→List AV} (h0:n0 ()=(l.length:Int)) (hf:f=fun e=>enc (nt α d l (e ()))) (hg:g (fun _=>0)=enc x):
  ∀i:Nat,(i:Int)<(l.length:Int)+1→QM n0 f g (fun _=>(i:Int))=enc (nt α d (l++[x]) (i:Int)):=fun i hi=>by
 subst hf
 rw[Zso hnt]
 show(if(i:Int)<n0 ()then enc (nt α d l (i:Int))else g (fun _=>(i:Int)-n0 ()))=_
 by_cases h:i<l.length
 ·rw[if_pos (by omega),if_pos h]
 ·rw[if_neg (by omega),if_neg h]
  have:i=l.length:=by omega
  subst this
  have e:(fun _:Unit=>((l.length:Int)-n0 ()))=fun _=>0:=funext fun _=>by omega
  rw[e,hg,hnt]
  simp
theorem ZD.snoc {n k:Nat} (hnt:∀(α:Type) (d:α) (l:List α) (i:Int),nt α d l i=l.getD i.toNat d) {s:Nat} {x:α} {n0 m':Unit→Int} {g:(Unit→Int)→List AV} {tk:Tk} (h0:n0 ()=(l.length:Int)) (hm:m' ()=(l.length:Int)+1) (hg:g (fun _=>0)=enc x):
  ZD n k (.isl s m' (QM n0 (fun e=>enc (nt α d l (e ()))) g) tk) (.isl s (fun _=>((l++[x]).length:Int)) (fun e=>enc (nt α d (l++[x]) (e ()))) tk):=
 .isl (by rw[hm];simp) fun i hi=>ZkG hnt h0 rfl hg i (by rw[hm]at hi;exact hi)
theorem ZD.snocL {n k:Nat} (hnt:∀(α:Type) (d:α) (l:List α) (i:Int),nt α d l i=l.getD i.toNat d) {s:Nat} {x:α} {n0 m':Unit→Int} {g:(Unit→Int)→List AV} {tk:Tk} (h0:n0 ()=(l.length:Int)) (hm:m' ()=(l.length:Int)+1) (hg:g (fun _=>0)=enc x):
  ZD n k (.isl s m' (QM n0 (fun e=>enc (nt α d l (e ()))) g) tk) (lst s enc d (l++[x])):=
 .none (by rw[hm];simp) fun i hi=>(ZkG hnt h0 rfl hg i (by rw[hm]at hi;exact hi)).trans (by rw[hnt];rfl)
theorem ZD.lst {n k:Nat} (hnt:∀(α:Type) (d:α) (l:List α) (i:Int),nt α d l i=l.getD i.toNat d) {s:Nat} {m':Unit→Int} {tk:Tk} (hm:m' ()=(l.length:Int)):
  ZD n k (.isl s m' (fun e=>enc (nt α d l (e ()))) tk) (lst s enc d l):=
 .none hm fun i hi=>by show enc (nt α d l _)=enc (l.getD _ d);rw[hnt]
end
end Go.Proofs.YtjgpiclllehgmaaGreat.Vm
namespace Go.Proofs.YtjgpiclllehgmaaGreat.Vm
open Go Go.Proofs.YtjgpiclllehgmaaGreat.Conc1
def ZoU (e:AV→AV→Bool):List AV→List AV→Bool
 |[],[]=>true
 |a::r,b::s=>(match e a b with
  |true=>ZoU e r s
  |false=>false)
 |_,_=>false
def Zuk:Tk→Tk→Bool
 |.none,.none|.nil,.nil|.exact,.exact|.nil,.none|.exact,.none=>true
 |_,_=>false
def ZnS (e:AV→AV→Bool) (f g:(Unit→Int)→List AV):Nat→Bool
 |0=>true
 |k+1=>(match ZoU e (f fun _=>(k:Int)) (g fun _=>(k:Int))with
  |true=>ZnS e f g k
  |false=>false)
def eqP:Nat→AV→AV→Bool
 |_+1,.int q f,.int q' g=>Jx q q'&&decide (f ()=g ())
 |_+1,.bool f,.bool g=>f ()==g ()
 |_+1,.nilptr,.nilptr=>true
 |_+1,.nilmap,.nilmap=>true
 |_+1,.nilfn,.nilfn=>true
 |_+1,.str s,.str s'=>decide (s ()=s' ())
 |k+1,.isl s n f tk,.isl s' n' f' tk'=>ZC s s'&&Zuk tk tk'&&decide (n ()=n' ())&&ZnS (eqP k) f f' (n ()).toNat
 |k+1,.iptr cs o,.iptr cs' o'=>ZC o o'&&ZoU (eqP k) cs cs'
 |_,_,_=>false
def Zqx:Nat→AV→AV→Bool
 |k+1,.agg cs,.agg cs'=>ZoU (Zqx k) cs cs'
 |k+1,.tup cs,.tup cs'=>ZoU (Zqx k) cs cs'
 |_+1,.ptr a b,.ptr c d=>ZC a c&&ZC b d
 |_+1,.gsl a n,.gsl b m=>ZC a b&&decide (n ()=m ())
 |_+1,.map a,.map b=>ZC a b
 |_+1,.yld a,.yld b=>ZC a b
 |k+1,.isl s n f (.own id),.isl s' n' f' (.own id')=>ZC id id'&&decide (n ()=n' ())&&eqP k (.isl s n f .none) (.isl s' n' f' .none)
 |_+1,_,.undef=>true
 |k+1,.gd g a,.gd g' b=>(match g' ()with
  |false=>true
  |true=>g ()&&Zqx k a b)
 |k+1,a,b=>eqP k a b
 |0,_,_=>false
def Cn.b:Cn→Bool
 |.d _ b _=>b ()
 |.e v w=>Zqx 8 (v ()) (w ())
 |.i g x=>(match g ()with
  |true=>x.b
  |false=>true)
theorem CB.to {p:Unit→Program} {x:Code} {Q:Ex→List AV→List Zi→Prop} {s s₂:List AV} {h h₂:List Zi} (hto:To s h s₂ h₂) (H:CB p x Q s₂ h₂):CB p x Q s h:=⟨fun R₀ h₀=>CI.to hto (H.run R₀ h₀)⟩
section
variable {p:Unit→Program}
end
end Go.Proofs.YtjgpiclllehgmaaGreat.Vm
