/- Lemmas. -/
import Derived.RangeFuncIn
import Derived.RangeFuncRecord
import Derived.Test.YtjgpiclllehgmaaGreatMD
set_option linter.all false
open Array renaming getElem?_eq_some_iff->aM,getElem?_push->bK
open Int renaming toNat_natCast->aW
open List renaming getD_eq_getElem?_getD->aA,getElem?_eq_getElem->aC,getElem?_eq_none->cD,getElem?_eq_some_iff->aE,getElem?_map->aP,getElem_of_mem->ed,length_map->bA,length_set->bW,mem_cons->bG,mem_of_getElem?->aZ,nodup_cons->ee,range->aT
open Nat renaming le_refl->aJ,le_trans->cF
open Option renaming getD_some->bY,map_eq_some_iff->aG
open Option.some renaming injEq->aD
namespace Go.Proofs.YtjgpiclllehgmaaGreat
namespace Vm
open Go Conc1
def Zfb:List Tmp->List AV->List AV->List AV
 |t::ps,v::vs,s=>Zfb ps vs (s.set t v)
 |_,_,s=>s
def ZkD (n id:Nat) (j:Option Code) (A:AV->List Zi->Prop) (h:List Zi):Prop:=match h[id]? with
 |some (.loop s d)=>A (.bool λ_=>j.isNone) (sel true (aT n) (h.set id (.loop s {d with st:=if j.isNone then .ready else .done,pe:=j})))
 |_=>False
def Ztd (n id:Nat) (A:AV->List Zi->Prop) (e:Ex) (_:List AV) (h:List Zi) (c:Cd):Prop:=match e with
 |.normal=>chk c (ZkD n id none A h)
 |.exit i=>chk c (ZkD n id (some (.exit i)) A h)
 |.ret=>chk c (ZkD n id (some .ret) A h)
def ZvI (D:List AV->List Zi->Prop) (id:Nat) (e:Ex) (s:List AV) (h:List Zi) (c:Cd):Prop:=match e with
 |.normal=>chk c (match h[id]? with
  |some (.loop s' d)=>(match d.st with
   |.ready=>D s (h.set id (.loop s' {d with st:=.busy}))
   |_=>False)
  |_=>False)
 |_=>False
section
variable {T:Tb} {p:Unit->Program} {P:Program}
theorem ZjZ {R:RC}:∀(ps:List Tmp) (G:List AV) (A:List Value) {s:List AV} {t:Array Value},G.length=A.length->(∀j c,G[j]? =some c->VR R c (A.getD j undef))->SL R s t->SL R (Zfb ps G s) ((ps.zip A).foldl (λt (a,v)=>t.setIfInBounds a v) t)
 |[],G,A,s,t,_,_,hs=>by simpa [Zfb]using hs
 |_::_,[],A,s,t,hl,_,hs=>by
  have:A=[]:=List.eq_nil_of_length_eq_zero (by simpa using hl.symm);subst this;simpa [Zfb]using hs
 |a::ps,x::G,[],s,t,hl,_,hs=>by simp at hl
 |a::ps,x::G,u::A,s,t,hl,hx,hs=>by
  simp only[List.zip_cons_cons,List.foldl_cons,Zfb];exact ZjZ ps G A (by simpa using hl) (λj c H=>by simpa using hx (j+1) c (by simpa using H)) (hs.set (by simpa using hx 0 x rfl) a)
theorem HR.loopSet {G:Nat->Nat->Nat->Prop} {R:RC} {h:List Zi} (H:HR G R h) {id:Nat} {s:List AV} {d:Ziw} (hi:h[id]? =some (.loop s d)):
  ∃l,R.w.heap[(R.α id).b]? =some (.loop l)/\l.params=d.ps/\l.assign=d.a/\l.body=d.x/\l.state=d.st/\l.pending=d.pe/\SL R s l.tmps/\∀(st:LoopState) (pe:Option Code),
   ∃A,A.w=R.w.putObj (R.α id).b (.loop {l with state:=st,pending:=pe})/\A.α=R.α/\HR G A (h.set id (.loop s {d with st,pe}))/\Xs R h A (h.set id (.loop s {d with st,pe}))/\R.le A:=by
 obtain⟨l,U,J,Y,S,h5,h6,V⟩:=H.blk id _ hi;refine⟨l,U,J,Y,S,h5,h6,V,λst pe=>?_⟩;have I:(R.α id).b<R.w.heap.size:=(aM.1 U).1;obtain⟨A,a1,a2,a3,a4,a5,a6⟩:=H.upd hi rfl (blk':=.loop s {d with st,pe}) rfl (R.w.putObj (R.α id).b (.loop {l with state:=st,pending:=pe})) rfl rfl rfl World.putObj_size (λb hb=>World.putObj_heap_other hb)
  (λA Z aa hw=>⟨{l with state:=st,pending:=pe},by rw[aa,hw];exact World.putObj_heap_same I,J,Y,S,rfl,rfl,V.mono Z⟩)
 exact⟨A,a1,a3,a4,a5,a6⟩
theorem YC.ofN {p:Unit->Program} {id:Nat} {xs:List AV} {h:List Zi} {V:AV->List Zi->Prop} (hz:zOk h=true)
  (H:∀(G:Nat->Nat->Nat->Prop) (R:RC) (vs:Array Value),HR G R h->R.n0=h.length->Yf R xs vs->∃f J a x,(Instr.yield (R.α id).b vs).run (p ()) R.w= .ok (.round (R.α id).b f J a x) R.w/\
   ∀(c:Frame) (cs:List Frame),∃v A r Y,Steps (p ()) R.cx (ZN (Frame.round (R.α id).b f J a x .normal) (c::cs) R.w) (ZN (c.finish v) cs A.w)/\HR G A Y/\Xs R h A Y/\R.le A/\VR A r v/\V r Y):YC p id xs h V:=
 ⟨λG R vs hr ha=>by
  have ac:∀(id z s:Nat) (N:Unit->Int) (m:(Unit->Int)->Unit->Int) (g:(Unit->Int)->(Unit->Int)->List AV),h[id]? =some (Zi.fam z s N m g)->h.length<=z:=λid z s N m g Z=>by
   simp only[zOk,List.all_eq_true]at hz;exact Xc (hz _ (aZ Z))
  have ab:=hr.setN0 h.length (by rw[hr.len];exact aJ _) ac;obtain⟨f,J,a,x,c1,c2⟩:=H G _ vs ab rfl ⟨ha.1,λj c hj=>(ha.2 j c hj).mono (.setN0 R _)⟩;refine⟨f,J,a,x,c1,λc cs=>?_⟩;obtain⟨v,A,r,Y,b1,b3,I,S,b6,b7⟩:=c2 c cs;have e0:A.n0=h.length:=I.n0;have aa:R.n0<=h.length:=by rw[hr.len];exact hr.n0m
  refine⟨v,{A with n0:=R.n0},r,Y,b1,b3.setN0 R.n0 (cF aa (e0▸b3.n0m)) (λid z s N m g Z=>cF aa (e0▸(b3.blk id _ Z).1)),⟨rfl,I.os,I.tape,I.output,I.size,I.m,I.α,I.ok,I.keep,I.frame,λid x b Z hp=>?_⟩,⟨S.m,S.α,S.tk,S.fm,S.ok,S.keep,S.keepM,S.cx⟩,b6.mono (.setN0 A _),b7⟩;rcases I.own id x b Z ((ZE.congr (R:=A) (R':={A with n0:=R.n0}) rfl rfl).1 hp)with h1|⟨i,y,h1,h2,U⟩
  ·exact .inl h1
  refine .inr ⟨i,y,h1,h2,.inl ?_⟩;have:=(aE.1 h1).1;rcases U with U|U
  ·exact U
  have U:h.length<=i:=U
  omega⟩
def Zar (Q:Ex->List AV->List Zi->Prop) (s:List AV) (m:Nat) (h:List Zi):Prop:=match h[m]? with
 |some (.loop s' d)=>(match d.st with
  |.busy=>False
  |_=>(match d.pe with
   |none=>Q .normal s (sel true (aT m) (h.set m (.loop s' {d with st:=.exhausted})))
   |some (.exit i)=>Q (.exit i) s (sel true (aT m) (h.set m (.loop s' {d with st:=.exhausted})))
   |some .ret=>Q .ret s (sel true (aT m) (h.set m (.loop s' {d with st:=.exhausted})))
   |_=>False))
 |_=>False
theorem CB.of {f:Operand} {ps:Array Tmp} {a x:Code} {Q:Ex->List AV->List Zi->Prop} {s:List AV} {h:List Zi} {fid:FuncId} {first cap:List AV} (hf:strip (ev s f)= .fn fid first cap) (hc:ZV (ZaB (ev s f)))
  (H:SC p fid (first++[.yld h.length]++cap) (h++[.loop s ⟨ps,a,x,.ready,none⟩]) λ_ h'=>Zar Q s h.length h'):CB p (.rangeFunc f ps a x) Q s h:=by
 refine⟨λV Z R t hi hs b I k cs hd=>?_⟩;have ac:b.1.roundOf=none:=b.2 rfl;have S:R.m=h.length:=hi.hr.len.symm;obtain⟨R1,w1,m1,bt,_,_,H1,x1,l1,_⟩:=hi.hr.make (.deferred (some []));obtain⟨U,w2,m2,ba,H2,x2,l2⟩:=H1.alloc (.loop s ⟨ps,a,x,.ready,none⟩) (.loop {state:=.ready,pending:=none,fn:=b.1.fn,tmps:=t,params:=ps,assign:=a,body:=x,defers:=R.w.heap.size})
  (λR'=>⟨rfl,λb hp=>hp.symm,λb o n=>Iff.rfl⟩) (λR' bg bc hh=>⟨_,by rw[bc];exact hh,rfl,rfl,rfl,rfl,rfl,(hs.mono l1).mono bg⟩)
 have ao:R1.w.heap.size=R.w.heap.size+1:=by rw[w1];simp
 have ah:(U.α h.length).b=R.w.heap.size+1:=by rw[<-S,<-m1,ba,<-ao]
 have ae:(Instr.enterLoop b.1.fn t ps a x b.1.roundOf).run (p ()) R.w= .ok (R.w.heap.size+1,[{target:=.collected R.w.heap.size,args:= #[]}]) U.w:=by
  rw[ac,run_enterLoop_outer,w2,w1];rfl
 have a9:SL U s t:=(hs.mono l1).mono l2;have ai:VR U (.fn fid first cap) (QV t f):=by
  rw[<-hf];exact(a9.ev f).strip hc
 obtain⟨vs,aq,aw⟩:=ZjV (P:=p ()) (o:={dst:=none,op:=.call (rangeCall f (R.w.heap.size+1)),type:=0,pos:= "",after:= #[],guard:=none}) (f:=f) rfl ai
  (λy hy=>⟨.undef,.undef _⟩) U.w H.enter [.yld h.length] rfl (λj c hj=>by
   cases j with
   |zero=>
    simp only[List.getElem?_cons_zero,aD]at hj;subst hj;have:VR U (.yld h.length) (.func (.yield (U.α h.length).b) #[] #[]):=.yld _ (by rw[m2,m1,S];omega);rw[ah]at this;simpa [QV]using this
   |succ j=>simp at hj)
 have am:Z.length<=h.length:=by rw[hi.len,<-S];exact hi.le.m
 have bl:∀l K,ZA (p ()) K (do let d<-resolve (QV t) (rangeCall f l) 0;invoke d.target d.args):=λl K=>by
  obtain⟨fn,c,e1,e2,e3⟩:=H.enter;have aj:∃us vs:Array Value,QV t f= .func (.func fid) us vs:=by
   generalize QV t f=u at ai;cases ai with
   |pure _ _ hp=>cases hp
   |fn _ _ _ us vs _ _ _ _=>exact⟨us,vs,rfl⟩
  obtain⟨us,vs,aj⟩:=aj;exact Zgz aj e1 e2 e3
 have bk:=ZiI (cx:=R.cx) (P:=p ()) (b:=b.1) (t:=t) (ds:=I) (k:=k) (cs:=cs) (g:=f) (ps:=ps) (a:=a) (x:=x) ac ae bl aq;obtain⟨v,R3,r,h3,J,H3,x3,l3,bu,A⟩:=H.run _ U vs H2 aw (mkF b.1 t ([{target:=.collected R.w.heap.size,args:= #[]}]++I) (.inRangeFunc (R.w.heap.size+1)::k)::cs);have J:=J.call;have ar:(mkF b.1 t ([{target:=.collected R.w.heap.size,args:= #[]}]++I) (.inRangeFunc (R.w.heap.size+1)::k)).finish v=mkF b.1 t ([{target:=.collected R.w.heap.size,args:= #[]}]++I) (.endRangeFunc (R.w.heap.size+1)::k):=by
  simp[Frame.finish,mkF]
 rw[ar]at J;unfold Zar at A;split at A;case h_2=>exact A.elim
 rename_i s' d' bo;obtain⟨q,q1,q2,q3,q4,q5,q6,q7,q8⟩:=H3.loopSet bo;obtain⟨R4,w4,bq,H4,x4,l4⟩:=q8 .exhausted d'.pe;have al:(R3.α h.length).b=R.w.heap.size+1:=by rw[l3.α h.length (by rw[m2,m1,S];omega)];exact ah
 have bh:d'.st≠ .busy:=λe=>by rw[e]at A;exact A
 have ap:(Instr.endLoop (R.w.heap.size+1)).run (p ()) R3.w= .ok d'.pe R4.w:=by
  rw[w4,<-al,<-q6];exact run_endLoop q1 (by rw[q5];exact bh)
 have be:=Zfv (cx:=R.cx) (P:=p ()) (b:=b.1) (t:=t) (ds:=[{target:=.collected R.w.heap.size,args:= #[]}]++I) (k:=k) (cs:=cs) ap;have i4:Inv V Z R4 (h3.set h.length (.loop s' {d' with st:=.exhausted})):=(((hi.step H1 x1 l1).step H2 x2 l2).step H3 x3 l3).step H4 x4 l4;obtain⟨R5,w5,i5,x5,l5,_⟩:=i4.trim (((x1.trans x2).trans x3).trans x4) (((l1.trans l2).trans l3).trans l4) S.symm am (by rw[<-S];exact hi.hr.n0m);have G:Steps (p ()) R.cx (ZN (mkF b.1 t I (.code (.rangeFunc f ps a x)::k)) cs R.w) (ZN (mkF b.1 t ([{target:=.collected R.w.heap.size,args:= #[]}]++I) ((d'.pe.map Item.code).toList++k)) cs R5.w):=by
  rw[w5];exact .head bk (Steps.trans (YE (l1.trans l2) J) (.one be))
 have au:Zea b.1.base V.w.heap.size R5.w ([{target:=.collected R.w.heap.size,args:= #[]}]++I):=by
  rw[w5];refine Zea.ext H3 x4 (Zea.ext H2 x3 ?_);obtain⟨rs,rfl,bm,ak⟩:=hd;refine⟨R.w.heap.size::rs,rfl,ee.2 ⟨λhm=>?_,bm⟩,λr hr=>?_⟩
  ·have:=(aM.1 (ak _ hm).2).1;omega
  have aa:∀r,r<R.w.heap.size+1->U.w.heap[r]? =(R.w.heap.push (.deferred (some [])))[r]? :=λr hr=>by
   rw[w2,w1];show((R.w.heap.push _).push _)[r]? =_;rw[bK,iP (by simp;omega)]
  rcases bG.1 hr with rfl|hr
  ·refine⟨hi.ext.size,?_⟩;rw[aa _ (by omega)];simp
  have h1:=ak r hr;have bp:=(aM.1 h1.2).1;refine⟨h1.1,?_⟩;rw[aa _ (by omega),bK,iP (by omega)];exact h1.2
 have out:∀e,Q e s (sel true (aT h.length) (h3.set h.length (.loop s' {d' with st:=.exhausted})))->Arr (p ()) R.cx (ZN (mkF b.1 t I ([.code (.rangeFunc f ps a x)]++k)) cs R.w) b.1 k cs t ([{target:=.collected R.w.heap.size,args:= #[]}]++I) R5.w e->
   ∃e s' h' R' t' ab,Q e s' h'/\Inv V Z R' h'/\SL R' s' t'/\Zea b.1.base V.w.heap.size R'.w ab/\(b.1.roundOf≠none->ab=I)/\Arr (p ()) R.cx (ZN (mkF b.1 t I ([.code (.rangeFunc f ps a x)]++k)) cs R.w) b.1 k cs t' ab R'.w e:=
  λe hq hA=>⟨e,s,_,R5,t,_,hq,i5,hs.mono l5,au,λaz=>absurd ac az,hA⟩
 split at A
 ·exact A.elim
 split at A
 ·rename_i Y;rw[Y]at G;exact out .normal A G
 ·rename_i i Y;rw[Y]at G;exact out (.exit i) A ⟨[],λ_=>rfl,G⟩
 ·rename_i Y;rw[Y]at G;exact out .ret A ⟨_,G⟩
 exact A.elim
end
end Vm
namespace Vm
open Go Conc1
def Jg (l:List Nat) (m j:Nat):Nat:=match l[j]? with
 |some i=>i
 |none=>m+(j-l.length)
def ren (A:Nat->Nat):Nat->AV->AV
 |0,_=>.undef
 |k+1,a=>(match a with
  |.ptr id G=>.ptr (A id) G
  |.aptr id s e G=>.aptr (A id) s e G
  |.msl id s lo m c=>.msl (A id) s lo m c
  |.gsl id m=>.gsl (A id) m
  |.gptr id s m e G=>.gptr (A id) s m e G
  |.nsub id e l=>.nsub (A id) e l
  |.nptr id s e q G=>.nptr (A id) s e q G
  |.lit s cs=>.lit s (cs.map (ren A k))
  |.map id=>.map (A id)
  |.mit id=>.mit (A id)
  |.yld id=>.yld (A id)
  |.isl s m f (.own id)=>.isl s m f (.own (A id))
  |.fn f H I=>.fn f (H.map (ren A k)) (I.map (ren A k))
  |.agg cs=>.agg (cs.map (ren A k))
  |.tup cs=>.tup (cs.map (ren A k))
  |.gd g v=>.gd g (ren A k v)
  |a=>a)
def XE (A:Nat->Nat):Zi->Zi
 |.cells cs=>.cells (cs.map (ren A 5))
 |.loop s d=>.loop (s.map (ren A 5)) d
 |.vgar s n f=>.vgar s n λe=>(f e).map (ren A 5)
 |.fam z s n m g=>.fam (A z) s n m g
 |b=>b
def Zcu (A:Nat->Nat):List Nat->List Zi->List Zi->List Zi
 |i::r,b::s,h=>Zcu A r s (h.set i (XE A b))
 |[],s,h=>h++s.map (XE A)
 |_::_,[],h=>h
def back (l:List Nat) (h h₂:List Zi):List Zi:=Zcu (Jg l h.length) l h₂ h
theorem Zda {G:Nat->Nat}:∀ {l:List Nat} {A h:List Zi},l.length<=A.length->(Zcu G l A h).length=h.length+(A.length-l.length)
 |[],s,h,_=>by simp[Zcu]
 |i::r,[],h,hl=>by simp at hl
 |i::r,b::s,h,hl=>by
  simp only[Zcu];rw[Zda (by simpa using hl)];simp
theorem Zhd {S:Nat->Nat}:∀ {l:List Nat} {G h:List Zi} {id:Nat} {x:Zi},l.length<=G.length->l.Nodup->(∀i∈l,i<h.length)->(Zcu S l G h)[id]? =some x->
  (∃(j:Nat) (b:Zi),l[j]? =some id/\G[j]? =some b/\x=XE S b)\/(id∉l/\id<h.length/\h[id]? =some x)\/(h.length<=id/\∃b,G[l.length+(id-h.length)]? =some b/\x=XE S b)
 |[],s,h,id,x,_,_,_,hx=>by
  simp only[Zcu]at hx;rw[List.getElem?_append]at hx;split at hx
  ·rename_i I;exact .inr (.inl ⟨by simp,I,hx⟩)
  rename_i aa;rw[aP,aG]at hx;obtain⟨b,Y,rfl⟩:=hx;exact .inr (.inr ⟨by omega,b,by simpa using Y,rfl⟩)
 |i::r,[],h,id,x,hl,_,_,_=>by simp at hl
 |i::r,b::s,h,id,x,hl,hn,I,hx=>by
  simp only[Zcu]at hx;rw[ee]at hn;have Z:=I i (List.mem_cons_self ..);rcases Zhd (by simpa using hl) hn.2 (λj V=>by rw[bW];exact I j (List.mem_cons_of_mem _ V)) hx with⟨j,U,J,H,A⟩|⟨J,H,A⟩|⟨J,U,H,A⟩
  ·exact .inl ⟨j+1,U,by simpa using J,by simpa using H,A⟩
  ·rw[bW]at H;rw[List.getElem?_set]at A;by_cases e:i=id
   ·subst e;rw[iQ rfl,iQ Z]at A;simp only[aD]at A;exact .inl ⟨0,b,rfl,rfl,A.symm⟩
   rw[iP e]at A;exact .inr (.inl ⟨λhm=>by rcases bG.1 hm with h|h;exact e h.symm;exact J h,H,A⟩)
  rw[bW]at J H;refine .inr (.inr ⟨J,U,?_,A⟩);rw[List.length_cons,show r.length+1+(id-h.length)=r.length+(id-h.length)+1 from by omega];simpa using H
theorem Zep {R R':RC} {H:Nat->Nat} {i j:Nat} (A:R'.α j=R.α i) (G:R'.hv j=R.hv i) {blk:Zi} {b:Nat}:ZE R' j (XE H blk) b↔ZE R i blk b:=by
 cases blk with
 |gob g=>cases g<;>simp only[XE,ZE,A]
 |_=>simp only[XE,ZE,A,G]
theorem Zmq {R R':RC} {H:Nat->Nat} {i j:Nat} (A:R'.α j=R.α i) (G:R'.hv j=R.hv i) {blk:Zi} {b o m:Nat}:Qo R' j (XE H blk) b o m↔Qo R i blk b o m:=by
 cases blk with
 |gob g=>cases g<;>simp only[XE,Qo,ZE,A]
 |_=>simp only[XE,Qo,ZE,A,G]
theorem Zo6 {A:Nat->Nat} {blk:Zi}:Zaz (XE A blk)=Zaz blk:=by
 cases blk with
 |gob g=>cases g<;>rfl
 |_=>rfl
theorem Zu6 {R R':RC} {φ:Nat->Nat} (hw:R'.w=R.w) (I:∀j,j<R.m->φ j<R'.m/\R'.α (φ j)=R.α j/\R'.hw (φ j)=R.hw j/\R'.hv (φ j)=R.hv j) (ah:∀b o n,R.ok b o n->R'.ok b o n):∀(k:Nat) {a:AV} {v:Value},VR R a v->VR R' (ren φ k a) v:=by
 have aa:∀ {a:AV} {v:Value},PR R.w R.ok a v->PR R'.w R'.ok a v:=λh=>h.mono ah (λ_ _ _ _ _ _=>by rw[hw]) (λ_ _ _ _ h=>by rw[hw];exact h);intro k;induction k with
 |zero=>exact λ_=>.undef _
 |succ k ih=>
  intro a v hv;cases hv with
  |pure _ _ hp=>
   cases hp with
   |isl0 s m f tk h0 Z=>cases tk with
    |own id=>cases Z
    |nn=>cases Z
    |_=>exact .pure _ _ (.isl0 _ _ _ _ h0 Z)
   |islE s m f tk a h0 Z=>cases tk with
    |own id=>exact absurd Z (λh=>by cases h<;>contradiction)
    |nn=>exact absurd Z (λh=>by cases h<;>contradiction)
    |_=>exact .pure _ _ (.islE _ _ _ _ a h0 Z)
   |isl s m f tk b o len ac U hn hc Z Y hl G A J=>cases tk with
    |own id=>exact absurd Z (λh=>by cases h<;>contradiction)
    |nn=>exact absurd Z (λh=>by cases h<;>contradiction)
    |_=>exact .pure _ _ (aa (.isl _ _ _ _ b o len ac U hn hc Z Y hl G A J))
   |iptr cs V b o U G A J=>exact .pure _ _ (aa (.iptr cs V b o U G A J))
   |bool b=>exact .pure _ _ (.bool b)
   |int k n=>exact .pure _ _ (.int k n)
   |str s=>exact .pure _ _ (.str s)
   |cch c=>exact .pure _ _ (.cch c)
   |imap ka n L b es ai G A J=>exact .pure _ _ (aa (.imap ka n L b es ai G A J))
   |imap0 ka n L h=>exact .pure _ _ (.imap0 ka n L h)
   |nilptr=>exact .pure _ _ .nilptr
   |nilmap=>exact .pure _ _ .nilmap
   |nilfn=>exact .pure _ _ .nilfn
  |undef=>exact .undef _
  |ptr id V H=>
   obtain⟨G,A,_,_⟩:=I id H;simp only[ren];rw[<-A];exact .ptr _ V G
  |nn s m f _ hp hv=>exact .nn s m f v (aa hp) hv
  |own s m f id _ H hp hn Y=>
   obtain⟨G,_,A,J⟩:=I id H;exact .own s m f _ v G (aa hp) (by rw[A];exact hn) (by rw[A,J];exact Y)
  |aptr id s e V i H Y=>
   obtain⟨G,A,_,_⟩:=I id H;simp only[ren];rw[<-A];exact .aptr _ s e V i G Y
  |msl id s lo m c i len ac H aj hn hc ak=>
   obtain⟨G,A,_,_⟩:=I id H;simp only[ren];rw[<-A];exact .msl _ s lo m c i len ac G aj hn hc ak
  |gsl id m a l c H hn Y hl=>
   obtain⟨G,_,A,J⟩:=I id H;exact .gsl _ m a l c G (by rw[A];exact hn) (by rw[A,J];exact Y) hl
  |gptr id s m e V a H hn Y=>
   obtain⟨G,_,A,J⟩:=I id H;exact .gptr _ s m e V a G (by rw[A];exact hn) (by rw[A,J];exact Y)
  |nsub id e l a ll c U i H ae Y hu hl=>
   obtain⟨G,_,_,J⟩:=I id H;exact .nsub _ e l a ll c U i G (J.trans ae) Y hu hl
  |nptr id s e q V U i b o l c j H ae Y hu hk=>
   obtain⟨G,_,_,J⟩:=I id H;exact .nptr _ s e q V U i b o l c j G (J.trans ae) Y hu hk
  |lit s cs b o U hs G A J=>
   refine .lit s _ b o U (by rw[bA];exact hs) (λj c S=>?_) (λj c S=>?_) (ah _ _ _ J)
   ·rw[aP,aG]at S;obtain⟨c0,ab,rfl⟩:=S;rw[hw];exact G j c0 ab
   rw[aP,aG]at S;obtain⟨c0,ab,rfl⟩:=S;exact ih (A j c0 ab)
  |map id H=>
   obtain⟨G,A,_,_⟩:=I id H;simp only[ren];rw[<-A];exact .map _ G
  |mit id H h0=>
   obtain⟨G,A,_,_⟩:=I id H;simp only[ren];rw[<-A];exact .mit _ G (by rw[A];exact h0)
  |yld id H=>
   obtain⟨G,A,_,_⟩:=I id H;simp only[ren];rw[<-A];exact .yld _ G
  |fn f xs bs U vs ha hb G A=>
   refine .fn f _ _ U vs (by simpa using ha) (by simpa using hb) (λj c S=>?_) (λj c S=>?_)
   ·rw[aP,aG]at S;obtain⟨x,hx,rfl⟩:=S;exact ih (G j x hx)
   rw[aP,aG]at S;obtain⟨x,hx,rfl⟩:=S;exact ih (A j x hx)
  |agg cs U ha h=>
   refine .agg _ U (by simpa using ha) (λj c S=>?_);rw[aP,aG]at S;obtain⟨x,hx,rfl⟩:=S;exact ih (h j x hx)
  |tup cs U ha h=>
   refine .tup _ U (by simpa using ha) (λj c S=>?_);rw[aP,aG]at S;obtain⟨x,hx,rfl⟩:=S;exact ih (h j x hx)
  |gd g a _ h=>exact .gd g _ _ λhg=>ih (h hg)
  |ob g b _ G A=>exact .ob g b _ G A
def ZtD (R:RC) (h:List Zi) (l:List Nat):Nat->Nat->Nat->Prop:=λb o n=>R.ok b o n\/R.w.heap.size<=b\/∃i blk,i∈l/\h[i]? =some blk/\Zaz blk=true/\ZE R i blk b
theorem J0 {R:RC} {id:Nat} {blk:Zi} {b o n:Nat} (h:¬ZE R id blk b):Qo R id blk b o n:=by
 cases blk with
 |tok s hw=>exact λa len A hv G H=>absurd ⟨a,len,A,hv,G,H⟩ h
 |_=>exact h
theorem ZgX {G:Nat->Nat->Nat->Prop} {R ab A:RC} {h I:List Zi} {l:List Nat} (H:HR G R h) (bo:l.Nodup) (ap:∀i∈l,i<h.length)
  (bc:ab.cx=R.cx) (ca:ab.n0=l.length) (hw:ab.w=R.w) (hm:ab.m=l.length) (bg:∀j i,l[j]? =some i->ab.α j=R.α i) (cj:∀j i,l[j]? =some i->ab.hw j=R.hw i) (ba:∀j i,l[j]? =some i->ab.hv j=R.hv i) (au:∀b o n,R.ok b o n->ab.ok b o n)
  (H':HR (ZtD R h l) A I) (hx:Xs ab (sel false l h) A I) (ai:ab.le A):
  ∃R',R'.w=A.w/\HR G R' (back l h I)/\Xs R h R' (back l h I)/\R.le R'/\∀k a v,VR A a v->VR R' (ren (Jg l h.length) k a) v:=by
 have bl:l.length<=I.length:=by rw[H'.len,<-hm];exact ai.m
 have bp:(back l h I).length=h.length+(I.length-l.length):=Zda bl;let bt:Nat->Loc:=λid=>if id<h.length then R.α id else A.α (l.length+(id-h.length))
 let bz:Nat->Int:=λid=>match Qx id l 0 with
  |some j=>A.hw j
  |none=>if id<h.length then R.hw id else A.hw (l.length+(id-h.length))
 let cf:Nat->Value:=λid=>match Qx id l 0 with
  |some j=>A.hv j
  |none=>if id<h.length then R.hv id else A.hv (l.length+(id-h.length))
 let R':=Zlz R.cx G R.n0 A.w (h.length+(I.length-l.length)) bt bz cf (back l h I);have az:∀ {j id:Nat},l[j]? =some id->Qx id l 0=some j:=λ{j id} V=>by
  cases U:Qx id l 0 with
  |none=>exact absurd (aZ V) (Yi U)
  |some j'=>
   obtain⟨_,Y⟩:=Zaa U;rw[Nat.sub_zero]at Y;have a1:=aE.1 V;have a2:=aE.1 Y;congr 1;exact(List.getElem_inj (h₀:=a2.1) (h₁:=a1.1) bo).1 (by rw[a1.2,a2.2])
 have aa:∀j,j<I.length->Jg l h.length j<R'.m/\R'.α (Jg l h.length j)=A.α j/\R'.hw (Jg l h.length j)=A.hw j/\R'.hv (Jg l h.length j)=A.hv j:=λj V=>by
  unfold Jg;cases ac:l[j]? with
  |some i=>
   have Z:=ap i (aZ ac);have bx:j<ab.m:=by rw[hm];exact(aE.1 ac).1
   refine⟨by show i<h.length+_;omega,?_,?_,?_⟩
   ·show(if i<h.length then R.α i else _)=_;rw[iQ Z,ai.α j bx,bg j i ac]
   ·show(match Qx i l 0 with
     |some j=>A.hw j
     |none=>_)=_
    rw[az ac]
   show(match Qx i l 0 with
    |some j=>A.hv j
    |none=>_)=_
   rw[az ac]
  |none=>
   have ce:l.length<=j:=List.getElem?_eq_none_iff.1 ac;have bm:Qx (h.length+(j-l.length)) l 0=none:=by
    cases U:Qx (h.length+(j-l.length)) l 0 with
    |none=>rfl
    |some j'=>
     obtain⟨_,Y⟩:=Zaa U;have:=ap _ (aZ Y);omega
   have e:l.length+(h.length+(j-l.length)-h.length)=j:=by omega
   refine⟨by show h.length+(j-l.length)<h.length+(I.length-l.length);omega,?_,?_,?_⟩
   ·show(if h.length+(j-l.length)<h.length then _ else A.α (l.length+(h.length+(j-l.length)-h.length)))=_;rw[iP (by omega),e]
   ·show(match Qx (h.length+(j-l.length)) l 0 with
     |some j=>A.hw j
     |none=>if h.length+(j-l.length)<h.length then _ else A.hw (l.length+(h.length+(j-l.length)-h.length)))=_
    rw[bm];simp only[iP (show¬h.length+(j-l.length)<h.length by omega),e]
   show(match Qx (h.length+(j-l.length)) l 0 with
    |some j=>A.hv j
    |none=>if h.length+(j-l.length)<h.length then _ else A.hv (l.length+(h.length+(j-l.length)-h.length)))=_
   rw[bm];simp only[iP (show¬h.length+(j-l.length)<h.length by omega),e]
 have other:∀id,id∉l->id<h.length->R'.α id=R.α id/\R'.hw id=R.hw id/\R'.hv id=R.hv id:=λid hn Z=>by
  have U:Qx id l 0=none:=by
   cases U:Qx id l 0 with
   |none=>rfl
   |some j=>exact absurd (aZ (Zaa U).2) hn
  refine⟨iQ Z,?_,?_⟩
  ·show(match Qx id l 0 with
    |some j=>A.hw j
    |none=>if id<h.length then R.hw id else _)=_
   rw[U];simp only[iQ Z]
  show(match Qx id l 0 with
   |some j=>A.hv j
   |none=>if id<h.length then R.hv id else _)=_
  rw[U];simp only[iQ Z]
 have aj:∀ {id x},(back l h I)[id]? =some x->(∃j b,id=Jg l h.length j/\I[j]? =some b/\x=XE (Jg l h.length) b/\(j<l.length->l[j]? =some id)/\(l.length<=j->h.length<=id))\/(id∉l/\id<h.length/\h[id]? =some x):=λ{id x} hx=>by
  rcases Zhd bl bo ap hx with⟨j,b,S,Y,h3⟩|S|⟨S,b,Y,h3⟩
  ·exact .inl ⟨j,b,by simp[Jg,S],Y,h3,λ_=>S,λce=>by have:=(aE.1 S).1;omega⟩
  ·exact .inr S
  refine .inl ⟨_,b,?_,Y,h3,λck=>by omega,λ_=>S⟩;unfold Jg;rw[cD (by omega)];show id=h.length+(l.length+(id-h.length)-l.length);omega
 have g2:∀b o n,ZtD R h l b o n->G b o n:=λb o n k=>by
  rcases k with k|k|⟨i,blk,_,Z,hk,U⟩
  ·exact((H.okd _ _ _).1 k).2.1
  ·exact H.fresh _ _ _ k
  exact H.tokG i blk b Z hk U o n
 have be:R.w.heap.size<=A.w.heap.size:=by rw[<-hw];exact hx.size
 have am:∀b o n,A.ok b o n->R'.ok b o n:=λb o n k=>by
  obtain⟨S,Y,h3⟩:=(H'.okd _ _ _).1 k;refine⟨S,g2 _ _ _ Y,λid x J=>?_⟩;rcases aj J with⟨j,b',rfl,V,rfl,_⟩|⟨hn,Z,J⟩
  ·obtain⟨_,c1,_,c2⟩:=aa j (aE.1 V).1;exact(Zmq c1 c2).2 (h3 j b' V)
  obtain⟨c1,_,c2⟩:=other id hn Z;refine(Qo.congr (R:=R) c1 c2).2 ?_;rcases Y with k|k|⟨i,blk,ci,bu,hk,U⟩
  ·exact((H.okd _ _ _).1 k).2.2 id x J
  ·exact J0 λU=>by have:=H.phys_lt J U;omega
  exact J0 λah=>H.dis i id blk x b (λe=>hn (e▸ci)) bu J U ah
 have al:∀ {j blk b},(sel false l h)[j]? =some blk->ZE ab j blk b->∃i y,l[j]? =some i/\h[i]? =some y/\ZE R i y b:=λV U=>by
  obtain⟨i,y,Z,hy,rfl⟩:=ZcB ap V;exact⟨i,y,Z,hy,(ZaV (bg _ i Z) (ba _ i Z)).1 U⟩
 have aw:∀id x b,id∉l->h[id]? =some x->ZE R id x b->A.w.heap[b]? =R.w.heap[b]? :=λid x b hn J U=>by
  rw[hx.frame b (by rw[hw];exact H.phys_lt J U) (λj blk V ah=>?_),hw];obtain⟨i,y,Z,hy,ah⟩:=al V ah;exact H.dis i id y x b (λe=>hn (e▸aZ Z)) hy J ah U
 have ae:R.le R':=by
  refine⟨by show R.m<=h.length+_;rw[H.len];omega,λid Z=>iQ (by rw[H.len];exact Z),λid Z=>?_,λid Z=>?_,λb o n k=>am _ _ _ (ai.ok _ _ _ (au _ _ _ k)),λb o n k j V=>by
   have:=ai.keep b o n (au _ _ _ k) j V;rw[hw]at this
   exact this,(λb k es bw e=>by
   rw[<-hw]at e
   exact ai.keepM b (au _ _ _ k) es bw e),rfl⟩
  by_cases hn:id∈l
  ·obtain⟨j,V,rfl⟩:=ed hn;have ac:l[j]? =some l[j]:=aC V;obtain⟨_,_,c1,c2⟩:=aa j (by omega);have e:Jg l h.length j=l[j]:=by simp[Jg,ac]
   rw[e]at c1 c2;obtain⟨t1,t2⟩:=ai.tk j (by omega);rw[cj j _ ac]at t1 t2;rw[ba j _ ac]at t2;exact⟨by rw[c1];exact t1,λe=>by rw[c2];exact t2 (by rw[<-c1];exact e)⟩
  ·obtain⟨_,c1,c2⟩:=other id hn (by rw[H.len];exact Z);rw[c1,c2];exact⟨Int.le_refl _,λ_=>rfl⟩
  by_cases hn:id∈l
  ·obtain⟨j,V,rfl⟩:=ed hn;have ac:l[j]? =some l[j]:=aC V;obtain⟨_,_,c1,c2⟩:=aa j (by omega);have e:Jg l h.length j=l[j]:=by simp[Jg,ac]
   rw[e]at c1 c2;have:=ai.fm j (by omega);rw[ba j _ ac]at this;rw[c2];exact this
  obtain⟨_,c1,c2⟩:=other id hn (by rw[H.len];exact Z);rw[c2];exact .refl _
 have ak:∀k a v,VR A a v->VR R' (ren (Jg l h.length) k a) v:=λk a v hv=>Zu6 (R:=A) (R':=R') rfl (λj V=>aa j (by rw[H'.len];exact V)) am k hv;have aq:∀ {a:AV} {v:Value},PR A.w A.ok a v->PR R'.w R'.ok a v:=λh=>h.mono am (λ_ _ _ _ _ _=>rfl) (λ_ _ _ _ h=>h);have a9:∀ {j blk b},I[j]? =some blk->ZE A j blk b->R.w.heap.size<=b\/∃i y,l[j]? =some i/\h[i]? =some y/\ZE R i y b:=λV U=>by
  rcases hx.own _ _ _ V U with S|⟨bq,b9,S,Y,h3⟩
  ·rw[hw]at S;exact .inl S
  have ar:=(aE.1 S).1;rw[show(sel false l h).length=l.length from Zbl]at ar;have:bq=_:=h3.resolve_right (by omega);subst this;exact .inr (al S Y)
 refine⟨R',rfl,⟨bp,λ_ _ _=>Iff.rfl,λid x J=>?_,λi j bi bj b bh Z V U ah=>?_,H.cl,λb o n hb=>H.fresh b o n (cF be hb),λid x b J hk U o n=>?_,cF H.n0m ae.m⟩,?_,ae,ak⟩
 ·rcases aj J with⟨j,b',rfl,V,rfl,_⟩|⟨hn,Z,J⟩
  ·obtain⟨_,e1,e2,e3⟩:=aa j (aE.1 V).1;have hb:=H'.blk j b' V;cases b' with
   |cells cs=>
    obtain⟨arr,ty,S,Y,h3⟩:=hb;refine⟨arr,ty,by rw[e1];exact S,by rw[bA,e1];exact Y,λk c hk=>?_⟩;rw[aP,aG]at hk;obtain⟨c0,ao,rfl⟩:=hk;rw[e1];exact ak 5 _ _ (h3 k c0 ao)
   |arr s m f=>
    obtain⟨arr,ty,len,S,Y,h3,h4⟩:=hb;exact⟨arr,ty,len,by rw[e1];exact S,Y,by rw[e1];exact h3,λk hk=>⟨(h4 k hk).1,λq c hq=>by rw[e1];exact aq ((h4 k hk).2 q c hq)⟩⟩
   |tok s hw=>
    obtain⟨S,Y⟩:=hb;exact⟨e2.trans S,by rw[e3];exact Y⟩
   |gar s m f=>
    obtain⟨S,Y⟩:=hb;refine⟨e2.trans S,?_⟩;rw[e3];rcases Y with Y|⟨b,o,len,cg,arr,ty,g1,g2,g3,g4,g5,g6⟩
    ·exact .inl Y
    exact .inr ⟨b,o,len,cg,arr,ty,g1,g2,g3,g4,g5,λk hk=>⟨(g6 k hk).1,λq c hq=>aq ((g6 k hk).2 q c hq)⟩⟩
   |vgar s m f=>
    obtain⟨S,Y⟩:=hb;refine⟨e2.trans S,?_⟩;rw[e3];exact Y.cong rfl (λi _=>by simp) λi _ j c V=>by
     rw[aP,aG]at V;obtain⟨c0,ao,rfl⟩:=V;exact⟨c0,ao,λu hu=>ak 5 _ _ hu⟩
   |fam z s n m g=>
    obtain⟨hz,S,us,hv,Y,h3,h4⟩:=hb
    exact⟨by
     have e0:A.n0=l.length:=hx.n0.trans ca;show R.n0<=Jg l h.length z;have:l[z]? =none:=cD (by omega);have:=H.n0m;have:=H.len;simp only[Jg, *]
     omega,e2.trans S,us,e3.trans hv,Y,λi v hu=>(h3 i v hu).mono (λ_ _ h=>aq h) λ_ _=>rfl,h4⟩
   |fro s m f=>
    obtain⟨S,Y⟩:=hb;exact⟨e2.trans S,by rw[e3];exact aq Y⟩
   |mapB m=>
    obtain⟨es,c,S,Y⟩:=hb;exact⟨es,c,by rw[e1];exact S,Y⟩
   |gob g=>
    obtain⟨o,S,Y,h3⟩:=hb;exact⟨o,by rw[e1];exact S,Y,by rw[e1];exact h3.tr rfl am (ai.cx.trans bc).symm⟩
   |main=>exact(ai.cx.trans bc).symm.trans hb
   |loop s d=>
    obtain⟨q,S,Y,h3,h4,h5,h6,h7,h8⟩:=hb;refine⟨q,by rw[e1];exact S,Y,h3,h4,h5,h6,by rw[bA];exact h7,λk c hk=>?_⟩;rw[aP,aG]at hk;obtain⟨c0,ao,rfl⟩:=hk;exact ak 5 _ _ (h8 k c0 ao)
   |dead=>trivial
  obtain⟨c1,c2,c3⟩:=other id hn Z;exact(H.blk id x J).mono ae rfl c1 c2 c3 (λb U=>aw id x b hn J U)
 ·have one:∀ {id x},(back l h I)[id]? =some x->ZE R' id x b->(∃j y,I[j]? =some y/\ZE A j y b/\id=Jg l h.length j/\(j<l.length->l[j]? =some id)/\(l.length<=j->h.length<=id))\/(id∉l/\id<h.length/\h[id]? =some x/\ZE R id x b):=λ{id x} J U=>by
   rcases aj J with⟨j,b',rfl,V,rfl,hq⟩|⟨hn,Z,J⟩
   ·obtain⟨_,c1,_,c2⟩:=aa j (aE.1 V).1;exact .inl ⟨j,b',V,(Zep c1 c2).1 U,rfl,hq⟩
   obtain⟨c1,_,c2⟩:=other id hn Z;exact .inr ⟨hn,Z,J,(ZE.congr (R:=R) c1 c2).1 U⟩
  have bk:∀ {id:Nat} {x:Zi} {j:Nat} {y:Zi},id∉l->h[id]? =some x->ZE R id x b->I[j]? =some y->ZE A j y b->False:=λ{id x j y} hn J U V ah=>by
   rcases a9 V ah with S|⟨i,z,S,Y,h3⟩
   ·have:=H.phys_lt J U;omega
   exact H.dis i id z x b (λe=>hn (e▸aZ S)) Y J h3 U
  rcases one Z U with⟨j1,y1,a1,a2,a3,a4⟩|⟨a1,a2,a3,a4⟩<;>rcases one V ah with⟨j2,y2,b1,b2,b3,b4⟩|⟨b1,b2,b3,b4⟩
  ·exact H'.dis j1 j2 y1 y2 b (λe=>bh (by rw[a3,b3,e])) a1 b1 a2 b2
  ·exact bk b1 b3 b4 a1 a2
  ·exact bk a1 a3 a4 b1 b2
  exact H.dis i j bi bj b bh a3 b3 a4 b4
 ·rcases aj J with⟨j,b',rfl,V,rfl,_⟩|⟨hn,Z,J⟩
  ·obtain⟨_,c1,_,c2⟩:=aa j (aE.1 V).1;rw[Zo6]at hk;exact g2 _ _ _ (H'.tokG j b' b V hk ((Zep c1 c2).1 U) o n)
  obtain⟨c1,_,c2⟩:=other id hn Z;exact H.tokG id x b J hk ((ZE.congr (R:=R) c1 c2).1 U) o n
 refine⟨rfl,by rw[<-hw];exact hx.os,by rw[<-hw];exact hx.tape,by rw[<-hw];exact hx.output,be,ae.m,ae.α,ae.ok,ae.keep,λb hb hn=>?_,λid x b J U=>?_⟩
 ·show A.w.heap[b]? =_;rw[hx.frame b (by rw[hw];exact hb) (λj blk V U=>?_),hw];obtain⟨i,y,Z,hy,U⟩:=al V U;exact hn i y hy U
 rcases aj J with⟨j,b',rfl,V,rfl,hq⟩|⟨hn,Z,J⟩
 ·obtain⟨_,c1,_,c2⟩:=aa j (aE.1 V).1;rcases a9 V ((Zep c1 c2).1 U)with S|⟨i,y,S,Y,h3⟩
  ·exact .inl S
  have e:Jg l h.length j=i:=by simp[Jg,S]
  rw[e];exact .inr ⟨_,y,Y,h3,.inl rfl⟩
 obtain⟨c1,_,c2⟩:=other id hn Z;exact .inr ⟨_,x,J,(ZE.congr (R:=R) c1 c2).1 U,.inl rfl⟩
theorem SC.frame {p:Unit->Program} {f:FuncId} {xs:List AV} {h:List Zi} {I Q:AV->List Zi->Prop} (l:List Nat) (V:l.Nodup) (S:∀i∈l,i<h.length) (H:SC p f (xs.map (QE false l h 5)) (sel false l h) Q)
  (hq:∀r J,Q r J->I (ren (Jg l h.length) 5 r) (back l h J)):SC p f xs h I:=
 ⟨H.enter,λG R vs hr ha cs=>by
  obtain⟨A,U,a0,a1,a2,a3,a4,a5,a6,a7,a8⟩:=hr.sel (fz:=false) (ι:=l) (ZtD R h l) (λb o n k=>.inl k) (λb o n o' n' k h1 h2=>by
    rcases k with k|k|k
    ·exact .inl (hr.sub k h1 h2)
    ·exact .inr (.inl k)
    exact .inr (.inr k)) (λb o n Y=>.inr (.inl Y)) (λi blk b hi Y hk hp o n=>.inr (.inr ⟨i,blk,hi,Y,hk,hp⟩)) V S (λZ=>by cases Z) l.length (aJ _) (λZ=>by cases Z)
  have aa:Yf A (xs.map (QE false l h 5)) vs:=⟨by rw[bA];exact ha.1,λj c hj=>by
   rw[aP,aG]at hj;obtain⟨x,hx,rfl⟩:=hj
   exact a8 5 x _ (ha.2 j x hx)⟩
  obtain⟨v,R',r,h',b1,b3,b4,b5,b6,b7⟩:=H.run _ A vs a6 aa cs;rw[a1,U]at b1;obtain⟨ab,c1,c2,c3,c4,c5⟩:=ZgX hr V S U a0 a1 a2 a3 a4 a5 a7 b3 b4 b5
  exact⟨v,ab,_,_,by rw[c1];exact b1,c2,c3,c4,c5 5 r v b6,hq r h' b7⟩⟩
theorem SC.less {p:Unit->Program} {f:FuncId} {xs:List AV} {h:List Zi} {J:AV->List Zi->Prop} (H:SC p f xs h λr V=>∃A I,To [r] V [A] I/\J A I):SC p f xs h J:=
 ⟨H.enter,λG R vs hr ha cs=>by
  obtain⟨v,R',r,V,Z,b3,b4,b5,b6,A,I,U,b7⟩:=H.run G R vs hr ha cs
  obtain⟨Y,c1,c2,c3,c4,c5⟩:=U G R' #[v] b3 ⟨rfl,λi a S=>by
   cases i with
   |zero=>simp at S;subst S;exact b6
   |succ i=>simp at S⟩
  exact⟨v,Y,A,I,by rw[c1];exact Z,c2,b4.trans c3,b5.trans c4,c5.2 0 A rfl,b7⟩⟩
theorem SC.to {p:Unit->Program} {f:FuncId} {xs xs₂:List AV} {h h₂:List Zi} {A:AV->List Zi->Prop} (J:To xs h xs₂ h₂) (H:SC p f xs₂ h₂ A):SC p f xs h A:=
 ⟨H.enter,λG R S hr Y cs=>by
  obtain⟨R',a1,a2,a3,V,U⟩:=J G R S hr ⟨Y.1.symm,Y.2⟩;obtain⟨v,Z,r,h',I,b3,b4,b5,b6,b7⟩:=H.run G R' S a2 ⟨U.1.symm,U.2⟩ cs;rw[a1]at I
  exact⟨v,Z,r,h',Zq9 V I,b3,a3.trans b4,V.trans b5,b6,b7⟩⟩
section
variable {n k:Nat}
theorem ZC.refl (a:AV):ZC n k a a:=⟨λ_ _ _ h=>h⟩
theorem ZC.undef (a:AV):ZC n k a .undef:=⟨λ_ _ _ _=>.undef _⟩
theorem ZC.int {q:IntKind} {a b:Unit->Int} (h:a ()=b ()):ZC n k (.int q a) (.int q b):=⟨λR v _ hv=>by
 rw[hv.int_inv];exact VR.mkInt h.symm⟩
theorem ZC.bool {a b:Unit->Bool} (h:a ()=b ()):ZC n k (.bool a) (.bool b):=⟨λR v _ hv=>by
 rw[hv.bool_inv];exact VR.mkBool h.symm⟩
theorem ZC.gd {g:Unit->Bool} {a b:AV} (A:g ()=true) (h:ZC n k a b):ZC n k (.gd g a) b:=⟨λR v G hv=>h.f R v G (hv.gd_inv A)⟩
theorem PR.wk {w:World} {ok:Nat->Nat->Nat->Prop} {s:Nat} {m m':Unit->Int} {f V:(Unit->Int)->List AV} {tk G:Tk} {v:Value} (h:PR w ok (.isl s m f tk) v) (hm:m ()=m' ()) (S:∀i:Nat,(i:Int)<m ()->f (λ_=>(i:Int))=V (λ_=>(i:Int)))
  (J:G= .none\/G=tk):PR w ok (.isl s m' V G) v:=by
 cases h with
 |isl0 _ _ _ _ hz H=>exact .isl0 _ _ _ _ (by omega) (by rcases J with rfl|rfl;rfl;exact H)
 |islE _ _ _ _ a hz H=>exact .islE _ _ _ _ a (by omega) (by rcases J with rfl|rfl;exact .inl rfl;exact H)
 |isl _ _ _ _ b o len U Y hn hc H he hl Z h3 h4=>
  exact .isl _ _ _ _ b o len U Y (by omega) hc (by rcases J with rfl|rfl;exact .inl rfl;exact H) (λe=>by rcases J with rfl|rfl;cases e;exact he e)
   (λi I=>by rw[<-S i (by omega)];exact hl i I) (λi j c I A=>by rw[<-S i (by omega)]at A;exact Z i j c I A) (λi j c I A=>by rw[<-S i (by omega)]at A;exact h3 i j c I A) h4
theorem ZC.isl {s:Nat} {m m':Unit->Int} {f H:(Unit->Int)->List AV} {tk:Tk} (hm:m ()=m' ()) (A:∀i:Nat,(i:Int)<m ()->f (λ_=>(i:Int))=H (λ_=>(i:Int))):ZC n k (.isl s m f tk) (.isl s m' H tk):=⟨λR v _ hv=>by
 cases hv with
 |pure _ _ J=>exact .pure _ _ (J.wk hm A (.inr rfl))
 |nn _ _ _ _ G I=>exact .nn _ _ _ v (G.wk hm A (.inl rfl)) I
 |own _ _ _ id _ U G I S=>exact .own _ _ _ id v U (G.wk hm A (.inl rfl)) (by omega) (λe=>S (by omega))⟩
theorem ZC.none {s:Nat} {m m':Unit->Int} {f A:(Unit->Int)->List AV} {tk:Tk} (hm:m ()=m' ()) (G:∀i:Nat,(i:Int)<m ()->f (λ_=>(i:Int))=A (λ_=>(i:Int))):ZC n k (.isl s m f tk) (.isl s m' A .none):=⟨λR v _ hv=>.pure _ _ (hv.isl_inv.wk hm G (.inl rfl))⟩
theorem ZC.empty {s s':Nat} {m m':Unit->Int} {f H:(Unit->Int)->List AV} (hm:m' ()=0):ZC n k (.isl s m f .nil) (.isl s' m' H .none):=⟨λR v _ hv=>by
 cases hv with
 |pure _ _ G=>
  cases G with
  |isl0 _ _ _ _ V A=>exact .pure _ _ (.isl0 _ _ _ _ hm rfl)
  |islE _ _ _ _ _ _ A=>rcases A with h|h<;>cases h
  |isl _ _ _ _ b o len I J U S A=>rcases A with h|h<;>cases h⟩
theorem ZmW {R:RC} {s:Nat} {m:Unit->Int} {f:(Unit->Int)->List AV} {v:Value} (hv:VR R (.isl s m f .nil) v):v= .slice none 0 0:=by
 cases hv with
 |pure _ _ G=>
  cases G with
  |isl0 _ _ _ _ U A=>rfl
  |islE _ _ _ _ _ _ A=>rcases A with h|h<;>cases h
  |isl _ _ _ _ b o len H I S J A=>rcases A with h|h<;>cases h
theorem ZC.nilOwn {s s' id:Nat} {m m':Unit->Int} {f I:(Unit->Int)->List AV} (H:n<=id) (G:id<n+k) (hm:m' ()=0):ZC n k (.isl s m f .nil) (.isl s' m' I (.own id)):=⟨λR v S hv=>by
 obtain⟨A,U,J⟩:=S id H G;rw[ZmW hv]
 exact .own _ _ _ id _ A (.isl0 _ _ _ _ hm rfl) (by omega) (λ_=>J.symm)⟩
theorem ZC.nilGar {s id:Nat} {m m':Unit->Int} {f:(Unit->Int)->List AV} (H:n<=id) (G:id<n+k) (hm:m' ()=0):ZC n k (.isl s m f .nil) (.gsl id m'):=⟨λR v J hv=>by
 obtain⟨A,S,I⟩:=J id H G;rw[ZmW hv]
 exact .gsl id _ _ _ _ A (by omega) (λ_=>I.symm) ⟨hm,.inl rfl⟩⟩
theorem ZC.gsl {id:Nat} {m m':Unit->Int} (hm:m ()=m' ()):ZC n k (.gsl id m) (.gsl id m'):=⟨λR v _ hv=>by
 cases hv with
 |pure _ _ G=>cases G
 |gsl _ _ a l c H J I A=>exact .gsl id m' a l c H (by omega) (λe=>I (by omega)) ⟨by rw[<-hm];exact A.1,A.2⟩⟩
theorem Yz.refl:∀(cs:List AV),Yz n k cs cs
 |[]=>trivial
 |a::r=>Yz.mk (ZC.refl a) (Yz.refl r)
theorem ZC.agg {cs A:List AV} (h:Yz n k cs A):ZC n k (.agg cs) (.agg A):=⟨λR v U hv=>by
 obtain⟨G,rfl,I,hr⟩:=hv.agg_inv;exact .agg A G (by rw[<-h.len];exact I) λj c H=>by
  obtain⟨a,S,J⟩:=h.get H
  exact J.f R _ U (hr j a S)⟩
theorem ZC.tup {cs A:List AV} (h:Yz n k cs A):ZC n k (.tup cs) (.tup A):=⟨λR v U hv=>by
 obtain⟨G,rfl,I,hr⟩:=hv.tup_inv;exact .tup A G (by rw[<-h.len];exact I) λj c H=>by
  obtain⟨a,S,J⟩:=h.get H
  exact J.f R _ U (hr j a S)⟩
theorem ZC.fn {f:FuncId} {xs G A:List AV} (h:Yz n k G A):ZC n k (.fn f xs G) (.fn f xs A):=⟨λR v hN hv=>by
 cases hv with
 |pure _ _ H=>cases H
 |fn _ _ _ I J V Z Y U=>exact .fn f xs A I J V (by rw[<-h.len];exact Z) Y λj c S=>let ⟨a,e1,e2⟩:=h.get S;e2.f R _ hN (U j a e1)⟩
theorem ZM.refl (b:Zi):ZM n k b b:=⟨λ_ _ _ h=>h,λ_ _ _=>Iff.rfl,λ_ _ _ _ _=>Iff.rfl,rfl⟩
theorem ZM.cells {cs A:List AV} (h:Yz n k cs A):ZM n k (.cells cs) (.cells A):=⟨λR id U ⟨arr,ty,J,I,S⟩=>⟨arr,ty,J,by rw[<-h.len];exact I,λj c H=>by
  obtain⟨a,G,V⟩:=h.get H
  exact V.f R _ U (S j a G)⟩,λ_ _ _=>Iff.rfl,λ_ _ _ _ _=>Iff.rfl,rfl⟩
theorem ZM.tok {s:Nat} {a b:Unit->Int} (h:a ()=b ()):ZM n k (.tok s a) (.tok s b):=⟨λR id H ⟨A,G⟩=>⟨by rw[<-h];exact A,by rw[<-h];exact G⟩,λ_ _ _=>Iff.rfl,λ_ _ _ _ _=>Iff.rfl,rfl⟩
theorem ZM.gar {s:Nat} {m m':Unit->Int} {f G:(Unit->Int)->List AV} (hm:m ()=m' ()) (J:∀i:Nat,(i:Int)<m ()->f (λ_=>(i:Int))=G (λ_=>(i:Int))):ZM n k (.gar s m f) (.gar s m' G):=
 ⟨λR id hN ⟨Z,A⟩=>⟨by rw[<-hm];exact Z,by
  rw[<-hm];rcases A with A|⟨b,o,len,H,arr,ty,Y,U,g3,I,V,S⟩
  ·exact .inl A
  exact .inr ⟨b,o,len,H,arr,ty,Y,U,g3,I,V,λi hi=>by rw[<-J i (by omega)];exact S i hi⟩⟩,λ_ _ _=>Iff.rfl,λ_ _ _ _ _=>Iff.rfl,rfl⟩
theorem ZM.arr {s:Nat} {m m':Unit->Int} {f A:(Unit->Int)->List AV} (hm:m ()=m' ()) (G:∀i:Nat,(i:Int)<m ()->f (λ_=>(i:Int))=A (λ_=>(i:Int))):ZM n k (.arr s m f) (.arr s m' A):=
 ⟨λR id V ⟨arr,ty,len,J,H,S,I⟩=>⟨arr,ty,len,J,by rw[<-hm];exact H,S,λi U=>by rw[<-G i (by omega)];exact I i U⟩,λ_ _ _=>Iff.rfl,λ_ _ _ _ _=>Iff.rfl,rfl⟩
theorem ZM.map {m m':(Unit->Int)->Unit->Bool} (h:∀x:Int,m (λ_=>x) ()=m' (λ_=>x) ()):ZM n k (.mapB m) (.mapB m'):=
 ⟨λR id I ⟨es,c,G,A,H⟩=>⟨es,c,G,A,λx=>by rw[<-h];exact H x⟩,λ_ _ _=>Iff.rfl,λ_ _ _ _ _=>Iff.rfl,rfl⟩
end
def Zev {α:Type} (enc:α->List AV) (d:α) (l:List α):(Unit->Int)->List AV:=λe=>enc (l.getD (e ()).toNat d)
def lst {α:Type} (s:Nat) (enc:α->List AV) (d:α) (l:List α):AV:=.isl s (λ_=>(l.length:Int)) (Zev enc d l) .none
theorem Zn:∃A:(α:Type)->α->List α->Int->α,∀(α:Type) (d:α) (l:List α) (i:Int),A α d l i=l.getD i.toNat d:=⟨λ_ d l i=>l.getD i.toNat d,λ_ _ _ _=>rfl⟩
section
variable {nt:(α:Type)->α->List α->Int->α} {α:Type} {enc:α->List AV} {d:α} {l:List α}
theorem Za (O:∀(α:Type) (d:α) (l:List α) (i:Int),nt α d l i=l.getD i.toNat d) (s:Nat) (enc:α->List AV) (d:α) (l:List α):lst s enc d l= .isl s (λ_=>(l.length:Int)) (λe=>enc (nt α d l (e ()))) .none:=by
 unfold lst Zev;congr 1;funext e;rw[O]
theorem Zlx (O:∀(α:Type) (d:α) (l:List α) (i:Int),nt α d l i=l.getD i.toNat d) {l A:List α} (i:Nat):nt α d (l++A) (i:Int)=if i<l.length then nt α d l (i:Int)else nt α d A ((i-l.length:Nat):Int):=by
 rw[O,O,O];simp only[aW,aA];split
 ·rename_i h;rw[List.getElem?_append_left h]
 rename_i h;rw[List.getElem?_append_right (by omega)]
theorem QC (O:∀(α:Type) (d:α) (l:List α) (i:Int),nt α d l i=l.getD i.toNat d) {i:Nat} (hi:i<l.length):nt α d l (i:Int)∈l:=by
 rw[O,aW,aA,aC hi];exact List.getElem_mem hi
theorem Qs (O:∀(α:Type) (d:α) (l:List α) (i:Int),nt α d l i=l.getD i.toNat d) {i:Nat} (hi:i<l.length):l.drop i=nt α d l (i:Int)::l.drop (i+1):=by
 rw[O,aW,aA,aC hi,bY];exact List.drop_eq_getElem_cons hi
theorem Yb (O:∀(α:Type) (d:α) (l:List α) (i:Int),nt α d l i=l.getD i.toNat d) {i:Nat} (hi:i<l.length):l.take (i+1)=l.take i++[nt α d l (i:Int)]:=by
 rw[O,aW,aA,aC hi,bY];exact List.take_succ_eq_append_getElem hi
theorem ZmF (O:∀(α:Type) (d:α) (l:List α) (i:Int),nt α d l i=l.getD i.toNat d) {l:List α} {x:α} {n0:Unit->Int} {f g:(Unit->Int)->List AV} (I:n0 ()=(l.length:Int)) (G:f=λe=>enc (nt α d l (e ()))) (A:g (λ_=>0)=enc x):
  ∀i:Nat,(i:Int)<(l.length:Int)+1->Z2 n0 f g (λ_=>(i:Int))=enc (nt α d (l++[x]) (i:Int)):=λi H=>by
 subst G;rw[Zlx O];show(if(i:Int)<n0 ()then enc (nt α d l (i:Int))else g (λ_=>(i:Int)-n0 ()))=_;by_cases h:i<l.length
 ·rw[iQ (by omega),iQ h]
 rw[iP (by omega),iP h];have:i=l.length:=by omega
 subst this;have e:(λ_:Unit=>((l.length:Int)-n0 ()))=λ_=>0:=funext λ_=>by omega
 rw[e,A,O];simp
theorem ZC.snoc {n k:Nat} (O:∀(α:Type) (d:α) (l:List α) (i:Int),nt α d l i=l.getD i.toNat d) {s:Nat} {x:α} {n0 m':Unit->Int} {g:(Unit->Int)->List AV} {tk:Tk} (H:n0 ()=(l.length:Int)) (hm:m' ()=(l.length:Int)+1) (G:g (λ_=>0)=enc x):
  ZC n k (.isl s m' (Z2 n0 (λe=>enc (nt α d l (e ()))) g) tk) (.isl s (λ_=>((l++[x]).length:Int)) (λe=>enc (nt α d (l++[x]) (e ()))) tk):=
 .isl (by rw[hm];simp) λi A=>ZmF O H rfl G i (by rw[hm]at A;exact A)
theorem ZC.snocL {n k:Nat} (O:∀(α:Type) (d:α) (l:List α) (i:Int),nt α d l i=l.getD i.toNat d) {s:Nat} {x:α} {n0 m':Unit->Int} {g:(Unit->Int)->List AV} {tk:Tk} (H:n0 ()=(l.length:Int)) (hm:m' ()=(l.length:Int)+1) (G:g (λ_=>0)=enc x):
  ZC n k (.isl s m' (Z2 n0 (λe=>enc (nt α d l (e ()))) g) tk) (lst s enc d (l++[x])):=
 .none (by rw[hm];simp) λi A=>(ZmF O H rfl G i (by rw[hm]at A;exact A)).trans (by rw[O];rfl)
theorem ZC.lst {n k:Nat} (O:∀(α:Type) (d:α) (l:List α) (i:Int),nt α d l i=l.getD i.toNat d) {s:Nat} {m':Unit->Int} {tk:Tk} (hm:m' ()=(l.length:Int)):
  ZC n k (.isl s m' (λe=>enc (nt α d l (e ()))) tk) (lst s enc d l):=
 .none hm λi A=>by show enc (nt α d l _)=enc (l.getD _ d);rw[O]
end
end Vm
namespace Vm
open Go Conc1
def Zrp (e:AV->AV->Bool):List AV->List AV->Bool
 |[],[]=>true
 |a::r,b::s=>(match e a b with
  |true=>Zrp e r s
  |false=>false)
 |_,_=>false
def Zxx:Tk->Tk->Bool
 |.none,.none|.nil,.nil|.exact,.exact|.nil,.none|.exact,.none=>true
 |_,_=>false
def Zqg (e:AV->AV->Bool) (f g:(Unit->Int)->List AV):Nat->Bool
 |0=>true
 |k+1=>(match Zrp e (f λ_=>(k:Int)) (g λ_=>(k:Int))with
  |true=>Zqg e f g k
  |false=>false)
def eqP:Nat->AV->AV->Bool
 |_+1,.int q f,.int q' g=>Jl q q'&&decide (f ()=g ())
 |_+1,.bool f,.bool g=>f ()==g ()
 |_+1,.nilptr,.nilptr=>true
 |_+1,.nilmap,.nilmap=>true
 |_+1,.nilfn,.nilfn=>true
 |_+1,.str s,.str s'=>decide (s ()=s' ())
 |k+1,.isl s n f tk,.isl s' n' f' tk'=>ZK s s'&&Zxx tk tk'&&decide (n ()=n' ())&&Zqg (eqP k) f f' (n ()).toNat
 |k+1,.iptr cs o,.iptr cs' o'=>ZK o o'&&Zrp (eqP k) cs cs'
 |_,_,_=>false
def Ztc:Nat->AV->AV->Bool
 |k+1,.agg cs,.agg cs'=>Zrp (Ztc k) cs cs'
 |k+1,.tup cs,.tup cs'=>Zrp (Ztc k) cs cs'
 |_+1,.ptr a b,.ptr c d=>ZK a c&&ZK b d
 |_+1,.gsl a n,.gsl b m=>ZK a b&&decide (n ()=m ())
 |_+1,.map a,.map b=>ZK a b
 |_+1,.yld a,.yld b=>ZK a b
 |k+1,.isl s n f (.own id),.isl s' n' f' (.own id')=>ZK id id'&&decide (n ()=n' ())&&eqP k (.isl s n f .none) (.isl s' n' f' .none)
 |_+1,_,.undef=>true
 |k+1,.gd g a,.gd g' b=>(match g' ()with
  |false=>true
  |true=>g ()&&Ztc k a b)
 |k+1,a,b=>eqP k a b
 |0,_,_=>false
def Cn.b:Cn->Bool
 |.d _ b _=>b ()
 |.e v w=>Ztc 8 (v ()) (w ())
 |.i g x=>(match g ()with
  |true=>x.b
  |false=>true)
theorem CB.to {p:Unit->Program} {x:Code} {Q:Ex->List AV->List Zi->Prop} {s s₂:List AV} {h h₂:List Zi} (I:To s h s₂ h₂) (H:CB p x Q s₂ h₂):CB p x Q s h:=⟨λA G=>CI.to I (H.run A G)⟩
section
variable {p:Unit->Program}
end
end Vm
end Go.Proofs.YtjgpiclllehgmaaGreat
