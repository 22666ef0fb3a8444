/- Lemmas. -/
import Derived.RangeFuncIn
import Derived.RangeFuncRecord
import Derived.Test.YtjgpiclllehgmaaGreatMD
set_option linter.all false
open Array renaming getElem?_eq_some_iff->aM,getElem?_push->bK
open Int renaming toNat_natCast->aV
open List renaming getD_eq_getElem?_getD->aA,getElem?_eq_getElem->aD,getElem?_eq_none->cD,getElem?_eq_some_iff->aE,getElem?_map->aO,getElem_of_mem->ed,length_map->bA,length_set->cA,mem_cons->bG,mem_of_getElem?->aZ,nodup_cons->ee,range->aR
open Nat renaming le_refl->aJ,le_trans->cF
open Option renaming getD_some->bY,map_eq_some_iff->aG
open Option.some renaming injEq->aC
namespace Go.Proofs.YtjgpiclllehgmaaGreat
namespace Vm
open Go Conc1
def ZeZ:List Tmp->List AV->List AV->List AV
 |t::ps,v::vs,s=>ZeZ ps vs (s.set t v)
 |_,_,s=>s
def Zkf (n id:Nat) (j:Option Code) (A:AV->List Zh->Prop) (h:List Zh):Prop:=match h[id]? with
 |some (.loop s d)=>A (.bool fun _=>j.isNone) (sel true (aR n) (h.set id (.loop s {d with st:=if j.isNone then .ready else .done,pe:=j})))
 |_=>False
def ZsT (n id:Nat) (A:AV->List Zh->Prop) (e:Ex) (_:List AV) (h:List Zh) (c:Cd):Prop:=match e with
 |.normal=>chk c (Zkf n id none A h)
 |.exit i=>chk c (Zkf n id (some (.exit i)) A h)
 |.ret=>chk c (Zkf n id (some .ret) A h)
def Zvo (D:List AV->List Zh->Prop) (id:Nat) (e:Ex) (s:List AV) (h:List Zh) (c:Cd):Prop:=match e with
 |.normal=>chk c (match h[id]? with
  |some (.loop s' d)=>(match d.st with
   |.ready=>D s (h.set id (.loop s' {d with st:=.busy}))
   |_=>False)
  |_=>False)
 |_=>False
section
variable {T:Tb} {p:Unit->Program} {P:Program}
theorem ZjD {R:RC}:∀(ps:List Tmp) (G:List AV) (A:List Value) {s:List AV} {t:Array Value},G.length=A.length->(∀j c,G[j]? =some c->VR R c (A.getD j undef))->SL R s t->SL R (ZeZ ps G s) ((ps.zip A).foldl (fun t (a,v)=>t.setIfInBounds a v) t)
 |[],G,A,s,t,_,_,hs=>by simpa [ZeZ]using hs
 |_::_,[],A,s,t,hl,_,hs=>by
  have:A=[]:=List.eq_nil_of_length_eq_zero (by simpa using hl.symm);subst this;simpa [ZeZ]using hs
 |a::ps,x::G,[],s,t,hl,_,hs=>by simp at hl
 |a::ps,x::G,u::A,s,t,hl,hx,hs=>by
  simp only[List.zip_cons_cons,List.foldl_cons,ZeZ];exact ZjD ps G A (by simpa using hl) (fun j c H=>by simpa using hx (j+1) c (by simpa using H)) (hs.set (by simpa using hx 0 x rfl) a)
theorem HR.loopSet {G:Nat->Nat->Nat->Prop} {R:RC} {h:List Zh} (H:HR G R h) {id:Nat} {s:List AV} {d:Zh6} (hi:h[id]? =some (.loop s d)):
  ∃l,R.w.heap[(R.α id).b]? =some (.loop l)/\l.params=d.ps/\l.assign=d.a/\l.body=d.x/\l.state=d.st/\l.pending=d.pe/\SL R s l.tmps/\∀(st:LoopState) (pe:Option Code),
   ∃A,A.w=R.w.putObj (R.α id).b (.loop {l with state:=st,pending:=pe})/\A.α=R.α/\HR G A (h.set id (.loop s {d with st,pe}))/\Xd R h A (h.set id (.loop s {d with st,pe}))/\R.le A:=by
 obtain⟨l,h1,V,Z,J,h5,h6,Y⟩:=H.blk id _ hi;refine⟨l,h1,V,Z,J,h5,h6,Y,fun st pe=>?_⟩;have U:(R.α id).b<R.w.heap.size:=(aM.1 h1).1;obtain⟨A,a1,a2,a3,a4,a5,a6⟩:=H.upd hi rfl (blk':=.loop s {d with st,pe}) rfl (R.w.putObj (R.α id).b (.loop {l with state:=st,pending:=pe})) rfl rfl rfl World.putObj_size (fun b hb=>World.putObj_heap_other hb)
  (fun A I S hw=>⟨{l with state:=st,pending:=pe},by rw[S,hw];exact World.putObj_heap_same U,V,Z,J,rfl,rfl,Y.mono I⟩)
 exact⟨A,a1,a3,a4,a5,a6⟩
theorem YC.ofN {p:Unit->Program} {id:Nat} {xs:List AV} {h:List Zh} {V:AV->List Zh->Prop} (hz:zOk h=true)
  (H:∀(G:Nat->Nat->Nat->Prop) (R:RC) (vs:Array Value),HR G R h->R.n0=h.length->X0 R xs vs->∃f J a x,(Instr.yield (R.α id).b vs).run (p ()) R.w= .ok (.round (R.α id).b f J a x) R.w/\
   ∀(c:Frame) (cs:List Frame),∃v A r Y,Steps (p ()) R.cx (ZH (Frame.round (R.α id).b f J a x .normal) (c::cs) R.w) (ZH (c.finish v) cs A.w)/\HR G A Y/\Xd R h A Y/\R.le A/\VR A r v/\V r Y):YC p id xs h V:=
 ⟨fun G R vs hr ha=>by
  have ac:∀(id z s:Nat) (N:Unit->Int) (m:(Unit->Int)->Unit->Int) (g:(Unit->Int)->(Unit->Int)->List AV),h[id]? =some (Zh.fam z s N m g)->h.length<=z:=fun id z s N m g Z=>by
   simp only[zOk,List.all_eq_true]at hz;exact QT (hz _ (aZ Z))
  have ab:=hr.setN0 h.length (by rw[hr.len];exact aJ _) ac;obtain⟨f,J,a,x,c1,c2⟩:=H G _ vs ab rfl ⟨ha.1,fun j c hj=>(ha.2 j c hj).mono (.setN0 R _)⟩;refine⟨f,J,a,x,c1,fun c cs=>?_⟩;obtain⟨v,A,r,Y,b1,b3,I,S,b6,b7⟩:=c2 c cs;have e0:A.n0=h.length:=I.n0;have aa:R.n0<=h.length:=by rw[hr.len];exact hr.n0m
  refine⟨v,{A with n0:=R.n0},r,Y,b1,b3.setN0 R.n0 (cF aa (e0▸b3.n0m)) (fun id z s N m g Z=>cF aa (e0▸(b3.blk id _ Z).1)),⟨rfl,I.os,I.tape,I.output,I.size,I.m,I.α,I.ok,I.keep,I.frame,fun id x b Z hp=>?_⟩,⟨S.m,S.α,S.tk,S.fm,S.ok,S.keep,S.keepM,S.cx⟩,b6.mono (.setN0 A _),b7⟩;rcases I.own id x b Z ((Zz.congr (R:=A) (R':={A with n0:=R.n0}) rfl rfl).1 hp)with h1|⟨i,y,h1,h2,U⟩
  ·exact .inl h1
  refine .inr ⟨i,y,h1,h2,.inl ?_⟩;have:=(aE.1 h1).1;rcases U with U|U
  ·exact U
  have U:h.length<=i:=U
  omega⟩
def Zai (Q:Ex->List AV->List Zh->Prop) (s:List AV) (m:Nat) (h:List Zh):Prop:=match h[m]? with
 |some (.loop s' d)=>(match d.st with
  |.busy=>False
  |_=>(match d.pe with
   |none=>Q .normal s (sel true (aR m) (h.set m (.loop s' {d with st:=.exhausted})))
   |some (.exit i)=>Q (.exit i) s (sel true (aR m) (h.set m (.loop s' {d with st:=.exhausted})))
   |some .ret=>Q .ret s (sel true (aR m) (h.set m (.loop s' {d with st:=.exhausted})))
   |_=>False))
 |_=>False
theorem CB.of {f:Operand} {ps:Array Tmp} {a x:Code} {Q:Ex->List AV->List Zh->Prop} {s:List AV} {h:List Zh} {fid:FuncId} {first cap:List AV} (hf:strip (ev s f)= .fn fid first cap) (hc:ZT (Zas (ev s f)))
  (H:SC p fid (first++[.yld h.length]++cap) (h++[.loop s ⟨ps,a,x,.ready,none⟩]) fun _ h'=>Zai Q s h.length h'):CB p (.rangeFunc f ps a x) Q s h:=by
 refine⟨fun V Z R t hi hs b I k cs hd=>?_⟩;have ab:b.1.roundOf=none:=b.2 rfl;have S:R.m=h.length:=hi.hr.len.symm;obtain⟨R1,w1,m1,bw,_,_,H1,x1,l1,_⟩:=hi.hr.make (.deferred (some []));obtain⟨U,w2,m2,a9,H2,x2,l2⟩:=H1.alloc (.loop s ⟨ps,a,x,.ready,none⟩) (.loop {state:=.ready,pending:=none,fn:=b.1.fn,tmps:=t,params:=ps,assign:=a,body:=x,defers:=R.w.heap.size})
  (fun R'=>⟨rfl,fun b hp=>hp.symm,fun b o n=>Iff.rfl⟩) (fun R' az bh hh=>⟨_,by rw[bh];exact hh,rfl,rfl,rfl,rfl,rfl,(hs.mono l1).mono az⟩)
 have au:R1.w.heap.size=R.w.heap.size+1:=by rw[w1];simp
 have ah:(U.α h.length).b=R.w.heap.size+1:=by rw[<-S,<-m1,a9,<-au]
 have ai:(Instr.enterLoop b.1.fn t ps a x b.1.roundOf).run (p ()) R.w= .ok (R.w.heap.size+1,[{target:=.collected R.w.heap.size,args:= #[]}]) U.w:=by
  rw[ab,run_enterLoop_outer,w2,w1];rfl
 have bp:SL U s t:=(hs.mono l1).mono l2;have ac:VR U (.fn fid first cap) (QH t f):=by
  rw[<-hf];exact(bp.ev f).strip hc
 obtain⟨vs,ao,ar⟩:=Zjz (P:=p ()) (o:={dst:=none,op:=.call (rangeCall f (R.w.heap.size+1)),type:=0,pos:= "",after:= #[],guard:=none}) (f:=f) rfl ac
  (fun y hy=>⟨.undef,.undef _⟩) U.w H.enter [.yld h.length] rfl (fun j c hj=>by
   cases j with
   |zero=>
    simp only[List.getElem?_cons_zero,aC]at hj;subst hj;have:VR U (.yld h.length) (.func (.yield (U.α h.length).b) #[] #[]):=.yld _ (by rw[m2,m1,S];omega);rw[ah]at this;simpa [QH]using this
   |succ j=>simp at hj)
 have ap:Z.length<=h.length:=by rw[hi.len,<-S];exact hi.le.m
 have bk:∀l K,Zv (p ()) K (do let d<-resolve (QH t) (rangeCall f l) 0;invoke d.target d.args):=fun l K=>by
  obtain⟨fn,c,e1,e2,e3⟩:=H.enter;have aj:∃us vs:Array Value,QH t f= .func (.func fid) us vs:=by
   generalize QH t f=u at ac;cases ac with
   |pure _ _ hp=>cases hp
   |fn _ _ _ us vs _ _ _ _=>exact⟨us,vs,rfl⟩
  obtain⟨us,vs,aj⟩:=aj;exact Zgl aj e1 e2 e3
 have bl:=Zii (cx:=R.cx) (P:=p ()) (b:=b.1) (t:=t) (ds:=I) (k:=k) (cs:=cs) (g:=f) (ps:=ps) (a:=a) (x:=x) ab ai bk ao;obtain⟨v,R3,r,h3,J,H3,x3,l3,bu,A⟩:=H.run _ U vs H2 ar (mkF b.1 t ([{target:=.collected R.w.heap.size,args:= #[]}]++I) (.inRangeFunc (R.w.heap.size+1)::k)::cs);have J:=J.call;have am:(mkF b.1 t ([{target:=.collected R.w.heap.size,args:= #[]}]++I) (.inRangeFunc (R.w.heap.size+1)::k)).finish v=mkF b.1 t ([{target:=.collected R.w.heap.size,args:= #[]}]++I) (.endRangeFunc (R.w.heap.size+1)::k):=by
  simp[Frame.finish,mkF]
 rw[am]at J;unfold Zai at A;split at A;case h_2=>exact A.elim
 rename_i s' d' bo;obtain⟨q,q1,q2,q3,q4,q5,q6,q7,q8⟩:=H3.loopSet bo;obtain⟨R4,w4,bt,H4,x4,l4⟩:=q8 .exhausted d'.pe;have aq:(R3.α h.length).b=R.w.heap.size+1:=by rw[l3.α h.length (by rw[m2,m1,S];omega)];exact ah
 have bc:d'.st≠ .busy:=fun e=>by rw[e]at A;exact A
 have al:(Instr.endLoop (R.w.heap.size+1)).run (p ()) R3.w= .ok d'.pe R4.w:=by
  rw[w4,<-aq,<-q6];exact run_endLoop q1 (by rw[q5];exact bc)
 have ba:=Zfi (cx:=R.cx) (P:=p ()) (b:=b.1) (t:=t) (ds:=[{target:=.collected R.w.heap.size,args:= #[]}]++I) (k:=k) (cs:=cs) al;have i4:Inv V Z R4 (h3.set h.length (.loop s' {d' with st:=.exhausted})):=(((hi.step H1 x1 l1).step H2 x2 l2).step H3 x3 l3).step H4 x4 l4;obtain⟨R5,w5,i5,x5,l5,_⟩:=i4.trim (((x1.trans x2).trans x3).trans x4) (((l1.trans l2).trans l3).trans l4) S.symm ap (by rw[<-S];exact hi.hr.n0m);have G:Steps (p ()) R.cx (ZH (mkF b.1 t I (.code (.rangeFunc f ps a x)::k)) cs R.w) (ZH (mkF b.1 t ([{target:=.collected R.w.heap.size,args:= #[]}]++I) ((d'.pe.map Item.code).toList++k)) cs R5.w):=by
  rw[w5];exact .head bl (Steps.trans (Ys (l1.trans l2) J) (.one ba))
 have aw:Zd0 b.1.base V.w.heap.size R5.w ([{target:=.collected R.w.heap.size,args:= #[]}]++I):=by
  rw[w5];refine Zd0.ext H3 x4 (Zd0.ext H2 x3 ?_);obtain⟨rs,rfl,bg,ak⟩:=hd;refine⟨R.w.heap.size::rs,rfl,ee.2 ⟨fun hm=>?_,bg⟩,fun r hr=>?_⟩
  ·have:=(aM.1 (ak _ hm).2).1;omega
  have aa:∀r,r<R.w.heap.size+1->U.w.heap[r]? =(R.w.heap.push (.deferred (some [])))[r]? :=fun r hr=>by
   rw[w2,w1];show((R.w.heap.push _).push _)[r]? =_;rw[bK,if_neg (by simp;omega)]
  rcases bG.1 hr with rfl|hr
  ·refine⟨hi.ext.size,?_⟩;rw[aa _ (by omega)];simp
  have h1:=ak r hr;have bq:=(aM.1 h1.2).1;refine⟨h1.1,?_⟩;rw[aa _ (by omega),bK,if_neg (by omega)];exact h1.2
 have out:∀e,Q e s (sel true (aR h.length) (h3.set h.length (.loop s' {d' with st:=.exhausted})))->Arr (p ()) R.cx (ZH (mkF b.1 t I ([.code (.rangeFunc f ps a x)]++k)) cs R.w) b.1 k cs t ([{target:=.collected R.w.heap.size,args:= #[]}]++I) R5.w e->
   ∃e s' h' R' t' ae,Q e s' h'/\Inv V Z R' h'/\SL R' s' t'/\Zd0 b.1.base V.w.heap.size R'.w ae/\(b.1.roundOf≠none->ae=I)/\Arr (p ()) R.cx (ZH (mkF b.1 t I ([.code (.rangeFunc f ps a x)]++k)) cs R.w) b.1 k cs t' ae R'.w e:=
  fun e hq hA=>⟨e,s,_,R5,t,_,hq,i5,hs.mono l5,aw,fun bm=>absurd ab bm,hA⟩
 split at A
 ·exact A.elim
 split at A
 ·rename_i Y;rw[Y]at G;exact out .normal A G
 ·rename_i i Y;rw[Y]at G;exact out (.exit i) A ⟨[],fun _=>rfl,G⟩
 ·rename_i Y;rw[Y]at G;exact out .ret A ⟨_,G⟩
 exact A.elim
end
end Vm
namespace Vm
open Go Conc1
def Y7 (l:List Nat) (m j:Nat):Nat:=match l[j]? with
 |some i=>i
 |none=>m+(j-l.length)
def ren (A:Nat->Nat):Nat->AV->AV
 |0,_=>.undef
 |k+1,a=>(match a with
  |.ptr id G=>.ptr (A id) G
  |.aptr id s e G=>.aptr (A id) s e G
  |.msl id s lo m c=>.msl (A id) s lo m c
  |.gsl id m=>.gsl (A id) m
  |.gptr id s m e G=>.gptr (A id) s m e G
  |.nsub id e l=>.nsub (A id) e l
  |.nptr id s e q G=>.nptr (A id) s e q G
  |.lit s cs=>.lit s (cs.map (ren A k))
  |.map id=>.map (A id)
  |.mit id=>.mit (A id)
  |.yld id=>.yld (A id)
  |.isl s m f (.own id)=>.isl s m f (.own (A id))
  |.fn f H I=>.fn f (H.map (ren A k)) (I.map (ren A k))
  |.agg cs=>.agg (cs.map (ren A k))
  |.tup cs=>.tup (cs.map (ren A k))
  |.gd g v=>.gd g (ren A k v)
  |a=>a)
def Xp (A:Nat->Nat):Zh->Zh
 |.cells cs=>.cells (cs.map (ren A 5))
 |.loop s d=>.loop (s.map (ren A 5)) d
 |.vgar s n f=>.vgar s n fun e=>(f e).map (ren A 5)
 |.fam z s n m g=>.fam (A z) s n m g
 |b=>b
def Zcm (A:Nat->Nat):List Nat->List Zh->List Zh->List Zh
 |i::r,b::s,h=>Zcm A r s (h.set i (Xp A b))
 |[],s,h=>h++s.map (Xp A)
 |_::_,[],h=>h
def back (l:List Nat) (h h₂:List Zh):List Zh:=Zcm (Y7 l h.length) l h₂ h
theorem Zc1 {G:Nat->Nat}:∀ {l:List Nat} {A h:List Zh},l.length<=A.length->(Zcm G l A h).length=h.length+(A.length-l.length)
 |[],s,h,_=>by simp[Zcm]
 |i::r,[],h,hl=>by simp at hl
 |i::r,b::s,h,hl=>by
  simp only[Zcm];rw[Zc1 (by simpa using hl)];simp
theorem ZgY {S:Nat->Nat}:∀ {l:List Nat} {G h:List Zh} {id:Nat} {x:Zh},l.length<=G.length->l.Nodup->(∀i∈l,i<h.length)->(Zcm S l G h)[id]? =some x->
  (∃(j:Nat) (b:Zh),l[j]? =some id/\G[j]? =some b/\x=Xp S b)\/(id∉l/\id<h.length/\h[id]? =some x)\/(h.length<=id/\∃b,G[l.length+(id-h.length)]? =some b/\x=Xp S b)
 |[],s,h,id,x,_,_,_,hx=>by
  simp only[Zcm]at hx;rw[List.getElem?_append]at hx;split at hx
  ·rename_i I;exact .inr (.inl ⟨by simp,I,hx⟩)
  rename_i aa;rw[aO,aG]at hx;obtain⟨b,V,rfl⟩:=hx;exact .inr (.inr ⟨by omega,b,by simpa using V,rfl⟩)
 |i::r,[],h,id,x,hl,_,_,_=>by simp at hl
 |i::r,b::s,h,id,x,hl,hn,I,hx=>by
  simp only[Zcm]at hx;rw[ee]at hn;have Y:=I i (List.mem_cons_self ..);rcases ZgY (by simpa using hl) hn.2 (fun j Z=>by rw[cA];exact I j (List.mem_cons_of_mem _ Z)) hx with⟨j,U,J,H,A⟩|⟨J,H,A⟩|⟨J,U,H,A⟩
  ·exact .inl ⟨j+1,U,by simpa using J,by simpa using H,A⟩
  ·rw[cA]at H;rw[List.getElem?_set]at A;by_cases e:i=id
   ·subst e;rw[if_pos rfl,if_pos Y]at A;simp only[aC]at A;exact .inl ⟨0,b,rfl,rfl,A.symm⟩
   rw[if_neg e]at A;exact .inr (.inl ⟨fun hm=>by rcases bG.1 hm with h|h;exact e h.symm;exact J h,H,A⟩)
  rw[cA]at J H;refine .inr (.inr ⟨J,U,?_,A⟩);rw[List.length_cons,show r.length+1+(id-h.length)=r.length+(id-h.length)+1 from by omega];simpa using H
theorem Zec {R R':RC} {H:Nat->Nat} {i j:Nat} (A:R'.α j=R.α i) (G:R'.hv j=R.hv i) {blk:Zh} {b:Nat}:Zz R' j (Xp H blk) b↔Zz R i blk b:=by
 cases blk with
 |gob g=>cases g<;>simp only[Xp,Zz,A]
 |_=>simp only[Xp,Zz,A,G]
theorem Zl2 {R R':RC} {H:Nat->Nat} {i j:Nat} (A:R'.α j=R.α i) (G:R'.hv j=R.hv i) {blk:Zh} {b o m:Nat}:Qe R' j (Xp H blk) b o m↔Qe R i blk b o m:=by
 cases blk with
 |gob g=>cases g<;>simp only[Xp,Qe,Zz,A]
 |_=>simp only[Xp,Qe,Zz,A,G]
theorem ZoL {A:Nat->Nat} {blk:Zh}:Zar (Xp A blk)=Zar blk:=by
 cases blk with
 |gob g=>cases g<;>rfl
 |_=>rfl
theorem ZuN {R R':RC} {φ:Nat->Nat} (hw:R'.w=R.w) (I:∀j,j<R.m->φ j<R'.m/\R'.α (φ j)=R.α j/\R'.hw (φ j)=R.hw j/\R'.hv (φ j)=R.hv j) (ah:∀b o n,R.ok b o n->R'.ok b o n):∀(k:Nat) {a:AV} {v:Value},VR R a v->VR R' (ren φ k a) v:=by
 have aa:∀ {a:AV} {v:Value},PR R.w R.ok a v->PR R'.w R'.ok a v:=fun h=>h.mono ah (fun _ _ _ _ _ _=>by rw[hw]) (fun _ _ _ _ h=>by rw[hw];exact h);intro k;induction k with
 |zero=>exact fun _=>.undef _
 |succ k ih=>
  intro a v hv;cases hv with
  |pure _ _ hp=>
   cases hp with
   |isl0 s m f tk h0 Z=>cases tk with
    |own id=>cases Z
    |nn=>cases Z
    |_=>exact .pure _ _ (.isl0 _ _ _ _ h0 Z)
   |islE s m f tk a h0 Z=>cases tk with
    |own id=>exact absurd Z (fun h=>by cases h<;>contradiction)
    |nn=>exact absurd Z (fun h=>by cases h<;>contradiction)
    |_=>exact .pure _ _ (.islE _ _ _ _ a h0 Z)
   |isl s m f tk b o len ae U hn hc Z Y hl G A S=>cases tk with
    |own id=>exact absurd Z (fun h=>by cases h<;>contradiction)
    |nn=>exact absurd Z (fun h=>by cases h<;>contradiction)
    |_=>exact .pure _ _ (aa (.isl _ _ _ _ b o len ae U hn hc Z Y hl G A S))
   |iptr cs V b o U G A S=>exact .pure _ _ (aa (.iptr cs V b o U G A S))
   |bool b=>exact .pure _ _ (.bool b)
   |int k n=>exact .pure _ _ (.int k n)
   |str s=>exact .pure _ _ (.str s)
   |cch c=>exact .pure _ _ (.cch c)
   |imap ka n L b es aj G A S=>exact .pure _ _ (aa (.imap ka n L b es aj G A S))
   |imap0 ka n L h=>exact .pure _ _ (.imap0 ka n L h)
   |nilptr=>exact .pure _ _ .nilptr
   |nilmap=>exact .pure _ _ .nilmap
   |nilfn=>exact .pure _ _ .nilfn
  |undef=>exact .undef _
  |ptr id V H=>
   obtain⟨G,A,_,_⟩:=I id H;simp only[ren];rw[<-A];exact .ptr _ V G
  |nn s m f _ hp hv=>exact .nn s m f v (aa hp) hv
  |own s m f id _ H hp hn Y=>
   obtain⟨G,_,A,S⟩:=I id H;exact .own s m f _ v G (aa hp) (by rw[A];exact hn) (by rw[A,S];exact Y)
  |aptr id s e V i H Y=>
   obtain⟨G,A,_,_⟩:=I id H;simp only[ren];rw[<-A];exact .aptr _ s e V i G Y
  |msl id s lo m c i len ae H ak hn hc ai=>
   obtain⟨G,A,_,_⟩:=I id H;simp only[ren];rw[<-A];exact .msl _ s lo m c i len ae G ak hn hc ai
  |gsl id m a l c H hn Y hl=>
   obtain⟨G,_,A,S⟩:=I id H;exact .gsl _ m a l c G (by rw[A];exact hn) (by rw[A,S];exact Y) hl
  |gptr id s m e V a H hn Y=>
   obtain⟨G,_,A,S⟩:=I id H;exact .gptr _ s m e V a G (by rw[A];exact hn) (by rw[A,S];exact Y)
  |nsub id e l a ll c U i H ac Y hu hl=>
   obtain⟨G,_,_,S⟩:=I id H;exact .nsub _ e l a ll c U i G (S.trans ac) Y hu hl
  |nptr id s e q V U i b o l c j H ac Y hu hk=>
   obtain⟨G,_,_,S⟩:=I id H;exact .nptr _ s e q V U i b o l c j G (S.trans ac) Y hu hk
  |lit s cs b o U hs G A S=>
   refine .lit s _ b o U (by rw[bA];exact hs) (fun j c J=>?_) (fun j c J=>?_) (ah _ _ _ S)
   ·rw[aO,aG]at J;obtain⟨c0,ab,rfl⟩:=J;rw[hw];exact G j c0 ab
   rw[aO,aG]at J;obtain⟨c0,ab,rfl⟩:=J;exact ih (A j c0 ab)
  |map id H=>
   obtain⟨G,A,_,_⟩:=I id H;simp only[ren];rw[<-A];exact .map _ G
  |mit id H h0=>
   obtain⟨G,A,_,_⟩:=I id H;simp only[ren];rw[<-A];exact .mit _ G (by rw[A];exact h0)
  |yld id H=>
   obtain⟨G,A,_,_⟩:=I id H;simp only[ren];rw[<-A];exact .yld _ G
  |fn f xs bs U vs ha hb G A=>
   refine .fn f _ _ U vs (by simpa using ha) (by simpa using hb) (fun j c J=>?_) (fun j c J=>?_)
   ·rw[aO,aG]at J;obtain⟨x,hx,rfl⟩:=J;exact ih (G j x hx)
   rw[aO,aG]at J;obtain⟨x,hx,rfl⟩:=J;exact ih (A j x hx)
  |agg cs U ha h=>
   refine .agg _ U (by simpa using ha) (fun j c J=>?_);rw[aO,aG]at J;obtain⟨x,hx,rfl⟩:=J;exact ih (h j x hx)
  |tup cs U ha h=>
   refine .tup _ U (by simpa using ha) (fun j c J=>?_);rw[aO,aG]at J;obtain⟨x,hx,rfl⟩:=J;exact ih (h j x hx)
  |gd g a _ h=>exact .gd g _ _ fun hg=>ih (h hg)
  |ob g b _ G A=>exact .ob g b _ G A
def Ztg (R:RC) (h:List Zh) (l:List Nat):Nat->Nat->Nat->Prop:=fun b o n=>R.ok b o n\/R.w.heap.size<=b\/∃i blk,i∈l/\h[i]? =some blk/\Zar blk=true/\Zz R i blk b
theorem JO {R:RC} {id:Nat} {blk:Zh} {b o n:Nat} (h:¬Zz R id blk b):Qe R id blk b o n:=by
 cases blk with
 |tok s hw=>exact fun a len A hv G H=>absurd ⟨a,len,A,hv,G,H⟩ h
 |_=>exact h
theorem ZgK {G:Nat->Nat->Nat->Prop} {R ab A:RC} {h I:List Zh} {l:List Nat} (H:HR G R h) (bh:l.Nodup) (ap:∀i∈l,i<h.length)
  (bp:ab.cx=R.cx) (bw:ab.n0=l.length) (hw:ab.w=R.w) (hm:ab.m=l.length) (bk:∀j i,l[j]? =some i->ab.α j=R.α i) (cf:∀j i,l[j]? =some i->ab.hw j=R.hw i) (a9:∀j i,l[j]? =some i->ab.hv j=R.hv i) (aw:∀b o n,R.ok b o n->ab.ok b o n)
  (H':HR (Ztg R h l) A I) (hx:Xd ab (sel false l h) A I) (ah:ab.le A):
  ∃R',R'.w=A.w/\HR G R' (back l h I)/\Xd R h R' (back l h I)/\R.le R'/\∀k a v,VR A a v->VR R' (ren (Y7 l h.length) k a) v:=by
 have bo:l.length<=I.length:=by rw[H'.len,<-hm];exact ah.m
 have bt:(back l h I).length=h.length+(I.length-l.length):=Zc1 bo;let ci:Nat->Loc:=fun id=>if id<h.length then R.α id else A.α (l.length+(id-h.length))
 let bz:Nat->Int:=fun id=>match Ql id l 0 with
  |some j=>A.hw j
  |none=>if id<h.length then R.hw id else A.hw (l.length+(id-h.length))
 let bu:Nat->Value:=fun id=>match Ql id l 0 with
  |some j=>A.hv j
  |none=>if id<h.length then R.hv id else A.hv (l.length+(id-h.length))
 let R':=Zla R.cx G R.n0 A.w (h.length+(I.length-l.length)) ci bz bu (back l h I);have ar:∀ {j id:Nat},l[j]? =some id->Ql id l 0=some j:=fun {j id} V=>by
  cases S:Ql id l 0 with
  |none=>exact absurd (aZ V) (X3 S)
  |some j'=>
   obtain⟨_,Y⟩:=JW S;rw[Nat.sub_zero]at Y;have a1:=aE.1 V;have a2:=aE.1 Y;congr 1;exact(List.getElem_inj (h₀:=a2.1) (h₁:=a1.1) bh).1 (by rw[a1.2,a2.2])
 have aa:∀j,j<I.length->Y7 l h.length j<R'.m/\R'.α (Y7 l h.length j)=A.α j/\R'.hw (Y7 l h.length j)=A.hw j/\R'.hv (Y7 l h.length j)=A.hv j:=fun j V=>by
  unfold Y7;cases ac:l[j]? with
  |some i=>
   have Z:=ap i (aZ ac);have cj:j<ab.m:=by rw[hm];exact(aE.1 ac).1
   refine⟨by show i<h.length+_;omega,?_,?_,?_⟩
   ·show(if i<h.length then R.α i else _)=_;rw[if_pos Z,ah.α j cj,bk j i ac]
   ·show(match Ql i l 0 with
     |some j=>A.hw j
     |none=>_)=_
    rw[ar ac]
   show(match Ql i l 0 with
    |some j=>A.hv j
    |none=>_)=_
   rw[ar ac]
  |none=>
   have b9:l.length<=j:=List.getElem?_eq_none_iff.1 ac;have bl:Ql (h.length+(j-l.length)) l 0=none:=by
    cases S:Ql (h.length+(j-l.length)) l 0 with
    |none=>rfl
    |some j'=>
     obtain⟨_,Y⟩:=JW S;have:=ap _ (aZ Y);omega
   have e:l.length+(h.length+(j-l.length)-h.length)=j:=by omega
   refine⟨by show h.length+(j-l.length)<h.length+(I.length-l.length);omega,?_,?_,?_⟩
   ·show(if h.length+(j-l.length)<h.length then _ else A.α (l.length+(h.length+(j-l.length)-h.length)))=_;rw[if_neg (by omega),e]
   ·show(match Ql (h.length+(j-l.length)) l 0 with
     |some j=>A.hw j
     |none=>if h.length+(j-l.length)<h.length then _ else A.hw (l.length+(h.length+(j-l.length)-h.length)))=_
    rw[bl];simp only[if_neg (show¬h.length+(j-l.length)<h.length by omega),e]
   show(match Ql (h.length+(j-l.length)) l 0 with
    |some j=>A.hv j
    |none=>if h.length+(j-l.length)<h.length then _ else A.hv (l.length+(h.length+(j-l.length)-h.length)))=_
   rw[bl];simp only[if_neg (show¬h.length+(j-l.length)<h.length by omega),e]
 have other:∀id,id∉l->id<h.length->R'.α id=R.α id/\R'.hw id=R.hw id/\R'.hv id=R.hv id:=fun id hn Z=>by
  have S:Ql id l 0=none:=by
   cases S:Ql id l 0 with
   |none=>rfl
   |some j=>exact absurd (aZ (JW S).2) hn
  refine⟨if_pos Z,?_,?_⟩
  ·show(match Ql id l 0 with
    |some j=>A.hw j
    |none=>if id<h.length then R.hw id else _)=_
   rw[S];simp only[if_pos Z]
  show(match Ql id l 0 with
   |some j=>A.hv j
   |none=>if id<h.length then R.hv id else _)=_
  rw[S];simp only[if_pos Z]
 have aj:∀ {id x},(back l h I)[id]? =some x->(∃j b,id=Y7 l h.length j/\I[j]? =some b/\x=Xp (Y7 l h.length) b/\(j<l.length->l[j]? =some id)/\(l.length<=j->h.length<=id))\/(id∉l/\id<h.length/\h[id]? =some x):=fun {id x} hx=>by
  rcases ZgY bo bh ap hx with⟨j,b,U,Y,h3⟩|U|⟨U,b,Y,h3⟩
  ·exact .inl ⟨j,b,by simp[Y7,U],Y,h3,fun _=>U,fun b9=>by have:=(aE.1 U).1;omega⟩
  ·exact .inr U
  refine .inl ⟨_,b,?_,Y,h3,fun cn=>by omega,fun _=>U⟩;unfold Y7;rw[cD (by omega)];show id=h.length+(l.length+(id-h.length)-l.length);omega
 have g2:∀b o n,Ztg R h l b o n->G b o n:=fun b o n k=>by
  rcases k with k|k|⟨i,blk,_,Z,hk,S⟩
  ·exact((H.okd _ _ _).1 k).2.1
  ·exact H.fresh _ _ _ k
  exact H.tokG i blk b Z hk S o n
 have bg:R.w.heap.size<=A.w.heap.size:=by rw[<-hw];exact hx.size
 have ak:∀b o n,A.ok b o n->R'.ok b o n:=fun b o n k=>by
  obtain⟨U,Y,h3⟩:=(H'.okd _ _ _).1 k;refine⟨U,g2 _ _ _ Y,fun id x J=>?_⟩;rcases aj J with⟨j,b',rfl,V,rfl,_⟩|⟨hn,Z,J⟩
  ·obtain⟨_,c1,_,c2⟩:=aa j (aE.1 V).1;exact(Zl2 c1 c2).2 (h3 j b' V)
  obtain⟨c1,_,c2⟩:=other id hn Z;refine(Qe.congr (R:=R) c1 c2).2 ?_;rcases Y with k|k|⟨i,blk,ca,ce,hk,S⟩
  ·exact((H.okd _ _ _).1 k).2.2 id x J
  ·exact JO fun S=>by have:=H.phys_lt J S;omega
  exact JO fun ai=>H.dis i id blk x b (fun e=>hn (e▸ca)) ce J S ai
 have al:∀ {j blk b},(sel false l h)[j]? =some blk->Zz ab j blk b->∃i y,l[j]? =some i/\h[i]? =some y/\Zz R i y b:=fun V S=>by
  obtain⟨i,y,Z,hy,rfl⟩:=Zcv ap V;exact⟨i,y,Z,hy,(ZaN (bk _ i Z) (a9 _ i Z)).1 S⟩
 have ba:∀id x b,id∉l->h[id]? =some x->Zz R id x b->A.w.heap[b]? =R.w.heap[b]? :=fun id x b hn J S=>by
  rw[hx.frame b (by rw[hw];exact H.phys_lt J S) (fun j blk V ai=>?_),hw];obtain⟨i,y,Z,hy,ai⟩:=al V ai;exact H.dis i id y x b (fun e=>hn (e▸aZ Z)) hy J ai S
 have ae:R.le R':=by
  refine⟨by show R.m<=h.length+_;rw[H.len];omega,fun id Z=>if_pos (by rw[H.len];exact Z),fun id Z=>?_,fun id Z=>?_,fun b o n k=>ak _ _ _ (ah.ok _ _ _ (aw _ _ _ k)),fun b o n k j V=>by
   have:=ah.keep b o n (aw _ _ _ k) j V;rw[hw]at this
   exact this,(fun b k es bx e=>by
   rw[<-hw]at e
   exact ah.keepM b (aw _ _ _ k) es bx e),rfl⟩
  by_cases hn:id∈l
  ·obtain⟨j,V,rfl⟩:=ed hn;have ac:l[j]? =some l[j]:=aD V;obtain⟨_,_,c1,c2⟩:=aa j (by omega);have e:Y7 l h.length j=l[j]:=by simp[Y7,ac]
   rw[e]at c1 c2;obtain⟨t1,t2⟩:=ah.tk j (by omega);rw[cf j _ ac]at t1 t2;rw[a9 j _ ac]at t2;exact⟨by rw[c1];exact t1,fun e=>by rw[c2];exact t2 (by rw[<-c1];exact e)⟩
  ·obtain⟨_,c1,c2⟩:=other id hn (by rw[H.len];exact Z);rw[c1,c2];exact⟨Int.le_refl _,fun _=>rfl⟩
  by_cases hn:id∈l
  ·obtain⟨j,V,rfl⟩:=ed hn;have ac:l[j]? =some l[j]:=aD V;obtain⟨_,_,c1,c2⟩:=aa j (by omega);have e:Y7 l h.length j=l[j]:=by simp[Y7,ac]
   rw[e]at c1 c2;have:=ah.fm j (by omega);rw[a9 j _ ac]at this;rw[c2];exact this
  obtain⟨_,c1,c2⟩:=other id hn (by rw[H.len];exact Z);rw[c2];exact .refl _
 have am:∀k a v,VR A a v->VR R' (ren (Y7 l h.length) k a) v:=fun k a v hv=>ZuN (R:=A) (R':=R') rfl (fun j V=>aa j (by rw[H'.len];exact V)) ak k hv;have aq:∀ {a:AV} {v:Value},PR A.w A.ok a v->PR R'.w R'.ok a v:=fun h=>h.mono ak (fun _ _ _ _ _ _=>rfl) (fun _ _ _ _ h=>h);have az:∀ {j blk b},I[j]? =some blk->Zz A j blk b->R.w.heap.size<=b\/∃i y,l[j]? =some i/\h[i]? =some y/\Zz R i y b:=fun V S=>by
  rcases hx.own _ _ _ V S with U|⟨bq,cg,U,Y,h3⟩
  ·rw[hw]at U;exact .inl U
  have au:=(aE.1 U).1;rw[show(sel false l h).length=l.length from Zbd]at au;have:bq=_:=h3.resolve_right (by omega);subst this;exact .inr (al U Y)
 refine⟨R',rfl,⟨bt,fun _ _ _=>Iff.rfl,fun id x J=>?_,fun i j bi bj b bc Z V S ai=>?_,H.cl,fun b o n hb=>H.fresh b o n (cF bg hb),fun id x b J hk S o n=>?_,cF H.n0m ae.m⟩,?_,ae,am⟩
 ·rcases aj J with⟨j,b',rfl,V,rfl,_⟩|⟨hn,Z,J⟩
  ·obtain⟨_,e1,e2,e3⟩:=aa j (aE.1 V).1;have hb:=H'.blk j b' V;cases b' with
   |cells cs=>
    obtain⟨arr,ty,U,Y,h3⟩:=hb;refine⟨arr,ty,by rw[e1];exact U,by rw[bA,e1];exact Y,fun k c hk=>?_⟩;rw[aO,aG]at hk;obtain⟨c0,ao,rfl⟩:=hk;rw[e1];exact am 5 _ _ (h3 k c0 ao)
   |arr s m f=>
    obtain⟨arr,ty,len,U,Y,h3,h4⟩:=hb;exact⟨arr,ty,len,by rw[e1];exact U,Y,by rw[e1];exact h3,fun k hk=>⟨(h4 k hk).1,fun q c hq=>by rw[e1];exact aq ((h4 k hk).2 q c hq)⟩⟩
   |tok s hw=>
    obtain⟨U,Y⟩:=hb;exact⟨e2.trans U,by rw[e3];exact Y⟩
   |gar s m f=>
    obtain⟨U,Y⟩:=hb;refine⟨e2.trans U,?_⟩;rw[e3];rcases Y with Y|⟨b,o,len,ck,arr,ty,g1,g2,g3,g4,g5,g6⟩
    ·exact .inl Y
    exact .inr ⟨b,o,len,ck,arr,ty,g1,g2,g3,g4,g5,fun k hk=>⟨(g6 k hk).1,fun q c hq=>aq ((g6 k hk).2 q c hq)⟩⟩
   |vgar s m f=>
    obtain⟨U,Y⟩:=hb;refine⟨e2.trans U,?_⟩;rw[e3];exact Y.cong rfl (fun i _=>by simp) fun i _ j c V=>by
     rw[aO,aG]at V;obtain⟨c0,ao,rfl⟩:=V;exact⟨c0,ao,fun u hu=>am 5 _ _ hu⟩
   |fam z s n m g=>
    obtain⟨hz,U,us,hv,Y,h3,h4⟩:=hb
    exact⟨by
     have e0:A.n0=l.length:=hx.n0.trans bw;show R.n0<=Y7 l h.length z;have:l[z]? =none:=cD (by omega);have:=H.n0m;have:=H.len;simp only[Y7, *]
     omega,e2.trans U,us,e3.trans hv,Y,fun i v hu=>(h3 i v hu).mono (fun _ _ h=>aq h) fun _ _=>rfl,h4⟩
   |fro s m f=>
    obtain⟨U,Y⟩:=hb;exact⟨e2.trans U,by rw[e3];exact aq Y⟩
   |mapB m=>
    obtain⟨es,c,U,Y⟩:=hb;exact⟨es,c,by rw[e1];exact U,Y⟩
   |gob g=>
    obtain⟨o,U,Y,h3⟩:=hb;exact⟨o,by rw[e1];exact U,Y,by rw[e1];exact h3.tr rfl ak (ah.cx.trans bp).symm⟩
   |main=>exact(ah.cx.trans bp).symm.trans hb
   |loop s d=>
    obtain⟨q,U,Y,h3,h4,h5,h6,h7,h8⟩:=hb;refine⟨q,by rw[e1];exact U,Y,h3,h4,h5,h6,by rw[bA];exact h7,fun k c hk=>?_⟩;rw[aO,aG]at hk;obtain⟨c0,ao,rfl⟩:=hk;exact am 5 _ _ (h8 k c0 ao)
   |dead=>trivial
  obtain⟨c1,c2,c3⟩:=other id hn Z;exact(H.blk id x J).mono ae rfl c1 c2 c3 (fun b S=>ba id x b hn J S)
 ·have one:∀ {id x},(back l h I)[id]? =some x->Zz R' id x b->(∃j y,I[j]? =some y/\Zz A j y b/\id=Y7 l h.length j/\(j<l.length->l[j]? =some id)/\(l.length<=j->h.length<=id))\/(id∉l/\id<h.length/\h[id]? =some x/\Zz R id x b):=fun {id x} J S=>by
   rcases aj J with⟨j,b',rfl,V,rfl,hq⟩|⟨hn,Z,J⟩
   ·obtain⟨_,c1,_,c2⟩:=aa j (aE.1 V).1;exact .inl ⟨j,b',V,(Zec c1 c2).1 S,rfl,hq⟩
   obtain⟨c1,_,c2⟩:=other id hn Z;exact .inr ⟨hn,Z,J,(Zz.congr (R:=R) c1 c2).1 S⟩
  have bm:∀ {id:Nat} {x:Zh} {j:Nat} {y:Zh},id∉l->h[id]? =some x->Zz R id x b->I[j]? =some y->Zz A j y b->False:=fun {id x j y} hn J S V ai=>by
   rcases az V ai with U|⟨i,z,U,Y,h3⟩
   ·have:=H.phys_lt J S;omega
   exact H.dis i id z x b (fun e=>hn (e▸aZ U)) Y J h3 S
  rcases one Z S with⟨j1,y1,a1,a2,a3,a4⟩|⟨a1,a2,a3,a4⟩<;>rcases one V ai with⟨j2,y2,b1,b2,b3,b4⟩|⟨b1,b2,b3,b4⟩
  ·exact H'.dis j1 j2 y1 y2 b (fun e=>bc (by rw[a3,b3,e])) a1 b1 a2 b2
  ·exact bm b1 b3 b4 a1 a2
  ·exact bm a1 a3 a4 b1 b2
  exact H.dis i j bi bj b bc a3 b3 a4 b4
 ·rcases aj J with⟨j,b',rfl,V,rfl,_⟩|⟨hn,Z,J⟩
  ·obtain⟨_,c1,_,c2⟩:=aa j (aE.1 V).1;rw[ZoL]at hk;exact g2 _ _ _ (H'.tokG j b' b V hk ((Zec c1 c2).1 S) o n)
  obtain⟨c1,_,c2⟩:=other id hn Z;exact H.tokG id x b J hk ((Zz.congr (R:=R) c1 c2).1 S) o n
 refine⟨rfl,by rw[<-hw];exact hx.os,by rw[<-hw];exact hx.tape,by rw[<-hw];exact hx.output,bg,ae.m,ae.α,ae.ok,ae.keep,fun b hb hn=>?_,fun id x b J S=>?_⟩
 ·show A.w.heap[b]? =_;rw[hx.frame b (by rw[hw];exact hb) (fun j blk V S=>?_),hw];obtain⟨i,y,Z,hy,S⟩:=al V S;exact hn i y hy S
 rcases aj J with⟨j,b',rfl,V,rfl,hq⟩|⟨hn,Z,J⟩
 ·obtain⟨_,c1,_,c2⟩:=aa j (aE.1 V).1;rcases az V ((Zec c1 c2).1 S)with U|⟨i,y,U,Y,h3⟩
  ·exact .inl U
  have e:Y7 l h.length j=i:=by simp[Y7,U]
  rw[e];exact .inr ⟨_,y,Y,h3,.inl rfl⟩
 obtain⟨c1,_,c2⟩:=other id hn Z;exact .inr ⟨_,x,J,(Zz.congr (R:=R) c1 c2).1 S,.inl rfl⟩
theorem SC.frame {p:Unit->Program} {f:FuncId} {xs:List AV} {h:List Zh} {A Q:AV->List Zh->Prop} (l:List Nat) (S:l.Nodup) (U:∀i∈l,i<h.length) (H:SC p f (xs.map (Qs false l h 5)) (sel false l h) Q)
  (hq:∀r I,Q r I->A (ren (Y7 l h.length) 5 r) (back l h I)):SC p f xs h A:=
 ⟨H.enter,fun G R vs hr ha cs=>by
  obtain⟨J,V,a0,a1,a2,a3,a4,a5,a6,a7,a8⟩:=hr.sel (fz:=false) (ι:=l) (Ztg R h l) (fun b o n k=>.inl k) (fun b o n o' n' k h1 h2=>by
    rcases k with k|k|k
    ·exact .inl (hr.sub k h1 h2)
    ·exact .inr (.inl k)
    exact .inr (.inr k)) (fun b o n hb=>.inr (.inl hb)) (fun i blk b hi hb hk hp o n=>.inr (.inr ⟨i,blk,hi,hb,hk,hp⟩)) S U (fun Z=>by cases Z) l.length (aJ _) (fun Z=>by cases Z)
  have Y:X0 J (xs.map (Qs false l h 5)) vs:=⟨by rw[bA];exact ha.1,fun j c hj=>by
   rw[aO,aG]at hj;obtain⟨x,hx,rfl⟩:=hj
   exact a8 5 x _ (ha.2 j x hx)⟩
  obtain⟨v,R',r,h',b1,b3,b4,b5,b6,b7⟩:=H.run _ J vs a6 Y cs;rw[a1,V]at b1;obtain⟨aa,c1,c2,c3,c4,c5⟩:=ZgK hr S U V a0 a1 a2 a3 a4 a5 a7 b3 b4 b5
  exact⟨v,aa,_,_,by rw[c1];exact b1,c2,c3,c4,c5 5 r v b6,hq r h' b7⟩⟩
theorem SC.less {p:Unit->Program} {f:FuncId} {xs:List AV} {h:List Zh} {J:AV->List Zh->Prop} (H:SC p f xs h fun r Y=>∃A I,To [r] Y [A] I/\J A I):SC p f xs h J:=
 ⟨H.enter,fun G R vs hr ha cs=>by
  obtain⟨v,R',r,Y,b1,b3,b4,b5,b6,A,I,U,b7⟩:=H.run G R vs hr ha cs
  obtain⟨V,c1,c2,c3,Z,c5⟩:=U G R' #[v] b3 ⟨rfl,fun i a S=>by
   cases i with
   |zero=>simp at S;subst S;exact b6
   |succ i=>simp at S⟩
  exact⟨v,V,A,I,by rw[c1];exact b1,c2,b4.trans c3,b5.trans Z,c5.2 0 A rfl,b7⟩⟩
theorem SC.to {p:Unit->Program} {f:FuncId} {xs xs₂:List AV} {h h₂:List Zh} {A:AV->List Zh->Prop} (S:To xs h xs₂ h₂) (H:SC p f xs₂ h₂ A):SC p f xs h A:=
 ⟨H.enter,fun G R Y hr Z cs=>by
  obtain⟨R',a1,a2,a3,I,V⟩:=S G R Y hr ⟨Z.1.symm,Z.2⟩;obtain⟨v,U,r,h',J,b3,b4,b5,b6,b7⟩:=H.run G R' Y a2 ⟨V.1.symm,V.2⟩ cs;rw[a1]at J
  exact⟨v,U,r,h',ZqJ I J,b3,a3.trans b4,I.trans b5,b6,b7⟩⟩
section
variable {n k:Nat}
theorem Zy.refl (a:AV):Zy n k a a:=⟨fun _ _ _ h=>h⟩
theorem Zy.undef (a:AV):Zy n k a .undef:=⟨fun _ _ _ _=>.undef _⟩
theorem Zy.int {q:IntKind} {a b:Unit->Int} (h:a ()=b ()):Zy n k (.int q a) (.int q b):=⟨fun R v _ hv=>by
 rw[hv.int_inv];exact VR.mkInt h.symm⟩
theorem Zy.bool {a b:Unit->Bool} (h:a ()=b ()):Zy n k (.bool a) (.bool b):=⟨fun R v _ hv=>by
 rw[hv.bool_inv];exact VR.mkBool h.symm⟩
theorem Zy.gd {g:Unit->Bool} {a b:AV} (G:g ()=true) (h:Zy n k a b):Zy n k (.gd g a) b:=⟨fun R v A hv=>h.f R v A (hv.gd_inv G)⟩
theorem PR.wk {w:World} {ok:Nat->Nat->Nat->Prop} {s:Nat} {m m':Unit->Int} {f V:(Unit->Int)->List AV} {tk H:Tk} {v:Value} (h:PR w ok (.isl s m f tk) v) (hm:m ()=m' ()) (S:∀i:Nat,(i:Int)<m ()->f (fun _=>(i:Int))=V (fun _=>(i:Int)))
  (J:H= .none\/H=tk):PR w ok (.isl s m' V H) v:=by
 cases h with
 |isl0 _ _ _ _ Z I=>exact .isl0 _ _ _ _ (by omega) (by rcases J with rfl|rfl;rfl;exact I)
 |islE _ _ _ _ a Z I=>exact .islE _ _ _ _ a (by omega) (by rcases J with rfl|rfl;exact .inl rfl;exact I)
 |isl _ _ _ _ b o len U us hn hc I he Y h2 h3 h4=>
  exact .isl _ _ _ _ b o len U us (by omega) hc (by rcases J with rfl|rfl;exact .inl rfl;exact I) (fun e=>by rcases J with rfl|rfl;cases e;exact he e)
   (fun i A=>by rw[<-S i (by omega)];exact Y i A) (fun i j c A G=>by rw[<-S i (by omega)]at G;exact h2 i j c A G) (fun i j c A G=>by rw[<-S i (by omega)]at G;exact h3 i j c A G) h4
theorem Zy.isl {s:Nat} {m m':Unit->Int} {f I:(Unit->Int)->List AV} {tk:Tk} (hm:m ()=m' ()) (G:∀i:Nat,(i:Int)<m ()->f (fun _=>(i:Int))=I (fun _=>(i:Int))):Zy n k (.isl s m f tk) (.isl s m' I tk):=⟨fun R v _ hv=>by
 cases hv with
 |pure _ _ J=>exact .pure _ _ (J.wk hm G (.inr rfl))
 |nn _ _ _ _ A H=>exact .nn _ _ _ v (A.wk hm G (.inl rfl)) H
 |own _ _ _ id _ S A H U=>exact .own _ _ _ id v S (A.wk hm G (.inl rfl)) (by omega) (fun e=>U (by omega))⟩
theorem Zy.none {s:Nat} {m m':Unit->Int} {f A:(Unit->Int)->List AV} {tk:Tk} (hm:m ()=m' ()) (G:∀i:Nat,(i:Int)<m ()->f (fun _=>(i:Int))=A (fun _=>(i:Int))):Zy n k (.isl s m f tk) (.isl s m' A .none):=⟨fun R v _ hv=>.pure _ _ (hv.isl_inv.wk hm G (.inl rfl))⟩
theorem Zy.empty {s s':Nat} {m m':Unit->Int} {f H:(Unit->Int)->List AV} (hm:m' ()=0):Zy n k (.isl s m f .nil) (.isl s' m' H .none):=⟨fun R v _ hv=>by
 cases hv with
 |pure _ _ G=>
  cases G with
  |isl0 _ _ _ _ S A=>exact .pure _ _ (.isl0 _ _ _ _ hm rfl)
  |islE _ _ _ _ _ _ A=>rcases A with h|h<;>cases h
  |isl _ _ _ _ b o len I V J U A=>rcases A with h|h<;>cases h⟩
theorem Zmz {R:RC} {s:Nat} {m:Unit->Int} {f:(Unit->Int)->List AV} {v:Value} (hv:VR R (.isl s m f .nil) v):v= .slice none 0 0:=by
 cases hv with
 |pure _ _ G=>
  cases G with
  |isl0 _ _ _ _ J A=>rfl
  |islE _ _ _ _ _ _ A=>rcases A with h|h<;>cases h
  |isl _ _ _ _ b o len H U I S A=>rcases A with h|h<;>cases h
theorem Zy.nilOwn {s s' id:Nat} {m m':Unit->Int} {f J:(Unit->Int)->List AV} (I:n<=id) (H:id<n+k) (hm:m' ()=0):Zy n k (.isl s m f .nil) (.isl s' m' J (.own id)):=⟨fun R v S hv=>by
 obtain⟨A,U,G⟩:=S id I H;rw[Zmz hv]
 exact .own _ _ _ id _ A (.isl0 _ _ _ _ hm rfl) (by omega) (fun _=>G.symm)⟩
theorem Zy.nilGar {s id:Nat} {m m':Unit->Int} {f:(Unit->Int)->List AV} (I:n<=id) (H:id<n+k) (hm:m' ()=0):Zy n k (.isl s m f .nil) (.gsl id m'):=⟨fun R v J hv=>by
 obtain⟨A,S,G⟩:=J id I H;rw[Zmz hv]
 exact .gsl id _ _ _ _ A (by omega) (fun _=>G.symm) ⟨hm,.inl rfl⟩⟩
theorem Zy.gsl {id:Nat} {m m':Unit->Int} (hm:m ()=m' ()):Zy n k (.gsl id m) (.gsl id m'):=⟨fun R v _ hv=>by
 cases hv with
 |pure _ _ G=>cases G
 |gsl _ _ a l c I J H A=>exact .gsl id m' a l c I (by omega) (fun e=>H (by omega)) ⟨by rw[<-hm];exact A.1,A.2⟩⟩
theorem Yn.refl:∀(cs:List AV),Yn n k cs cs
 |[]=>trivial
 |a::r=>Yn.mk (Zy.refl a) (Yn.refl r)
theorem Zy.agg {cs A:List AV} (h:Yn n k cs A):Zy n k (.agg cs) (.agg A):=⟨fun R v U hv=>by
 obtain⟨H,rfl,G,hr⟩:=hv.agg_inv;exact .agg A H (by rw[<-h.len];exact G) fun j c I=>by
  obtain⟨a,S,J⟩:=h.get I
  exact J.f R _ U (hr j a S)⟩
theorem Zy.tup {cs A:List AV} (h:Yn n k cs A):Zy n k (.tup cs) (.tup A):=⟨fun R v U hv=>by
 obtain⟨H,rfl,G,hr⟩:=hv.tup_inv;exact .tup A H (by rw[<-h.len];exact G) fun j c I=>by
  obtain⟨a,S,J⟩:=h.get I
  exact J.f R _ U (hr j a S)⟩
theorem Zy.fn {f:FuncId} {xs G A:List AV} (h:Yn n k G A):Zy n k (.fn f xs G) (.fn f xs A):=⟨fun R v I hv=>by
 cases hv with
 |pure _ _ J=>cases J
 |fn _ _ _ U Y ha H Z V=>exact .fn f xs A U Y ha (by rw[<-h.len];exact H) Z fun j c S=>let ⟨a,e1,e2⟩:=h.get S;e2.f R _ I (V j a e1)⟩
theorem ZG.refl (b:Zh):ZG n k b b:=⟨fun _ _ _ h=>h,fun _ _ _=>Iff.rfl,fun _ _ _ _ _=>Iff.rfl,rfl⟩
theorem ZG.cells {cs A:List AV} (h:Yn n k cs A):ZG n k (.cells cs) (.cells A):=⟨fun R id V ⟨arr,ty,U,S,I⟩=>⟨arr,ty,U,by rw[<-h.len];exact S,fun j c J=>by
  obtain⟨a,G,H⟩:=h.get J
  exact H.f R _ V (I j a G)⟩,fun _ _ _=>Iff.rfl,fun _ _ _ _ _=>Iff.rfl,rfl⟩
theorem ZG.tok {s:Nat} {a b:Unit->Int} (h:a ()=b ()):ZG n k (.tok s a) (.tok s b):=⟨fun R id H ⟨G,A⟩=>⟨by rw[<-h];exact G,by rw[<-h];exact A⟩,fun _ _ _=>Iff.rfl,fun _ _ _ _ _=>Iff.rfl,rfl⟩
theorem ZG.gar {s:Nat} {m m':Unit->Int} {f H:(Unit->Int)->List AV} (hm:m ()=m' ()) (hf:∀i:Nat,(i:Int)<m ()->f (fun _=>(i:Int))=H (fun _=>(i:Int))):ZG n k (.gar s m f) (.gar s m' H):=
 ⟨fun R id hN ⟨Z,A⟩=>⟨by rw[<-hm];exact Z,by
  rw[<-hm];rcases A with A|⟨b,o,len,G,arr,ty,g1,I,U,J,S,Y⟩
  ·exact .inl A
  exact .inr ⟨b,o,len,G,arr,ty,g1,I,U,J,S,fun i V=>by rw[<-hf i (by omega)];exact Y i V⟩⟩,fun _ _ _=>Iff.rfl,fun _ _ _ _ _=>Iff.rfl,rfl⟩
theorem ZG.arr {s:Nat} {m m':Unit->Int} {f A:(Unit->Int)->List AV} (hm:m ()=m' ()) (U:∀i:Nat,(i:Int)<m ()->f (fun _=>(i:Int))=A (fun _=>(i:Int))):ZG n k (.arr s m f) (.arr s m' A):=
 ⟨fun R id V ⟨arr,ty,len,J,I,G,S⟩=>⟨arr,ty,len,J,by rw[<-hm];exact I,G,fun i H=>by rw[<-U i (by omega)];exact S i H⟩,fun _ _ _=>Iff.rfl,fun _ _ _ _ _=>Iff.rfl,rfl⟩
theorem ZG.map {m m':(Unit->Int)->Unit->Bool} (h:∀x:Int,m (fun _=>x) ()=m' (fun _=>x) ()):ZG n k (.mapB m) (.mapB m'):=
 ⟨fun R id I ⟨es,c,H,G,A⟩=>⟨es,c,H,G,fun x=>by rw[<-h];exact A x⟩,fun _ _ _=>Iff.rfl,fun _ _ _ _ _=>Iff.rfl,rfl⟩
end
def Zb9 {α:Type} (enc:α->List AV) (d:α) (l:List α):(Unit->Int)->List AV:=fun e=>enc (l.getD (e ()).toNat d)
def lst {α:Type} (s:Nat) (enc:α->List AV) (d:α) (l:List α):AV:=.isl s (fun _=>(l.length:Int)) (Zb9 enc d l) .none
theorem Zo:∃A:(α:Type)->α->List α->Int->α,∀(α:Type) (d:α) (l:List α) (i:Int),A α d l i=l.getD i.toNat d:=⟨fun _ d l i=>l.getD i.toNat d,fun _ _ _ _=>rfl⟩
section
variable {nt:(α:Type)->α->List α->Int->α} {α:Type} {enc:α->List AV} {d:α} {l:List α}
theorem Za (O:∀(α:Type) (d:α) (l:List α) (i:Int),nt α d l i=l.getD i.toNat d) (s:Nat) (enc:α->List AV) (d:α) (l:List α):lst s enc d l= .isl s (fun _=>(l.length:Int)) (fun e=>enc (nt α d l (e ()))) .none:=by
 unfold lst Zb9;congr 1;funext e;rw[O]
theorem Zk8 (O:∀(α:Type) (d:α) (l:List α) (i:Int),nt α d l i=l.getD i.toNat d) {l A:List α} (i:Nat):nt α d (l++A) (i:Int)=if i<l.length then nt α d l (i:Int)else nt α d A ((i-l.length:Nat):Int):=by
 rw[O,O,O];simp only[aV,aA];split
 ·rename_i h;rw[List.getElem?_append_left h]
 rename_i h;rw[List.getElem?_append_right (by omega)]
theorem Qu (O:∀(α:Type) (d:α) (l:List α) (i:Int),nt α d l i=l.getD i.toNat d) {i:Nat} (hi:i<l.length):nt α d l (i:Int)∈l:=by
 rw[O,aV,aA,aD hi];exact List.getElem_mem hi
theorem Qi (O:∀(α:Type) (d:α) (l:List α) (i:Int),nt α d l i=l.getD i.toNat d) {i:Nat} (hi:i<l.length):l.drop i=nt α d l (i:Int)::l.drop (i+1):=by
 rw[O,aV,aA,aD hi,bY];exact List.drop_eq_getElem_cons hi
theorem XW (O:∀(α:Type) (d:α) (l:List α) (i:Int),nt α d l i=l.getD i.toNat d) {i:Nat} (hi:i<l.length):l.take (i+1)=l.take i++[nt α d l (i:Int)]:=by
 rw[O,aV,aA,aD hi,bY];exact List.take_succ_eq_append_getElem hi
theorem Zmj (O:∀(α:Type) (d:α) (l:List α) (i:Int),nt α d l i=l.getD i.toNat d) {l:List α} {x:α} {n0:Unit->Int} {f g:(Unit->Int)->List AV} (H:n0 ()=(l.length:Int)) (A:f=fun e=>enc (nt α d l (e ()))) (G:g (fun _=>0)=enc x):
  ∀i:Nat,(i:Int)<(l.length:Int)+1->ZV n0 f g (fun _=>(i:Int))=enc (nt α d (l++[x]) (i:Int)):=fun i I=>by
 subst A;rw[Zk8 O];show(if(i:Int)<n0 ()then enc (nt α d l (i:Int))else g (fun _=>(i:Int)-n0 ()))=_;by_cases h:i<l.length
 ·rw[if_pos (by omega),if_pos h]
 rw[if_neg (by omega),if_neg h];have:i=l.length:=by omega
 subst this;have e:(fun _:Unit=>((l.length:Int)-n0 ()))=fun _=>0:=funext fun _=>by omega
 rw[e,G,O];simp
theorem Zy.snoc {n k:Nat} (O:∀(α:Type) (d:α) (l:List α) (i:Int),nt α d l i=l.getD i.toNat d) {s:Nat} {x:α} {n0 m':Unit->Int} {g:(Unit->Int)->List AV} {tk:Tk} (G:n0 ()=(l.length:Int)) (hm:m' ()=(l.length:Int)+1) (H:g (fun _=>0)=enc x):
  Zy n k (.isl s m' (ZV n0 (fun e=>enc (nt α d l (e ()))) g) tk) (.isl s (fun _=>((l++[x]).length:Int)) (fun e=>enc (nt α d (l++[x]) (e ()))) tk):=
 .isl (by rw[hm];simp) fun i A=>Zmj O G rfl H i (by rw[hm]at A;exact A)
theorem Zy.snocL {n k:Nat} (O:∀(α:Type) (d:α) (l:List α) (i:Int),nt α d l i=l.getD i.toNat d) {s:Nat} {x:α} {n0 m':Unit->Int} {g:(Unit->Int)->List AV} {tk:Tk} (G:n0 ()=(l.length:Int)) (hm:m' ()=(l.length:Int)+1) (H:g (fun _=>0)=enc x):
  Zy n k (.isl s m' (ZV n0 (fun e=>enc (nt α d l (e ()))) g) tk) (lst s enc d (l++[x])):=
 .none (by rw[hm];simp) fun i A=>(Zmj O G rfl H i (by rw[hm]at A;exact A)).trans (by rw[O];rfl)
theorem Zy.lst {n k:Nat} (O:∀(α:Type) (d:α) (l:List α) (i:Int),nt α d l i=l.getD i.toNat d) {s:Nat} {m':Unit->Int} {tk:Tk} (hm:m' ()=(l.length:Int)):
  Zy n k (.isl s m' (fun e=>enc (nt α d l (e ()))) tk) (lst s enc d l):=
 .none hm fun i A=>by show enc (nt α d l _)=enc (l.getD _ d);rw[O]
end
end Vm
namespace Vm
open Go Conc1
def Zq1 (e:AV->AV->Bool):List AV->List AV->Bool
 |[],[]=>true
 |a::r,b::s=>(match e a b with
  |true=>Zq1 e r s
  |false=>false)
 |_,_=>false
def Zw7:Tk->Tk->Bool
 |.none,.none|.nil,.nil|.exact,.exact|.nil,.none|.exact,.none=>true
 |_,_=>false
def ZpU (e:AV->AV->Bool) (f g:(Unit->Int)->List AV):Nat->Bool
 |0=>true
 |k+1=>(match Zq1 e (f fun _=>(k:Int)) (g fun _=>(k:Int))with
  |true=>ZpU e f g k
  |false=>false)
def eqP:Nat->AV->AV->Bool
 |_+1,.int q f,.int q' g=>J5 q q'&&decide (f ()=g ())
 |_+1,.bool f,.bool g=>f ()==g ()
 |_+1,.nilptr,.nilptr=>true
 |_+1,.nilmap,.nilmap=>true
 |_+1,.nilfn,.nilfn=>true
 |_+1,.str s,.str s'=>decide (s ()=s' ())
 |k+1,.isl s n f tk,.isl s' n' f' tk'=>ZD s s'&&Zw7 tk tk'&&decide (n ()=n' ())&&ZpU (eqP k) f f' (n ()).toNat
 |k+1,.iptr cs o,.iptr cs' o'=>ZD o o'&&Zq1 (eqP k) cs cs'
 |_,_,_=>false
def ZsS:Nat->AV->AV->Bool
 |k+1,.agg cs,.agg cs'=>Zq1 (ZsS k) cs cs'
 |k+1,.tup cs,.tup cs'=>Zq1 (ZsS k) cs cs'
 |_+1,.ptr a b,.ptr c d=>ZD a c&&ZD b d
 |_+1,.gsl a n,.gsl b m=>ZD a b&&decide (n ()=m ())
 |_+1,.map a,.map b=>ZD a b
 |_+1,.yld a,.yld b=>ZD a b
 |k+1,.isl s n f (.own id),.isl s' n' f' (.own id')=>ZD id id'&&decide (n ()=n' ())&&eqP k (.isl s n f .none) (.isl s' n' f' .none)
 |_+1,_,.undef=>true
 |k+1,.gd g a,.gd g' b=>(match g' ()with
  |false=>true
  |true=>g ()&&ZsS k a b)
 |k+1,a,b=>eqP k a b
 |0,_,_=>false
def Cn.b:Cn->Bool
 |.d _ b _=>b ()
 |.e v w=>ZsS 8 (v ()) (w ())
 |.i g x=>(match g ()with
  |true=>x.b
  |false=>true)
theorem CB.to {p:Unit->Program} {x:Code} {Q:Ex->List AV->List Zh->Prop} {s s₂:List AV} {h h₂:List Zh} (I:To s h s₂ h₂) (H:CB p x Q s₂ h₂):CB p x Q s h:=⟨fun A G=>CI.to I (H.run A G)⟩
section
variable {p:Unit->Program}
end
end Vm
end Go.Proofs.YtjgpiclllehgmaaGreat
