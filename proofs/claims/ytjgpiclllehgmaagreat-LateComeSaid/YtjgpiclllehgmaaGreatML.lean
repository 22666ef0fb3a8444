/- The steps of one goroutine, in a function's frame or in a round of a range over a function, as steps of its own. -/
import Derived.RangeFuncIn
import Derived.Orders
import Derived.Test.YtjgpiclllehgmaaGreatME
import Derived.Test.YtjgpiclllehgmaaGreatCxLeaf
set_option linter.unusedSimpArgs false
set_option linter.unusedVariables false
namespace Go.Proofs.YtjgpiclllehgmaaGreat.Vm
open Go Go.Conc Go.Proofs.YtjgpiclllehgmaaGreat.Conc1
def ZB (fr:Frame) (cs:List Frame) (w:World):Cf:=⟨fr,cs,w⟩
abbrev Steps (P:Program) (cx:Option Nat):Cf→Cf→Prop:=StepsC P cx
theorem Steps.trans {P:Program} {cx:Option Nat} {a b c:Cf} (h:Steps P cx a b) (h':Steps P cx b c):Steps P cx a c:=StepsC.trans h h'
structure FB where
 fn:FuncId
 df:Bool
 roundOf:Option Nat
 base:List Deferred
def FB.kind (b:FB):CallKind:=if b.df then .deferred else .normal
def mkF (b:FB) (tmps:Array Value) (ds:List Deferred) (todo:List Item):Frame:=
 {fn:=b.fn,tmps,todo,defers:=ds,mode:=.run,kind:=b.kind,roundOf:=b.roundOf}
theorem FB.not_early (b:FB):(b.kind== .early)=false:=by unfold FB.kind;split<;>rfl
section
variable {P:Program} {cx:Option Nat} {b:FB} {t:Array Value} {ds:List Deferred} {k:List Item} {cs:List Frame} {w:World}
theorem QZ {fr fr':Frame} {cs cs':List Frame} (h:∀main w,stepG P main (G fr cs) w= .go (G fr' cs') w):One P cx (ZB fr cs w) (ZB fr' cs' w):=by
 refine OwM.one ⟨Unit,pure (),fun _=>(fr',cs'),(), #[],fun main w w' x es hr=>?_,trivial,rfl,rfl⟩
 have hr:((.ok () w:Result Unit),(#[]:Array Event))=(.ok x w',es):=hr
 simp only[Prod.mk.injEq,Result.ok.injEq]at hr
 obtain⟨⟨_,rfl⟩,rfl⟩:=hr
 exact(h main w).trans (by rw[seen_none])
theorem Zp0:One P cx (ZB (mkF b t ds (.code .skip::k)) cs w) (ZB (mkF b t ds k) cs w):=QZ fun _ _=>rfl
theorem ZnN {l:Nat}:One P cx (ZB (mkF b t ds (.code (.label l)::k)) cs w) (ZB (mkF b t ds k) cs w):=QZ fun _ _=>rfl
theorem Zjx {x:Code}:One P cx (ZB (mkF b t ds (.inScope x::k)) cs w) (ZB (mkF b t ds k) cs w):=QZ fun _ _=>rfl
theorem ZnK {x:Code}:One P cx (ZB (mkF b t ds (.code (.scope x)::k)) cs w) (ZB (mkF b t ds (.code x:: .inScope x::k)) cs w):=QZ fun _ _=>rfl
theorem Zjy {id:Nat}:One P cx (ZB (mkF b t ds (.inBlock id::k)) cs w) (ZB (mkF b t ds k) cs w):=QZ fun _ _=>rfl
theorem Zg9 {x y:Code}:One P cx (ZB (mkF b t ds (.code (.seq x y)::k)) cs w) (ZB (mkF b t ds (.code x:: .code y::k)) cs w):=QZ fun _ _=>rfl
theorem ZkF {c:Operand} {x y:Code} {v:Bool} (h:(mkF b t ds (.code (.cond c x y)::k)).eval c= .bool v):
  One P cx (ZB (mkF b t ds (.code (.cond c x y)::k)) cs w) (ZB (mkF b t ds (.code (if v then x else y)::k)) cs w):=
 QZ fun _ _=>by
  simp only[mkF]at h
  simp[stepG,stepG.exec,mkF,G,h]
theorem ZnP {id:Nat} {c:Code}:One P cx (ZB (mkF b t ds (.code (.block id c)::k)) cs w) (ZB (mkF b t ds (.code c:: .inBlock id::k)) cs w):=QZ fun _ _=>rfl
theorem ZkD {c:Code}:One P cx (ZB (mkF b t ds (.code (.loop c)::k)) cs w) (ZB (mkF b t ds (.code c:: .inLoop c::k)) cs w):=QZ fun _ _=>rfl
theorem Zgn {c:Code}:One P cx (ZB (mkF b t ds (.inLoop c::k)) cs w) (ZB (mkF b t ds (.code c:: .inLoop c::k)) cs w):=QZ fun _ _=>rfl
theorem ZkE {id:Nat} {k':List Item} (h:exitTo id k=some k'):One P cx (ZB (mkF b t ds (.code (.exit id)::k)) cs w) (ZB (mkF b t ds k') cs w):=QZ fun _ _=>by simp[stepG,stepG.exec,mkF,G,h]
theorem Zp1 {l:Nat} {k':List Item} (h:gotoIn l k=some k'):One P cx (ZB (mkF b t ds (.code (.goto l)::k)) cs w) (ZB (mkF b t ds k') cs w):=QZ fun _ _=>by simp[stepG,stepG.exec,mkF,G,h]
theorem ZbM {id:Nat} {ops:Array Oper}:One P cx (ZB (mkF b t ds (.code (.region id ops false)::k)) cs w) (ZB (mkF b t ds (.inRegion ops (List.range ops.size)::k)) cs w):=QZ fun _ _=>by simp[stepG,stepG.exec,mkF,G]
theorem YI {ops:Array Oper}:One P cx (ZB (mkF b t ds (.inRegion ops []::k)) cs w) (ZB (mkF b t ds k) cs w):=QZ fun _ _=>by simp[stepG,stepG.exec,mkF,G]
theorem Zjv {id:Nat} {ops:Array Oper}:One P cx (ZB (mkF b t ds (.code (.region id ops true)::k)) cs w)
  (ZB (mkF b t ds (.inRegion ops (Region.schedule (P.follows .mixedOrders) ops (w.tape w.drawn (.order b.fn id)))::k)) cs {w with drawn:=w.drawn+1}):=by
 refine OwM.one ⟨Nat,choose (.order b.fn id),fun n=>(mkF b t ds (.inRegion ops (Region.schedule (P.follows .mixedOrders) ops n)::k),cs),w.tape w.drawn (.order b.fn id), #[],fun main w w' x es hr=>?_,fun _=>trivial,rfl,rfl⟩
 have hr:((.ok (w.tape w.drawn (.order b.fn id)) {w with drawn:=w.drawn+1}:Result Nat),(#[]:Array Event))=(.ok x w',es):=hr
 simp only[Prod.mk.injEq,Result.ok.injEq]at hr
 obtain⟨⟨rfl,rfl⟩,rfl⟩:=hr
 rw[seen_none]
 simp[ZB,stepG,stepG.exec,mkF,G,choose,Sem.run,Question.forced,Question.cut]
theorem ZnO (hr:b.roundOf=none):One P cx (ZB (mkF b t ds []) cs w) (ZB {mkF b t ds []with mode:=.returning} cs w):=QZ fun _ _=>by simp[stepG,stepG.exec,mkF,G,hr]
theorem ZnL (hr:b.roundOf=none):One P cx (ZB (mkF b t ds (.code .ret::k)) cs w) (ZB {mkF b t ds (.code .ret::k)with mode:=.returning} cs w):=QZ fun _ _=>by simp[stepG,stepG.exec,mkF,G,hr]
def ZZ (t:Array Value):Option Tmp→Value→Array Value
 |some d,v=>t.setIfInBounds d v
 |none,_=>t
theorem Xa (ops:Array Oper) (i:Nat) (rest:List Nat) (v:Value):
  (mkF b t ds (.inRegion ops (i::rest)::k)).finish v=mkF b (ZZ t ((ops[i]?).bind (·.dst)) v) ds (.inRegion ops rest::k):=by
 cases h:(ops[i]?).bind (·.dst)<;>simp[Frame.finish,mkF,ZZ,h]
theorem Zlg {ops:Array Oper} {i:Nat} {rest:List Nat} (h:((ops[i]?).map (Region.wanted · (yielded ops t))).getD false=false):
  One P cx (ZB (mkF b t ds (.inRegion ops (i::rest)::k)) cs w) (ZB (mkF b (ZZ t ((ops[i]?).bind (·.dst)) undef) ds (.inRegion ops rest::k)) cs w):=by
 rw[←Xa]
 exact QZ fun _ _=>by
  have h':=h
  simp only[mkF]at*
  simp[stepG,stepG.exec,G,h']
def Qv (t:Array Value):Operand→Value
 |.tmp i=>t.getD i undef
 |.const v=>v
 |.global g=>.pointer (some ⟨g,0,none⟩)
 |.func f=>.func (.func f) #[] #[]
theorem ZbR (todo:List Item):(mkF b t ds todo).eval=Qv t:=by funext x;cases x<;>rfl
theorem Zcm {ops:Array Oper} {i:Nat} {rest:List Nat} {o:Oper} (ho:ops[i]? =some o) (hw:Region.wanted o (yielded ops t)=true) (hd:∀c,o.op≠ .defer c) (main:Bool) (w:World):
  stepG P main (G (mkF b t ds (.inRegion ops (i::rest)::k)) cs) w=stepG.apply P true (mkF b t ds (.inRegion ops (i::rest)::k)) cs none (execOp (Qv t) o) w:=by
 have he:(mkF b t ds (.inRegion ops (i::rest)::k)).eval=Qv t:=ZbR _
 have h1:(mkF b t ds (.inRegion ops (i::rest)::k)).oper?=some o:=by simp[Frame.oper?,mkF,ho]
 have h2:stepG P main (G (mkF b t ds (.inRegion ops (i::rest)::k)) cs) w=stepG.oper P true (mkF b t ds (.inRegion ops (i::rest)::k)) cs none w:=by
  simp[stepG,stepG.exec,mkF,G,ho,hw]
 rw[h2]
 unfold stepG.oper
 simp only[h1,he]
 split
 ·rename_i l c hl hc
  exact absurd hc (hd c)
 ·rfl
open Classical in
theorem ZbO {fr:Frame} {cs:List Frame} {s:Sem Next} {nv:Next} {w w':World} (hk:(fr.kind== .early)=false) (hc:∀d r sv k,fr.todo≠ .call d true r sv::k)
  (h:∀main w,stepG P main (G fr cs) w=stepG.apply P true fr cs none s w) (hm:Zt P (fun _=>False) s) (hr:s.run P w= .ok nv w') (hp:Next.plain nv):
  One P cx (ZB fr cs w) (ZB (opF P fr cs nv).1 (opF P fr cs nv).2 w'):=by
 let s':Sem Next:=s.bind fun x=>if Next.plain x then pure x else stuck ""
 have hplain:∀w x w' es es',s'.runT P w es=(.ok x w',es')→s.runT P w es=(.ok x w',es')∧Next.plain x:=fun w x w' es es' hr=>by
  simp only[s']at hr
  rw[Sem.runT_bind']at hr
  split at hr
  ·rename_i a w1 es1 ha
   split at hr
   ·rename_i hpl
    have:((.ok a w1:Result Next),es1)=(.ok x w',es'):=hr
    simp only[Prod.mk.injEq,Result.ok.injEq]at this
    obtain⟨⟨rfl,rfl⟩,rfl⟩:=this
    exact⟨ha,hpl⟩
   ·have:((.halt (.stuck "") w1:Result Next),es1)=(.ok x w',es'):=hr
    simp at this
  ·simp at hr
 refine OwM.one ⟨Next,s',opF P fr cs,nv,s.events P w #[],fun main w w' x es hr=>?_,Z9.bind hm fun a K _ _=>?_,?_,rfl⟩
 ·obtain⟨h1,h2⟩:=hplain _ _ _ _ _ hr
  have h3:=congrArg Prod.fst h1
  rw[Sem.runT_eq]at h3
  simp only at h3
  show stepG P main (G fr cs) w=_
  rw[h main w]
  unfold stepG.apply
  simp only[if_true,h1,hk,Bool.false_eq_true,if_false]
  cases x<;>first|exact h2.elim|skip
  ·simp[GStep.after,G,opF,ZB]
  ·simp[GStep.after,G,opF,ZB]
  ·simp only[GStep.after,G,opF,ZB]
   simp
  ·simp[GStep.after,G,opF,ZB]
 ·split
  ·exact Zl
  ·exact Z3
 ·show(s.bind _).runT P w #[]=_
  rw[Sem.runT_bind',Sem.runT_eq,hr]
  simp only
  rw[if_pos hp]
  rfl
theorem J6 {ops:Array Oper} {i:Nat} {rest:List Nat} {o:Oper} {v:Value} {w':World} {nv:Next} (ho:ops[i]? =some o) (hw:Region.wanted o (yielded ops t)=true) (hd:∀c,o.op≠ .defer c) (hm:Zt P (fun _=>False) (execOp (Qv t) o))
  (hr:(execOp (Qv t) o).run P w= .ok nv w') (hnv:nv= .value v∨(nv= .skip∧v=undef)):
  One P cx (ZB (mkF b t ds (.inRegion ops (i::rest)::k)) cs w) (ZB (mkF b (ZZ t o.dst v) ds (.inRegion ops rest::k)) cs w'):=by
 have hf:(mkF b t ds (.inRegion ops (i::rest)::k)).finish v=mkF b (ZZ t o.dst v) ds (.inRegion ops rest::k):=by rw[Xa,ho];rfl
 rw[←hf]
 have:=ZbO (cx:=cx) (fr:=mkF b t ds (.inRegion ops (i::rest)::k)) (cs:=cs) b.not_early (fun _ _ _ _ e=>by cases e) (Zcm ho hw hd) hm hr (by rcases hnv with rfl|⟨rfl,_⟩<;>trivial)
 rcases hnv with rfl|⟨rfl,rfl⟩<;>exact this
theorem Zjw {ops:Array Oper} {i:Nat} {rest:List Nat} {o:Oper} {l:Nat} {f:FuncId} {tmps:Array Value} {a x:Code} {w':World} (ho:ops[i]? =some o) (hw:Region.wanted o (yielded ops t)=true) (hd:∀c,o.op≠ .defer c) (hm:Zt P (fun _=>False) (execOp (Qv t) o))
  (hr:(execOp (Qv t) o).run P w= .ok (.round l f tmps a x) w'):
  One P cx (ZB (mkF b t ds (.inRegion ops (i::rest)::k)) cs w) (ZB (Frame.round l f tmps a x .normal) (mkF b t ds (.inRegion ops (i::rest)::k)::cs) w'):=
 ZbO (fr:=mkF b t ds (.inRegion ops (i::rest)::k)) b.not_early (fun _ _ _ _ e=>by cases e) (Zcm ho hw hd) hm hr trivial
theorem Zli {ops:Array Oper} {i:Nat} {rest:List Nat} {o:Oper} {f:FuncId} {args:Array Value} {w':World} (ho:ops[i]? =some o) (hw:Region.wanted o (yielded ops t)=true) (hd:∀c,o.op≠ .defer c) (hm:Zt P (fun _=>False) (execOp (Qv t) o))
  (hr:(execOp (Qv t) o).run P w= .ok (.enter f args) w'):
  One P cx (ZB (mkF b t ds (.inRegion ops (i::rest)::k)) cs w) (ZB (Frame.enter P f args .normal) (mkF b t ds (.inRegion ops (i::rest)::k)::cs) w'):=
 ZbO (fr:=mkF b t ds (.inRegion ops (i::rest)::k)) b.not_early (fun _ _ _ _ e=>by cases e) (Zcm ho hw hd) hm hr trivial
theorem Zlh {ops:Array Oper} {i:Nat} {rest:List Nat} {o:Oper} {c x:Operand} {ch:Nat} {v:Bool} {buf:Array Value} {s r:Nat} {tm:Bool} (ho:ops[i]? =some o) (hw:Region.wanted o (yielded ops t)=true) (hop:o.op= .send c x) (hc:Qv t c= .chan (some ch)) (hx:Qv t x= .bool v)
  (hcell:w.heap[ch]? =some (.chan 0 buf false s r tm)):One P (some ch) (ZB (mkF b t ds (.inRegion ops (i::rest)::k)) cs w) (ZB (mkF b (ZZ t o.dst undef) ds (.inRegion ops rest::k)) cs (w.setChan ch 0 (buf.push (.bool v)) false (s+1) r tm)):=by
 have hf:(mkF b t ds (.inRegion ops (i::rest)::k)).finish undef=mkF b (ZZ t o.dst undef) ds (.inRegion ops rest::k):=by rw[Xa,ho];rfl
 refine .inr ⟨v,buf,s,r,tm,⟨.tuple #[],fun w=>?_⟩,hcell,by rw[←hf];rfl⟩
 show stepG P false (G (mkF b t ds (.inRegion ops (i::rest)::k)) cs) w=_
 rw[Zcm ho hw (fun c e=>by rw[hop]at e;cases e)]
 have he:execOp (Qv t) o=pure (.comm #[scase ch (.bool v) (.tuple #[])] true .send):=by
  unfold execOp
  simp only[hop,hc,hx]
  rfl
 rw[he]
 unfold stepG.apply
 simp[GStep.after,G,b.not_early,mkF]
 exact⟨⟨rfl,rfl⟩,seen_none _ _⟩
theorem ZcK {α:Type} {s:Sem α} {F:α→Frame×List Frame} {fr fr':Frame} {cs':List Frame} {w w':World} {x:α} (hS:Zo3 P fr cs s F) (hm:Zt P (fun _=>False) s) (hr:s.run P w= .ok x w') (hF:F x=(fr',cs')):One P cx (ZB fr cs w) (ZB fr' cs' w'):=
 OwM.one ⟨α,s,F,x,s.events P w #[],hS,hm,by
  rw[Sem.runT_eq]
  show(s.run P w,_)=_
  rw[hr]
  rfl,hF⟩
theorem Zay {α:Type} {s:Sem α} {w w':World} {x:α} {es:Array Event} (h:s.runT P w #[]=(.ok x w',es)):s.run P w= .ok x w'∧s.events P w #[]=es:=by
 rw[Sem.runT_eq]at h
 exact⟨congrArg Prod.fst h,congrArg Prod.snd h⟩
theorem ZcO {fn:Func} {tmps:Array Value} {K:Nat→Prop}:Zt P K (results fn tmps):=
 Zh (fun K=>Zfg (fun r K=>by
  cases r with
  |tmp t=>exact Zl
  |cell a t=>exact Zh (fun _=>Zd6) fun _ _=>ZaE) _ K) fun _ _=>Zl
theorem ZnM {c:Frame} {todo:List Item} {v:Value} {fn:Func} (hk:b.df=false) (hf:P.funcs[b.fn]? =some fn) (hr:(results fn t).run P w= .ok v w):
  One P cx (ZB {mkF b t [] todo with mode:=.returning} (c::cs) w) (ZB (c.finish v) cs w):=by
 refine ZcK (s:=results fn t) (F:=fun v=>(c.finish v,cs)) (fun main w w' x es h=>?_) ZcO hr rfl
 obtain⟨h1,h2⟩:=Zay h
 have hk:b.kind= .normal:=by simp[FB.kind,hk]
 simp[G,stepG,unwind,doReturn,mkF,hk,hf,h1,h2,GStep.after]
theorem ZcM {r:Nat} {K:Nat→Prop}:Zt P K (Instr.takeDeferred r):=
 Q7 (fun o ho=>by
  split
  ·exact Z9.bind (Xs (.inr rfl) rfl) fun _ _ _ _=>Zl
  ·exact Z3) (fun o ho=>by cases o<;>first|exact ZaR|(cases ho;done))
theorem ZnJ {r:Nat} {calls:List Deferred} {todo:List Item} {w':World} (hr:(Instr.takeDeferred r).run P w= .ok calls w'):
  One P cx (ZB {mkF b t ({target:=.collected r,args:= #[]}::ds) todo with mode:=.returning} cs w) (ZB {mkF b t (calls++ds) todo with mode:=.returning} cs w'):=by
 refine ZcK (s:=Instr.takeDeferred r) (F:=fun calls=>({mkF b t (calls++ds) todo with mode:=.returning},cs)) (fun main w w' x es h=>?_) ZcM hr rfl
 obtain⟨h1,h2⟩:=Zay h
 simp[G,stepG,unwind,mkF,h1,h2,GStep.after]
theorem Ji {α:Type} {l:Nat} {K:Nat→Prop} {f:Loop→Sem α} (hf:∀r,Zt P (fun x=>K x∨x=l) (f r)):Zt P K (Instr.getLoop l>>=f):=by
 have:Instr.getLoop l>>=f=getObj l>>=fun o=>(match o with|.loop r=>f r|_=>stuck "range over a function: no such loop"):=by
  show(Instr.getLoop l).bind f=(getObj l).bind _
  unfold Instr.getLoop
  show Sem.getObj l _=Sem.getObj l _
  congr 1
  funext o
  cases o<;>rfl
 rw[this]
 refine Q7 (fun o ho=>?_) (fun o ho=>by cases o<;>first|exact ZaR|(cases ho;done))
 split
 ·exact hf _
 ·exact Z3
theorem Zep {l:Nat} {K:Nat→Prop}:Zt P K (Instr.beginRound l):=Ji fun r=>Z9.bind (Xs (.inr rfl) rfl) fun _ K' _ _=>by
 split
 ·exact Zl
 ·exact ZR
 ·exact ZR
 ·exact ZR
theorem Zf7 {l:Nat} {j:Option Code} {K:Nat→Prop}:Zt P K (Instr.endRound l j):=Ji fun r=>Z9.bind (Xs (.inr rfl) rfl) fun _ K' _ _=>Zl
theorem Zhu {l:Nat} {K:Nat→Prop}:Zt P K (Instr.endLoop l):=Ji fun r=>by
 split
 ·exact .of_dies (Qi.bind_left YB) _
 ·exact Z9.bind (Xs (.inr rfl) rfl) fun _ K' _ _=>Zl
theorem ZjG {l:Nat} {args:Array Value} {K:Nat→Prop}:Zt P K (Instr.yield l args):=Ji fun r=>by
 split
 ·exact Zh (fun _=>Z3) fun _ _=>Zl
 ·exact Zl
theorem Zf2 {l:Nat} {w':World} (hb:b.roundOf=some l) (hr:(Instr.beginRound l).run P w= .ok () w'):One P cx (ZB (mkF b t ds (.beginRound::k)) cs w) (ZB (mkF b t ds k) cs w'):=by
 refine ZbO (s:=(do Instr.beginRound l;pure .skip)) (nv:=.skip) (fr:=mkF b t ds (.beginRound::k)) b.not_early (fun _ _ _ _ e=>by cases e) (fun main w=>?_) (Zh (fun _=>Zep) fun _ _=>Zl) ?_ trivial
 ·simp[stepG,stepG.exec,mkF,G,hb]
 ·rw[Sem.run_bind,hr]
  rfl
theorem ZeP {l:Nat} {j:Option Code} {todo:List Item} {v:Value} {w':World} {c:Frame} (hb:b.roundOf=some l) (hk:b.df=false) (hj:(j=none∧todo=[])∨(j=some .ret∧∃k,todo= .code .ret::k)∨∃id k,j=some (.exit id)∧todo= .code (.exit id)::k∧exitTo id k=none)
  (hr:(Instr.endRound l j).run P w= .ok v w'):One P cx (ZB (mkF b t ds todo) (c::cs) w) (ZB (c.finish v) cs w'):=by
 refine ZcK (s:=Instr.endRound l j) (F:=fun v=>(c.finish v,cs)) (fun main w w' x es h=>?_) Zf7 hr rfl
 obtain⟨h1,h2⟩:=Zay h
 have hk:b.kind= .normal:=by simp[FB.kind,hk]
 rcases hj with⟨rfl,rfl⟩|⟨rfl,k,rfl⟩|⟨id,k,rfl,rfl,hx⟩
 ·simp[G,stepG,stepG.exec,mkF,hb,hk,h1,h2,doReturn,GStep.after]
 ·simp[G,stepG,stepG.exec,mkF,hb,hk,h1,h2,doReturn,GStep.after]
 ·simp[G,stepG,stepG.exec,mkF,hb,hk,hx,h1,h2,doReturn,GStep.after]
theorem Zek {l:Nat} {jump:Option Code} {w':World} (h:(Instr.endLoop l).run P w= .ok jump w'):One P cx (ZB (mkF b t ds (.endRangeFunc l::k)) cs w) (ZB (mkF b t ds ((jump.map Item.code).toList++k)) cs w'):=by
 refine ZcK (s:=Instr.endLoop l) (F:=fun jump=>(mkF b t ds ((jump.map Item.code).toList++k),cs)) (fun main w w' x es h=>?_) Zhu h rfl
 obtain⟨h1,h2⟩:=Zay h
 simp[G,stepG,stepG.exec,mkF,h1,h2,GStep.after]
theorem Zf8 {fid:FuncId} {args:Array Value} {fn:Func} {c:Code} {K:Nat→Prop} (h1:P.funcs[fid]? =some fn) (h2:fn.body=some c) (h3:(fn.name== "runtime.NumGoroutine")=false):Zt P K (callFunc fid args):=by
 show Zt P K (match P.funcs[fid]? with|none=>_|some fn=>_)
 rw[h1]
 have h3':fn.name≠ "runtime.NumGoroutine" :=by simpa using h3
 simp only[h2,h3,Option.isNone_some,Bool.false_eq_true,if_false]
 exact Zl
theorem Zfi {fid:FuncId} {f:Operand} {xs:Array Operand} {ts:Array TypeId} {ty:TypeId} {us vs:Array Value} {fn:Func} {c:Code} {K:Nat→Prop} (hf:Qv t f= .func (.func fid) us vs) (h1:P.funcs[fid]? =some fn) (h2:fn.body=some c) (h3:(fn.name== "runtime.NumGoroutine")=false):
  Zt P K (do let d←resolve (Qv t) {callee:=.value f,args:=xs,argTypes:=ts} ty;invoke d.target d.args):=by
 have e:(do let d←resolve (Qv t) {callee:=.value f,args:=xs,argTypes:=ts} ty;invoke d.target d.args:Sem Next)=callFunc fid (us++xs.map (Qv t)++vs):=by
  simp only[resolve,hf,Deferred.ofValue]
  rfl
 rw[e]
 exact Zf8 h1 h2 h3
theorem ZjO {l:Nat} {f:Operand} {xs:Array Operand} {ts:Array TypeId} {ty:TypeId} {K:Nat→Prop} (hf:Qv t f= .func (.yield l) #[] #[]):
  Zt P K (do let d←resolve (Qv t) {callee:=.value f,args:=xs,argTypes:=ts} ty;invoke d.target d.args):=by
 have e:(do let d←resolve (Qv t) {callee:=.value f,args:=xs,argTypes:=ts} ty;invoke d.target d.args:Sem Next)=Instr.yield l (#[]++xs.map (Qv t)):=by
  simp only[resolve,hf,Deferred.ofValue]
  rfl
 rw[e]
 exact ZjG
def ZkT:Next→Bool
 |.enter .. =>true
 |_=>false
def ZtF (P:Program) (b:FB) (t:Array Value) (ds:List Deferred) (k:List Item) (cs:List Frame) (x:(Nat×List Deferred)×Next):Frame×List Frame:=match x.2 with
 |.enter f args=>(Frame.enter P f args .normal,mkF b t (x.1.2++ds) (.inRangeFunc x.1.1::k)::cs)
 |_=>(default,[])
theorem Zha {w₁ w₂:World} {g:Operand} {ps:Array Tmp} {a x:Code} {l:Nat} {mark:List Deferred} {f:FuncId} {args:Array Value} (hb:b.roundOf=none)
  (he:(Instr.enterLoop b.fn t ps a x b.roundOf).run P w= .ok (l,mark) w₁) (hm:∀l K,Zt P K (do let d←resolve (Qv t) (rangeCall g l) 0;invoke d.target d.args))
  (hc:((do let d←resolve (Qv t) (rangeCall g l) 0;invoke d.target d.args):Sem Next).run P w₁= .ok (.enter f args) w₂):
  One P cx (ZB (mkF b t ds (.code (.rangeFunc g ps a x)::k)) cs w) (ZB (Frame.enter P f args .normal) (mkF b t (mark++ds) (.inRangeFunc l::k)::cs) w₂):=by
 have hen:∀w:World,(Instr.enterLoop b.fn t ps a x none).runT P w #[]=(.ok ((w.heap.push (.deferred (some []))).size,[{target:=.collected w.heap.size,args:= #[]}])
   {w with heap:=(w.heap.push (.deferred (some []))).push (.loop {state:=.ready,pending:=none,fn:=b.fn,tmps:=t,params:=ps,assign:=a,body:=x,defers:=w.heap.size})}, #[]):=fun w=>rfl
 let call (l:Nat):Sem Next:=do let d←resolve (Qv t) (rangeCall g l) 0;invoke d.target d.args
 let s:Sem ((Nat×List Deferred)×Next):=(Instr.enterLoop b.fn t ps a x none).bind fun lm=>(call lm.1).bind fun nx=>if ZkT nx then pure (lm,nx)else stuck ""
 rw[hb]at he
 refine ZcK (s:=s) (F:=ZtF P b t ds k cs) (fun main w w' y es h=>?_) ?_ (x:=((l,mark),.enter f args)) ?_ rfl
 ·show stepG P main (G (mkF b t ds (.code (.rangeFunc g ps a x)::k)) cs) w=_
  simp only[s]at h
  rw[Sem.runT_bind',hen w]at h
  simp only at h
  rw[Sem.runT_bind']at h
  obtain⟨⟨l',mk'⟩,nx⟩:=y
  cases hcall:(call (w.heap.push (.deferred (some []))).size).runT P {w with heap:=(w.heap.push (.deferred (some []))).push (.loop {state:=.ready,pending:=none,fn:=b.fn,tmps:=t,params:=ps,assign:=a,body:=x,defers:=w.heap.size})} #[]with
  |mk r es'=>
   rw[hcall]at h
   cases r with
   |halt hh w2=>simp at h
   |ok nx' w2=>
    simp only at h
    cases nx' with
    |enter f' args'=>
     have h:((.ok (((w.heap.push (.deferred (some []))).size,[{target:=.collected w.heap.size,args:= #[]}]),.enter f' args') w2:Result _),es')=(.ok ((l',mk'),nx) w',es):=h
     simp only[Prod.mk.injEq,Result.ok.injEq]at h
     obtain⟨⟨⟨⟨rfl,rfl⟩,rfl⟩,rfl⟩,rfl⟩:=h
     have hev:(mkF b t ([{target:=.collected w.heap.size,args:= #[]}]++ds) (.inRangeFunc (w.heap.push (.deferred (some []))).size::k)).eval=Qv t:=ZbR _
     simp only[mkF,hb]at hev
     have hke:=b.not_early
     simp only[G,stepG,stepG.exec,mkF,hb,hen w]
     rw[seen_none]
     unfold stepG.apply
     simp only[if_true,hev]
     rw[show((do let d←resolve (Qv t) {callee:=.value g,args:= #[.const (.func (.yield (w.heap.push (.deferred (some []))).size) #[] #[])],argTypes:= #[]} 0;invoke d.target d.args):Sem Next)=call (w.heap.push (.deferred (some []))).size from rfl,hcall]
     simp[GStep.after,ZtF,hke,mkF,ZB,hb]
    |_=>
     have h:((.halt (.stuck "") w2:Result ((Nat×List Deferred)×Next)),es')=(.ok ((l',mk'),nx) w',es):=h
     simp at h
 ·refine Z9.bind (?_:Zt P _ (Instr.enterLoop b.fn t ps a x none)) fun lm K _ _=>Z9.bind (hm lm.1 K) fun nx K _ _=>?_
  ·exact .inl ⟨rfl,fun r=>.inl ⟨rfl,fun r=>trivial⟩⟩
  ·split
   ·exact Zl
   ·exact Z3
 ·show((Instr.enterLoop b.fn t ps a x none)>>=fun lm=>(call lm.1)>>=fun nx=>if ZkT nx then pure (lm,nx)else stuck "").run P w=_
  rw[Sem.run_bind,he,Result.andThen_ok,Sem.run_bind]
  rw[show(call l).run P w₁=_ from hc,Result.andThen_ok]
  rfl
def Zg3 (P:Program) (cx:Option Nat) (f:FuncId) (vs:Array Value) (cs:List Frame) (w:World) (v:Value) (w':World):Prop:=
 ∃(b:FB) (t:Array Value) (todo:List Item) (fn:Func),Steps P cx (ZB (Frame.enter P f vs .normal) cs w) (ZB {mkF b t [] todo with mode:=.returning} cs w')∧b.df=false∧P.funcs[b.fn]? =some fn∧(results fn t).run P w'= .ok v w'∧b.fn=f
theorem Zg3.call {f:FuncId} {vs:Array Value} {c:Frame} {w w':World} {v:Value} (h:Zg3 P cx f vs (c::cs) w v w'):Steps P cx (ZB (Frame.enter P f vs .normal) (c::cs) w) (ZB (c.finish v) cs w'):=by
 obtain⟨b,t,todo,fn,h1,h2,h3,h4,_⟩:=h
 exact h1.trans (.one (ZnM h2 h3 h4))
end
end Go.Proofs.YtjgpiclllehgmaaGreat.Vm
