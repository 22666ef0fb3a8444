/- Lemmas. -/
import Derived.RangeFuncIn
import Derived.Orders
import Derived.Test.YtjgpiclllehgmaaGreatME
import Derived.Test.YtjgpiclllehgmaaGreatCxLeaf
set_option linter.all false
open Bool renaming false_eq_true->aX
open Go.Frame renaming enter->dM
open Prod renaming fst->gt
open Prod.mk renaming injEq->aK
open Go.Result renaming andThen_ok->aH
open Go.Sem renaming run_bind->aP
namespace Go.Proofs.YtjgpiclllehgmaaGreat
namespace Vm
open Go Go.Conc Conc1
def ZH (fr:Frame) (cs:List Frame) (w:World):Cf:=⟨fr,cs,w⟩
abbrev Steps (P:Program) (cx:Option Nat):Cf->Cf->Prop:=StepsC P cx
theorem Steps.trans {P:Program} {cx:Option Nat} {a b c:Cf} (h:Steps P cx a b) (h':Steps P cx b c):Steps P cx a c:=StepsC.trans h h'
structure FB where
 fn:FuncId
 df:Bool
 roundOf:Option Nat
 base:List Deferred
def FB.kind (b:FB):CallKind:=if b.df then .deferred else .normal
def mkF (b:FB) (tmps:Array Value) (ds:List Deferred) (todo:List Item):Frame:=
 {fn:=b.fn,tmps,todo,defers:=ds,mode:=.run,kind:=b.kind,roundOf:=b.roundOf}
theorem FB.not_early (b:FB):(b.kind== .early)=false:=by unfold FB.kind;split<;>rfl
section
variable {P:Program} {cx:Option Nat} {b:FB} {t:Array Value} {ds:List Deferred} {k:List Item} {cs:List Frame} {w:World}
theorem Xc {fr H:Frame} {cs A:List Frame} (h:∀main w,stepG P main (G fr cs) w= .go (G H A) w):One P cx (ZH fr cs w) (ZH H A w):=by
 refine OwM.one ⟨Unit,pure (),fun _=>(H,A),(), #[],fun main w I x es hr=>?_,trivial,rfl,rfl⟩;have hr:((.ok () w:Result Unit),(#[]:Array Event))=(.ok x I,es):=hr;simp only[aK,Result.ok.injEq]at hr;obtain⟨⟨_,rfl⟩,rfl⟩:=hr;exact(h main w).trans (by rw[seen_none])
theorem Zsf:One P cx (ZH (mkF b t ds (.code .skip::k)) cs w) (ZH (mkF b t ds k) cs w):=Xc fun _ _=>rfl
theorem ZpP {l:Nat}:One P cx (ZH (mkF b t ds (.code (.label l)::k)) cs w) (ZH (mkF b t ds k) cs w):=Xc fun _ _=>rfl
theorem ZkZ {x:Code}:One P cx (ZH (mkF b t ds (.inScope x::k)) cs w) (ZH (mkF b t ds k) cs w):=Xc fun _ _=>rfl
theorem ZpM {x:Code}:One P cx (ZH (mkF b t ds (.code (.scope x)::k)) cs w) (ZH (mkF b t ds (.code x:: .inScope x::k)) cs w):=Xc fun _ _=>rfl
theorem Zk0 {id:Nat}:One P cx (ZH (mkF b t ds (.inBlock id::k)) cs w) (ZH (mkF b t ds k) cs w):=Xc fun _ _=>rfl
theorem Zih {x y:Code}:One P cx (ZH (mkF b t ds (.code (.seq x y)::k)) cs w) (ZH (mkF b t ds (.code x:: .code y::k)) cs w):=Xc fun _ _=>rfl
theorem Zmh {c:Operand} {x y:Code} {v:Bool} (h:(mkF b t ds (.code (.cond c x y)::k)).eval c= .bool v):
  One P cx (ZH (mkF b t ds (.code (.cond c x y)::k)) cs w) (ZH (mkF b t ds (.code (if v then x else y)::k)) cs w):=
 Xc fun _ _=>by
  simp only[mkF]at h;simp[stepG,stepG.exec,mkF,G,h]
theorem ZpR {id:Nat} {c:Code}:One P cx (ZH (mkF b t ds (.code (.block id c)::k)) cs w) (ZH (mkF b t ds (.code c:: .inBlock id::k)) cs w):=Xc fun _ _=>rfl
theorem Zmf {c:Code}:One P cx (ZH (mkF b t ds (.code (.loop c)::k)) cs w) (ZH (mkF b t ds (.code c:: .inLoop c::k)) cs w):=Xc fun _ _=>rfl
theorem Zhv {c:Code}:One P cx (ZH (mkF b t ds (.inLoop c::k)) cs w) (ZH (mkF b t ds (.code c:: .inLoop c::k)) cs w):=Xc fun _ _=>rfl
theorem Zmg {id:Nat} {A:List Item} (h:exitTo id k=some A):One P cx (ZH (mkF b t ds (.code (.exit id)::k)) cs w) (ZH (mkF b t ds A) cs w):=Xc fun _ _=>by simp[stepG,stepG.exec,mkF,G,h]
theorem Zsg {l:Nat} {A:List Item} (h:gotoIn l k=some A):One P cx (ZH (mkF b t ds (.code (.goto l)::k)) cs w) (ZH (mkF b t ds A) cs w):=Xc fun _ _=>by simp[stepG,stepG.exec,mkF,G,h]
theorem Zct {id:Nat} {ops:Array Oper}:One P cx (ZH (mkF b t ds (.code (.region id ops false)::k)) cs w) (ZH (mkF b t ds (.inRegion ops (List.range ops.size)::k)) cs w):=Xc fun _ _=>by simp[stepG,stepG.exec,mkF,G]
theorem Y8 {ops:Array Oper}:One P cx (ZH (mkF b t ds (.inRegion ops []::k)) cs w) (ZH (mkF b t ds k) cs w):=Xc fun _ _=>by simp[stepG,stepG.exec,mkF,G]
theorem ZkX {id:Nat} {ops:Array Oper}:One P cx (ZH (mkF b t ds (.code (.region id ops true)::k)) cs w)
  (ZH (mkF b t ds (.inRegion ops (Region.schedule (P.follows .mixedOrders) ops (w.tape w.drawn (.order b.fn id)))::k)) cs {w with drawn:=w.drawn+1}):=by
 refine OwM.one ⟨Nat,choose (.order b.fn id),fun n=>(mkF b t ds (.inRegion ops (Region.schedule (P.follows .mixedOrders) ops n)::k),cs),w.tape w.drawn (.order b.fn id), #[],fun main w A x es hr=>?_,fun _=>trivial,rfl,rfl⟩;have hr:((.ok (w.tape w.drawn (.order b.fn id)) {w with drawn:=w.drawn+1}:Result Nat),(#[]:Array Event))=(.ok x A,es):=hr;simp only[aK,Result.ok.injEq]at hr;obtain⟨⟨rfl,rfl⟩,rfl⟩:=hr;rw[seen_none];simp[ZH,stepG,stepG.exec,mkF,G,choose,Sem.run,Question.forced,Question.cut]
theorem ZpQ (hr:b.roundOf=none):One P cx (ZH (mkF b t ds []) cs w) (ZH {mkF b t ds []with mode:=.returning} cs w):=Xc fun _ _=>by simp[stepG,stepG.exec,mkF,G,hr]
theorem ZpN (hr:b.roundOf=none):One P cx (ZH (mkF b t ds (.code .ret::k)) cs w) (ZH {mkF b t ds (.code .ret::k)with mode:=.returning} cs w):=Xc fun _ _=>by simp[stepG,stepG.exec,mkF,G,hr]
def Z2 (t:Array Value):Option Tmp->Value->Array Value
 |some d,v=>t.setIfInBounds d v
 |none,_=>t
theorem Xq (ops:Array Oper) (i:Nat) (rest:List Nat) (v:Value):
  (mkF b t ds (.inRegion ops (i::rest)::k)).finish v=mkF b (Z2 t ((ops[i]?).bind (·.dst)) v) ds (.inRegion ops rest::k):=by
 cases h:(ops[i]?).bind (·.dst)<;>simp[Frame.finish,mkF,Z2,h]
theorem Zm3 {ops:Array Oper} {i:Nat} {rest:List Nat} (h:((ops[i]?).map (Region.wanted · (yielded ops t))).getD false=false):
  One P cx (ZH (mkF b t ds (.inRegion ops (i::rest)::k)) cs w) (ZH (mkF b (Z2 t ((ops[i]?).bind (·.dst)) undef) ds (.inRegion ops rest::k)) cs w):=by
 rw[<-Xq];exact Xc fun _ _=>by
  have A:=h;simp only[mkF]at*;simp[stepG,stepG.exec,G,A]
def QH (t:Array Value):Operand->Value
 |.tmp i=>t.getD i undef
 |.const v=>v
 |.global g=>.pointer (some ⟨g,0,none⟩)
 |.func f=>.func (.func f) #[] #[]
theorem Zcz (todo:List Item):(mkF b t ds todo).eval=QH t:=by funext x;cases x<;>rfl
theorem Zc6 {ops:Array Oper} {i:Nat} {rest:List Nat} {o:Oper} (A:ops[i]? =some o) (hw:Region.wanted o (yielded ops t)=true) (S:∀c,o.op≠ .defer c) (main:Bool) (w:World):
  stepG P main (G (mkF b t ds (.inRegion ops (i::rest)::k)) cs) w=stepG.apply P true (mkF b t ds (.inRegion ops (i::rest)::k)) cs none (execOp (QH t) o) w:=by
 have J:(mkF b t ds (.inRegion ops (i::rest)::k)).eval=QH t:=Zcz _;have U:(mkF b t ds (.inRegion ops (i::rest)::k)).oper?=some o:=by simp[Frame.oper?,mkF,A]
 have I:stepG P main (G (mkF b t ds (.inRegion ops (i::rest)::k)) cs) w=stepG.oper P true (mkF b t ds (.inRegion ops (i::rest)::k)) cs none w:=by
  simp[stepG,stepG.exec,mkF,G,A,hw]
 rw[I];unfold stepG.oper;simp only[U,J];split
 ·rename_i l c V H;exact absurd H (S c)
 rfl
open Classical in
theorem Zcw {fr:Frame} {cs:List Frame} {s:Sem Next} {nv:Next} {w w':World} (hk:(fr.kind== .early)=false) (hc:∀d r Z k,fr.todo≠ .call d true r Z::k)
  (h:∀main w,stepG P main (G fr cs) w=stepG.apply P true fr cs none s w) (hm:Zv P (fun _=>False) s) (hr:s.run P w= .ok nv w') (hp:Next.plain nv):
  One P cx (ZH fr cs w) (ZH (opF P fr cs nv).1 (opF P fr cs nv).2 w'):=by
 let J:Sem Next:=s.bind fun x=>if Next.plain x then pure x else stuck ""
 have H:∀w x w' es A,J.runT P w es=(.ok x w',A)->s.runT P w es=(.ok x w',A)/\Next.plain x:=fun w x w' es A hr=>by
  simp only[J]at hr;rw[Sem.runT_bind']at hr;split at hr
  ·rename_i a V I ha;split at hr
   ·rename_i S;have:((.ok a V:Result Next),I)=(.ok x w',A):=hr;simp only[aK,Result.ok.injEq]at this;obtain⟨⟨rfl,rfl⟩,rfl⟩:=this;exact⟨ha,S⟩
   have:((.halt (.stuck "") V:Result Next),I)=(.ok x w',A):=hr
   simp at this
  simp at hr
 refine OwM.one ⟨Next,J,opF P fr cs,nv,s.events P w #[],fun main w w' x es hr=>?_,Qc.bind hm fun a K _ _=>?_,?_,rfl⟩
 ·obtain⟨Y,h2⟩:=H _ _ _ _ _ hr;have U:=congrArg gt Y;rw[Sem.runT_eq]at U;simp only at U;show stepG P main (G fr cs) w=_;rw[h main w];unfold stepG.apply;simp only[if_true,Y,hk,aX,if_false];cases x<;>first|exact h2.elim|skip
  ·simp[GStep.after,G,opF,ZH]
  ·simp[GStep.after,G,opF,ZH]
  ·simp only[GStep.after,G,opF,ZH];simp
  simp[GStep.after,G,opF,ZH]
 ·split
  ·exact Zn
  exact Z8
 show(s.bind _).runT P w #[]=_;rw[Sem.runT_bind',Sem.runT_eq,hr];simp only;rw[if_pos hp];rfl
theorem ZaH {ops:Array Oper} {i:Nat} {rest:List Nat} {o:Oper} {v:Value} {w':World} {nv:Next} (G:ops[i]? =some o) (hw:Region.wanted o (yielded ops t)=true) (I:∀c,o.op≠ .defer c) (hm:Zv P (fun _=>False) (execOp (QH t) o))
  (hr:(execOp (QH t) o).run P w= .ok nv w') (A:nv= .value v\/(nv= .skip/\v=undef)):
  One P cx (ZH (mkF b t ds (.inRegion ops (i::rest)::k)) cs w) (ZH (mkF b (Z2 t o.dst v) ds (.inRegion ops rest::k)) cs w'):=by
 have H:(mkF b t ds (.inRegion ops (i::rest)::k)).finish v=mkF b (Z2 t o.dst v) ds (.inRegion ops rest::k):=by rw[Xq,G];rfl
 rw[<-H];have:=Zcw (cx:=cx) (fr:=mkF b t ds (.inRegion ops (i::rest)::k)) (cs:=cs) b.not_early (fun _ _ _ _ e=>by cases e) (Zc6 G hw I) hm hr (by rcases A with rfl|⟨rfl,_⟩<;>trivial);rcases A with rfl|⟨rfl,rfl⟩<;>exact this
theorem ZkY {ops:Array Oper} {i:Nat} {rest:List Nat} {o:Oper} {l:Nat} {f:FuncId} {tmps:Array Value} {a x:Code} {w':World} (A:ops[i]? =some o) (hw:Region.wanted o (yielded ops t)=true) (G:∀c,o.op≠ .defer c) (hm:Zv P (fun _=>False) (execOp (QH t) o))
  (hr:(execOp (QH t) o).run P w= .ok (.round l f tmps a x) w'):
  One P cx (ZH (mkF b t ds (.inRegion ops (i::rest)::k)) cs w) (ZH (Frame.round l f tmps a x .normal) (mkF b t ds (.inRegion ops (i::rest)::k)::cs) w'):=
 Zcw (fr:=mkF b t ds (.inRegion ops (i::rest)::k)) b.not_early (fun _ _ _ _ e=>by cases e) (Zc6 A hw G) hm hr trivial
theorem Zm5 {ops:Array Oper} {i:Nat} {rest:List Nat} {o:Oper} {f:FuncId} {args:Array Value} {w':World} (A:ops[i]? =some o) (hw:Region.wanted o (yielded ops t)=true) (G:∀c,o.op≠ .defer c) (hm:Zv P (fun _=>False) (execOp (QH t) o))
  (hr:(execOp (QH t) o).run P w= .ok (.enter f args) w'):
  One P cx (ZH (mkF b t ds (.inRegion ops (i::rest)::k)) cs w) (ZH (dM P f args .normal) (mkF b t ds (.inRegion ops (i::rest)::k)::cs) w'):=
 Zcw (fr:=mkF b t ds (.inRegion ops (i::rest)::k)) b.not_early (fun _ _ _ _ e=>by cases e) (Zc6 A hw G) hm hr trivial
theorem Zm4 {ops:Array Oper} {i:Nat} {rest:List Nat} {o:Oper} {c x:Operand} {ch:Nat} {v:Bool} {A:Array Value} {s r:Nat} {J:Bool} (S:ops[i]? =some o) (hw:Region.wanted o (yielded ops t)=true) (I:o.op= .send c x) (U:QH t c= .chan (some ch)) (Y:QH t x= .bool v)
  (H:w.heap[ch]? =some (.chan 0 A false s r J)):One P (some ch) (ZH (mkF b t ds (.inRegion ops (i::rest)::k)) cs w) (ZH (mkF b (Z2 t o.dst undef) ds (.inRegion ops rest::k)) cs (w.setChan ch 0 (A.push (.bool v)) false (s+1) r J)):=by
 have Z:(mkF b t ds (.inRegion ops (i::rest)::k)).finish undef=mkF b (Z2 t o.dst undef) ds (.inRegion ops rest::k):=by rw[Xq,S];rfl
 refine .inr ⟨v,A,s,r,J,⟨.tuple #[],fun w=>?_⟩,H,by rw[<-Z];rfl⟩;show stepG P false (G (mkF b t ds (.inRegion ops (i::rest)::k)) cs) w=_;rw[Zc6 S hw (fun c e=>by rw[I]at e;cases e)];have V:execOp (QH t) o=pure (.comm #[scase ch (.bool v) (.tuple #[])] true .send):=by
  unfold execOp;simp only[I,U,Y];rfl
 rw[V];unfold stepG.apply;simp[GStep.after,G,b.not_early,mkF];exact⟨⟨rfl,rfl⟩,seen_none _ _⟩
theorem Zdz {α:Type} {s:Sem α} {F:α->Frame×List Frame} {fr G:Frame} {A:List Frame} {w w':World} {x:α} (H:Zrc P fr cs s F) (hm:Zv P (fun _=>False) s) (hr:s.run P w= .ok x w') (I:F x=(G,A)):One P cx (ZH fr cs w) (ZH G A w'):=
 OwM.one ⟨α,s,F,x,s.events P w #[],H,hm,by
  rw[Sem.runT_eq];show(s.run P w,_)=_;rw[hr]
  rfl,I⟩
theorem Zbe {α:Type} {s:Sem α} {w w':World} {x:α} {es:Array Event} (h:s.runT P w #[]=(.ok x w',es)):s.run P w= .ok x w'/\s.events P w #[]=es:=by
 rw[Sem.runT_eq]at h;exact⟨congrArg gt h,congrArg Prod.snd h⟩
theorem ZdD {fn:Func} {tmps:Array Value} {K:Nat->Prop}:Zv P K (results fn tmps):=
 Zg (fun K=>Zgj (fun r K=>by
  cases r with
  |tmp t=>exact Zn
  |cell a t=>exact Zg (fun _=>Ze5) fun _ _=>Zbl) _ K) fun _ _=>Zn
theorem ZpO {c:Frame} {todo:List Item} {v:Value} {fn:Func} (A:b.df=false) (J:P.funcs[b.fn]? =some fn) (hr:(results fn t).run P w= .ok v w):
  One P cx (ZH {mkF b t [] todo with mode:=.returning} (c::cs) w) (ZH (c.finish v) cs w):=by
 refine Zdz (s:=results fn t) (F:=fun v=>(c.finish v,cs)) (fun main w S x es h=>?_) ZdD hr rfl;obtain⟨I,H⟩:=Zbe h;have A:b.kind= .normal:=by simp[FB.kind,A]
 simp[G,stepG,unwind,doReturn,mkF,A,J,I,H,GStep.after]
theorem ZdB {r:Nat} {K:Nat->Prop}:Zv P K (Instr.takeDeferred r):=
 Xj (fun o A=>by
  split
  ·exact Qc.bind (XD (.inr rfl) rfl) fun _ _ _ _=>Zn
  exact Z8) (fun o A=>by cases o<;>first|exact ZbA|(cases A;done))
theorem ZpL {r:Nat} {calls:List Deferred} {todo:List Item} {w':World} (hr:(Instr.takeDeferred r).run P w= .ok calls w'):
  One P cx (ZH {mkF b t ({target:=.collected r,args:= #[]}::ds) todo with mode:=.returning} cs w) (ZH {mkF b t (calls++ds) todo with mode:=.returning} cs w'):=by
 refine Zdz (s:=Instr.takeDeferred r) (F:=fun calls=>({mkF b t (calls++ds) todo with mode:=.returning},cs)) (fun main w w' x es h=>?_) ZdB hr rfl;obtain⟨H,A⟩:=Zbe h;simp[G,stepG,unwind,mkF,H,A,GStep.after]
theorem JK {α:Type} {l:Nat} {K:Nat->Prop} {f:Loop->Sem α} (G:∀r,Zv P (fun x=>K x\/x=l) (f r)):Zv P K (Instr.getLoop l>>=f):=by
 have:Instr.getLoop l>>=f=getObj l>>=fun o=>(match o with|.loop r=>f r|_=>stuck "range over a function: no such loop"):=by
  show(Instr.getLoop l).bind f=(getObj l).bind _;unfold Instr.getLoop;show Sem.getObj l _=Sem.getObj l _;congr 1;funext o;cases o<;>rfl
 rw[this];refine Xj (fun o A=>?_) (fun o A=>by cases o<;>first|exact ZbA|(cases A;done));split
 ·exact G _
 exact Z8
theorem Zfo {l:Nat} {K:Nat->Prop}:Zv P K (Instr.beginRound l):=JK fun r=>Qc.bind (XD (.inr rfl) rfl) fun _ A _ _=>by
 split
 ·exact Zn
 ·exact ZW
 ·exact ZW
 exact ZW
theorem Zhg {l:Nat} {j:Option Code} {K:Nat->Prop}:Zv P K (Instr.endRound l j):=JK fun r=>Qc.bind (XD (.inr rfl) rfl) fun _ A _ _=>Zn
theorem ZiC {l:Nat} {K:Nat->Prop}:Zv P K (Instr.endLoop l):=JK fun r=>by
 split
 ·exact .of_dies (Qn.bind_left Y2) _
 exact Qc.bind (XD (.inr rfl) rfl) fun _ A _ _=>Zn
theorem Zld {l:Nat} {args:Array Value} {K:Nat->Prop}:Zv P K (Instr.yield l args):=JK fun r=>by
 split
 ·exact Zg (fun _=>Z8) fun _ _=>Zn
 exact Zn
theorem Zhb {l:Nat} {w':World} (A:b.roundOf=some l) (hr:(Instr.beginRound l).run P w= .ok () w'):One P cx (ZH (mkF b t ds (.beginRound::k)) cs w) (ZH (mkF b t ds k) cs w'):=by
 refine Zcw (s:=(do Instr.beginRound l;pure .skip)) (nv:=.skip) (fr:=mkF b t ds (.beginRound::k)) b.not_early (fun _ _ _ _ e=>by cases e) (fun main w=>?_) (Zg (fun _=>Zfo) fun _ _=>Zn) ?_ trivial
 ·simp[stepG,stepG.exec,mkF,G,A]
 rw[aP,hr];rfl
theorem ZfP {l:Nat} {j:Option Code} {todo:List Item} {v:Value} {w':World} {c:Frame} (H:b.roundOf=some l) (A:b.df=false) (S:(j=none/\todo=[])\/(j=some .ret/\∃k,todo= .code .ret::k)\/∃id k,j=some (.exit id)/\todo= .code (.exit id)::k/\exitTo id k=none)
  (hr:(Instr.endRound l j).run P w= .ok v w'):One P cx (ZH (mkF b t ds todo) (c::cs) w) (ZH (c.finish v) cs w'):=by
 refine Zdz (s:=Instr.endRound l j) (F:=fun v=>(c.finish v,cs)) (fun main w w' x es h=>?_) Zhg hr rfl;obtain⟨J,I⟩:=Zbe h;have A:b.kind= .normal:=by simp[FB.kind,A]
 rcases S with⟨rfl,rfl⟩|⟨rfl,k,rfl⟩|⟨id,k,rfl,rfl,U⟩
 ·simp[G,stepG,stepG.exec,mkF,H,A,J,I,doReturn,GStep.after]
 ·simp[G,stepG,stepG.exec,mkF,H,A,J,I,doReturn,GStep.after]
 simp[G,stepG,stepG.exec,mkF,H,A,U,J,I,doReturn,GStep.after]
theorem Zfi {l:Nat} {A:Option Code} {w':World} (h:(Instr.endLoop l).run P w= .ok A w'):One P cx (ZH (mkF b t ds (.endRangeFunc l::k)) cs w) (ZH (mkF b t ds ((A.map Item.code).toList++k)) cs w'):=by
 refine Zdz (s:=Instr.endLoop l) (F:=fun A=>(mkF b t ds ((A.map Item.code).toList++k),cs)) (fun main w w' x es h=>?_) ZiC h rfl;obtain⟨I,H⟩:=Zbe h;simp[G,stepG,stepG.exec,mkF,I,H,GStep.after]
theorem Zhh {fid:FuncId} {args:Array Value} {fn:Func} {c:Code} {K:Nat->Prop} (H:P.funcs[fid]? =some fn) (G:fn.body=some c) (A:(fn.name== "runtime.NumGoroutine")=false):Zv P K (callFunc fid args):=by
 show Zv P K (match P.funcs[fid]? with|none=>_|some fn=>_);rw[H];have I:fn.name≠ "runtime.NumGoroutine" :=by simpa using A
 simp only[G,A,Option.isNone_some,aX,if_false];exact Zn
theorem Zgl {fid:FuncId} {f:Operand} {xs:Array Operand} {A:Array TypeId} {ty:TypeId} {us vs:Array Value} {fn:Func} {c:Code} {K:Nat->Prop} (J:QH t f= .func (.func fid) us vs) (I:P.funcs[fid]? =some fn) (H:fn.body=some c) (G:(fn.name== "runtime.NumGoroutine")=false):
  Zv P K (do let d<-resolve (QH t) {callee:=.value f,args:=xs,argTypes:=A} ty;invoke d.target d.args):=by
 have e:(do let d<-resolve (QH t) {callee:=.value f,args:=xs,argTypes:=A} ty;invoke d.target d.args:Sem Next)=callFunc fid (us++xs.map (QH t)++vs):=by
  simp only[resolve,J,Deferred.ofValue];rfl
 rw[e];exact Zhh I H G
theorem Zll {l:Nat} {f:Operand} {xs:Array Operand} {A:Array TypeId} {ty:TypeId} {K:Nat->Prop} (G:QH t f= .func (.yield l) #[] #[]):
  Zv P K (do let d<-resolve (QH t) {callee:=.value f,args:=xs,argTypes:=A} ty;invoke d.target d.args):=by
 have e:(do let d<-resolve (QH t) {callee:=.value f,args:=xs,argTypes:=A} ty;invoke d.target d.args:Sem Next)=Instr.yield l (#[]++xs.map (QH t)):=by
  simp only[resolve,G,Deferred.ofValue];rfl
 rw[e];exact Zld
def ZmD:Next->Bool
 |.enter .. =>true
 |_=>false
def Zwt (P:Program) (b:FB) (t:Array Value) (ds:List Deferred) (k:List Item) (cs:List Frame) (x:(Nat×List Deferred)×Next):Frame×List Frame:=match x.2 with
 |.enter f A=>(dM P f A .normal,mkF b t (x.1.2++ds) (.inRangeFunc x.1.1::k)::cs)
 |_=>(default,[])
theorem Zii {w₁ J:World} {g:Operand} {ps:Array Tmp} {a x:Code} {l:Nat} {H:List Deferred} {f:FuncId} {args:Array Value} (S:b.roundOf=none)
  (he:(Instr.enterLoop b.fn t ps a x b.roundOf).run P w= .ok (l,H) w₁) (hm:∀l K,Zv P K (do let d<-resolve (QH t) (rangeCall g l) 0;invoke d.target d.args))
  (hc:((do let d<-resolve (QH t) (rangeCall g l) 0;invoke d.target d.args):Sem Next).run P w₁= .ok (.enter f args) J):
  One P cx (ZH (mkF b t ds (.code (.rangeFunc g ps a x)::k)) cs w) (ZH (dM P f args .normal) (mkF b t (H++ds) (.inRangeFunc l::k)::cs) J):=by
 have Z:∀w:World,(Instr.enterLoop b.fn t ps a x none).runT P w #[]=(.ok ((w.heap.push (.deferred (some []))).size,[{target:=.collected w.heap.size,args:= #[]}])
   {w with heap:=(w.heap.push (.deferred (some []))).push (.loop {state:=.ready,pending:=none,fn:=b.fn,tmps:=t,params:=ps,assign:=a,body:=x,defers:=w.heap.size})}, #[]):=fun w=>rfl
 let call (l:Nat):Sem Next:=do let d<-resolve (QH t) (rangeCall g l) 0;invoke d.target d.args
 let s:Sem ((Nat×List Deferred)×Next):=(Instr.enterLoop b.fn t ps a x none).bind fun I=>(call I.1).bind fun A=>if ZmD A then pure (I,A)else stuck ""
 rw[S]at he;refine Zdz (s:=s) (F:=Zwt P b t ds k cs) (fun main w w' y es h=>?_) ?_ (x:=((l,H),.enter f args)) ?_ rfl
 ·show stepG P main (G (mkF b t ds (.code (.rangeFunc g ps a x)::k)) cs) w=_;simp only[s]at h;rw[Sem.runT_bind',Z w]at h;simp only at h;rw[Sem.runT_bind']at h;obtain⟨⟨l',aa⟩,A⟩:=y;cases hcall:(call (w.heap.push (.deferred (some []))).size).runT P {w with heap:=(w.heap.push (.deferred (some []))).push (.loop {state:=.ready,pending:=none,fn:=b.fn,tmps:=t,params:=ps,assign:=a,body:=x,defers:=w.heap.size})} #[]with
  |mk r Y=>
   rw[hcall]at h;cases r with
   |halt hh w2=>simp at h
   |ok ab w2=>
    simp only at h;cases ab with
    |enter f' U=>
     have h:((.ok (((w.heap.push (.deferred (some []))).size,[{target:=.collected w.heap.size,args:= #[]}]),.enter f' U) w2:Result _),Y)=(.ok ((l',aa),A) w',es):=h;simp only[aK,Result.ok.injEq]at h;obtain⟨⟨⟨⟨rfl,rfl⟩,rfl⟩,rfl⟩,rfl⟩:=h;have V:(mkF b t ([{target:=.collected w.heap.size,args:= #[]}]++ds) (.inRangeFunc (w.heap.push (.deferred (some []))).size::k)).eval=QH t:=Zcz _;simp only[mkF,S]at V;have ac:=b.not_early;simp only[G,stepG,stepG.exec,mkF,S,Z w];rw[seen_none];unfold stepG.apply;simp only[if_true,V];rw[show((do let d<-resolve (QH t) {callee:=.value g,args:= #[.const (.func (.yield (w.heap.push (.deferred (some []))).size) #[] #[])],argTypes:= #[]} 0;invoke d.target d.args):Sem Next)=call (w.heap.push (.deferred (some []))).size from rfl,hcall];simp[GStep.after,Zwt,ac,mkF,ZH,S]
    |_=>
     have h:((.halt (.stuck "") w2:Result ((Nat×List Deferred)×Next)),Y)=(.ok ((l',aa),A) w',es):=h
     simp at h
 ·refine Qc.bind (?_:Zv P _ (Instr.enterLoop b.fn t ps a x none)) fun I K _ _=>Qc.bind (hm I.1 K) fun A K _ _=>?_
  ·exact .inl ⟨rfl,fun r=>.inl ⟨rfl,fun r=>trivial⟩⟩
  split
  ·exact Zn
  exact Z8
 show((Instr.enterLoop b.fn t ps a x none)>>=fun I=>(call I.1)>>=fun A=>if ZmD A then pure (I,A)else stuck "").run P w=_
 rw[aP,he,aH,aP];rw[show(call l).run P w₁=_ from hc,aH];rfl
def Zia (P:Program) (cx:Option Nat) (f:FuncId) (vs:Array Value) (cs:List Frame) (w:World) (v:Value) (w':World):Prop:=
 ∃(b:FB) (t:Array Value) (A:List Item) (fn:Func),Steps P cx (ZH (dM P f vs .normal) cs w) (ZH {mkF b t [] A with mode:=.returning} cs w')/\b.df=false/\P.funcs[b.fn]? =some fn/\(results fn t).run P w'= .ok v w'/\b.fn=f
theorem Zia.call {f:FuncId} {vs:Array Value} {c:Frame} {w w':World} {v:Value} (h:Zia P cx f vs (c::cs) w v w'):Steps P cx (ZH (dM P f vs .normal) (c::cs) w) (ZH (c.finish v) cs w'):=by
 obtain⟨b,t,A,fn,J,I,H,G,_⟩:=h;exact J.trans (.one (ZpO I H G))
end
end Vm
end Go.Proofs.YtjgpiclllehgmaaGreat
