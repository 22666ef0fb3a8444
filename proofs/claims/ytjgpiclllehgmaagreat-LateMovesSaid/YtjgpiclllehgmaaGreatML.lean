/- Lemmas. -/
import Derived.RangeFuncIn
import Derived.Orders
import Derived.Test.YtjgpiclllehgmaaGreatME
import Derived.Test.YtjgpiclllehgmaaGreatCxLeaf
set_option linter.all false
open Bool renaming false_eq_true->aY
open Go.Frame renaming enter->dN
open Prod renaming fst->gC
open Prod.mk renaming injEq->aK
open Go.Result renaming andThen_ok->aH
open Go.Sem renaming run_bind->aR
namespace Go.Proofs.YtjgpiclllehgmaaGreat
namespace Vm
open Go Go.Conc Conc1
def ZL (fr:Frame) (cs:List Frame) (w:World):Cf:=⟨fr,cs,w⟩
abbrev Steps (P:Program) (cx:Option Nat):Cf->Cf->Prop:=StepsC P cx
theorem Steps.trans {P:Program} {cx:Option Nat} {a b c:Cf} (h:Steps P cx a b) (h':Steps P cx b c):Steps P cx a c:=StepsC.trans h h'
structure FB where
 fn:FuncId
 df:Bool
 roundOf:Option Nat
 base:List Deferred
def FB.kind (b:FB):CallKind:=if b.df then .deferred else .normal
def mkF (b:FB) (tmps:Array Value) (ds:List Deferred) (todo:List Item):Frame:=
 {fn:=b.fn,tmps,todo,defers:=ds,mode:=.run,kind:=b.kind,roundOf:=b.roundOf}
theorem FB.not_early (b:FB):(b.kind== .early)=false:=by unfold FB.kind;split<;>rfl
section
variable {P:Program} {cx:Option Nat} {b:FB} {t:Array Value} {ds:List Deferred} {k:List Item} {cs:List Frame} {w:World}
theorem Xi {fr H:Frame} {cs A:List Frame} (h:∀main w,stepG P main (G fr cs) w= .go (G H A) w):One P cx (ZL fr cs w) (ZL H A w):=by
 refine OwM.one ⟨Unit,pure (),λ_=>(H,A),(), #[],λmain w I x es hr=>?_,trivial,rfl,rfl⟩;have hr:((.ok () w:Result Unit),(#[]:Array Event))=(.ok x I,es):=hr;simp only[aK,Result.ok.injEq]at hr;obtain⟨⟨_,rfl⟩,rfl⟩:=hr;exact(h main w).trans (by rw[seen_none])
theorem Zsy:One P cx (ZL (mkF b t ds (.code .skip::k)) cs w) (ZL (mkF b t ds k) cs w):=Xi λ_ _=>rfl
theorem Zqc {l:Nat}:One P cx (ZL (mkF b t ds (.code (.label l)::k)) cs w) (ZL (mkF b t ds k) cs w):=Xi λ_ _=>rfl
theorem Zlt {x:Code}:One P cx (ZL (mkF b t ds (.inScope x::k)) cs w) (ZL (mkF b t ds k) cs w):=Xi λ_ _=>rfl
theorem Zp9 {x:Code}:One P cx (ZL (mkF b t ds (.code (.scope x)::k)) cs w) (ZL (mkF b t ds (.code x:: .inScope x::k)) cs w):=Xi λ_ _=>rfl
theorem Zlu {id:Nat}:One P cx (ZL (mkF b t ds (.inBlock id::k)) cs w) (ZL (mkF b t ds k) cs w):=Xi λ_ _=>rfl
theorem ZiF {x y:Code}:One P cx (ZL (mkF b t ds (.code (.seq x y)::k)) cs w) (ZL (mkF b t ds (.code x:: .code y::k)) cs w):=Xi λ_ _=>rfl
theorem ZmH {c:Operand} {x y:Code} {v:Bool} (h:(mkF b t ds (.code (.cond c x y)::k)).eval c= .bool v):
  One P cx (ZL (mkF b t ds (.code (.cond c x y)::k)) cs w) (ZL (mkF b t ds (.code (if v then x else y)::k)) cs w):=
 Xi λ_ _=>by
  simp only[mkF]at h;simp[stepG,stepG.exec,mkF,G,h]
theorem Zqe {id:Nat} {c:Code}:One P cx (ZL (mkF b t ds (.code (.block id c)::k)) cs w) (ZL (mkF b t ds (.code c:: .inBlock id::k)) cs w):=Xi λ_ _=>rfl
theorem ZmF {c:Code}:One P cx (ZL (mkF b t ds (.code (.loop c)::k)) cs w) (ZL (mkF b t ds (.code c:: .inLoop c::k)) cs w):=Xi λ_ _=>rfl
theorem ZhR {c:Code}:One P cx (ZL (mkF b t ds (.inLoop c::k)) cs w) (ZL (mkF b t ds (.code c:: .inLoop c::k)) cs w):=Xi λ_ _=>rfl
theorem ZmG {id:Nat} {A:List Item} (h:exitTo id k=some A):One P cx (ZL (mkF b t ds (.code (.exit id)::k)) cs w) (ZL (mkF b t ds A) cs w):=Xi λ_ _=>by simp[stepG,stepG.exec,mkF,G,h]
theorem Zsz {l:Nat} {A:List Item} (h:gotoIn l k=some A):One P cx (ZL (mkF b t ds (.code (.goto l)::k)) cs w) (ZL (mkF b t ds A) cs w):=Xi λ_ _=>by simp[stepG,stepG.exec,mkF,G,h]
theorem ZcH {id:Nat} {ops:Array Oper}:One P cx (ZL (mkF b t ds (.code (.region id ops false)::k)) cs w) (ZL (mkF b t ds (.inRegion ops (List.range ops.size)::k)) cs w):=Xi λ_ _=>by simp[stepG,stepG.exec,mkF,G]
theorem Jk {ops:Array Oper}:One P cx (ZL (mkF b t ds (.inRegion ops []::k)) cs w) (ZL (mkF b t ds k) cs w):=Xi λ_ _=>by simp[stepG,stepG.exec,mkF,G]
theorem Zlr {id:Nat} {ops:Array Oper}:One P cx (ZL (mkF b t ds (.code (.region id ops true)::k)) cs w)
  (ZL (mkF b t ds (.inRegion ops (Region.schedule (P.follows .mixedOrders) ops (w.tape w.drawn (.order b.fn id)))::k)) cs {w with drawn:=w.drawn+1}):=by
 refine OwM.one ⟨Nat,choose (.order b.fn id),λn=>(mkF b t ds (.inRegion ops (Region.schedule (P.follows .mixedOrders) ops n)::k),cs),w.tape w.drawn (.order b.fn id), #[],λmain w A x es hr=>?_,λ_=>trivial,rfl,rfl⟩;have hr:((.ok (w.tape w.drawn (.order b.fn id)) {w with drawn:=w.drawn+1}:Result Nat),(#[]:Array Event))=(.ok x A,es):=hr;simp only[aK,Result.ok.injEq]at hr;obtain⟨⟨rfl,rfl⟩,rfl⟩:=hr;rw[seen_none];simp[ZL,stepG,stepG.exec,mkF,G,choose,Sem.run,Question.forced,Question.cut]
theorem Zqd (hr:b.roundOf=none):One P cx (ZL (mkF b t ds []) cs w) (ZL {mkF b t ds []with mode:=.returning} cs w):=Xi λ_ _=>by simp[stepG,stepG.exec,mkF,G,hr]
theorem Zqa (hr:b.roundOf=none):One P cx (ZL (mkF b t ds (.code .ret::k)) cs w) (ZL {mkF b t ds (.code .ret::k)with mode:=.returning} cs w):=Xi λ_ _=>by simp[stepG,stepG.exec,mkF,G,hr]
def Z7 (t:Array Value):Option Tmp->Value->Array Value
 |some d,v=>t.setIfInBounds d v
 |none,_=>t
theorem XA (ops:Array Oper) (i:Nat) (rest:List Nat) (v:Value):
  (mkF b t ds (.inRegion ops (i::rest)::k)).finish v=mkF b (Z7 t ((ops[i]?).bind (·.dst)) v) ds (.inRegion ops rest::k):=by
 cases h:(ops[i]?).bind (·.dst)<;>simp[Frame.finish,mkF,Z7,h]
theorem Znu {ops:Array Oper} {i:Nat} {rest:List Nat} (h:((ops[i]?).map (Region.wanted · (yielded ops t))).getD false=false):
  One P cx (ZL (mkF b t ds (.inRegion ops (i::rest)::k)) cs w) (ZL (mkF b (Z7 t ((ops[i]?).bind (·.dst)) undef) ds (.inRegion ops rest::k)) cs w):=by
 rw[<-XA];exact Xi λ_ _=>by
  have A:=h;simp only[mkF]at*;simp[stepG,stepG.exec,G,A]
def QQ (t:Array Value):Operand->Value
 |.tmp i=>t.getD i undef
 |.const v=>v
 |.global g=>.pointer (some ⟨g,0,none⟩)
 |.func f=>.func (.func f) #[] #[]
theorem ZcM (todo:List Item):(mkF b t ds todo).eval=QQ t:=by funext x;cases x<;>rfl
theorem Zdn {ops:Array Oper} {i:Nat} {rest:List Nat} {o:Oper} (A:ops[i]? =some o) (hw:Region.wanted o (yielded ops t)=true) (H:∀c,o.op≠ .defer c) (main:Bool) (w:World):
  stepG P main (G (mkF b t ds (.inRegion ops (i::rest)::k)) cs) w=stepG.apply P true (mkF b t ds (.inRegion ops (i::rest)::k)) cs none (execOp (QQ t) o) w:=by
 have I:(mkF b t ds (.inRegion ops (i::rest)::k)).eval=QQ t:=ZcM _;have S:(mkF b t ds (.inRegion ops (i::rest)::k)).oper?=some o:=by simp[Frame.oper?,mkF,A]
 have J:stepG P main (G (mkF b t ds (.inRegion ops (i::rest)::k)) cs) w=stepG.oper P true (mkF b t ds (.inRegion ops (i::rest)::k)) cs none w:=by
  simp[stepG,stepG.exec,mkF,G,A,hw]
 rw[J];unfold stepG.oper;simp only[S,I];split
 ·rename_i l c V U;exact absurd U (H c)
 rfl
open Classical in
theorem ZcJ {fr:Frame} {cs:List Frame} {s:Sem Next} {nv:Next} {w w':World} (hk:(fr.kind== .early)=false) (hc:∀d r sv k,fr.todo≠ .call d true r sv::k)
  (h:∀main w,stepG P main (G fr cs) w=stepG.apply P true fr cs none s w) (hm:Zx P (λ_=>False) s) (hr:s.run P w= .ok nv w') (Z:Next.plain nv):
  One P cx (ZL fr cs w) (ZL (opF P fr cs nv).1 (opF P fr cs nv).2 w'):=by
 let J:Sem Next:=s.bind λx=>if Next.plain x then pure x else stuck ""
 have H:∀w x w' es A,J.runT P w es=(.ok x w',A)->s.runT P w es=(.ok x w',A)/\Next.plain x:=λw x w' es A hr=>by
  simp only[J]at hr;rw[Sem.runT_bind']at hr;split at hr
  ·rename_i a S I ha;split at hr
   ·rename_i V;have:((.ok a S:Result Next),I)=(.ok x w',A):=hr;simp only[aK,Result.ok.injEq]at this;obtain⟨⟨rfl,rfl⟩,rfl⟩:=this;exact⟨ha,V⟩
   have:((.halt (.stuck "") S:Result Next),I)=(.ok x w',A):=hr
   simp at this
  simp at hr
 refine OwM.one ⟨Next,J,opF P fr cs,nv,s.events P w #[],λmain w w' x es hr=>?_,Qh.bind hm λa K _ _=>?_,?_,rfl⟩
 ·obtain⟨U,h2⟩:=H _ _ _ _ _ hr;have Y:=congrArg gC U;rw[Sem.runT_eq]at Y;simp only at Y;show stepG P main (G fr cs) w=_;rw[h main w];unfold stepG.apply;simp only[if_true,U,hk,aY,if_false];cases x<;>first|exact h2.elim|skip
  ·simp[GStep.after,G,opF,ZL]
  ·simp[GStep.after,G,opF,ZL]
  ·simp only[GStep.after,G,opF,ZL];simp
  simp[GStep.after,G,opF,ZL]
 ·split
  ·exact Zq
  exact Qd
 show(s.bind _).runT P w #[]=_;rw[Sem.runT_bind',Sem.runT_eq,hr];simp only;rw[iP Z];rfl
theorem ZaY {ops:Array Oper} {i:Nat} {rest:List Nat} {o:Oper} {v:Value} {w':World} {nv:Next} (G:ops[i]? =some o) (hw:Region.wanted o (yielded ops t)=true) (H:∀c,o.op≠ .defer c) (hm:Zx P (λ_=>False) (execOp (QQ t) o))
  (hr:(execOp (QQ t) o).run P w= .ok nv w') (A:nv= .value v\/(nv= .skip/\v=undef)):
  One P cx (ZL (mkF b t ds (.inRegion ops (i::rest)::k)) cs w) (ZL (mkF b (Z7 t o.dst v) ds (.inRegion ops rest::k)) cs w'):=by
 have I:(mkF b t ds (.inRegion ops (i::rest)::k)).finish v=mkF b (Z7 t o.dst v) ds (.inRegion ops rest::k):=by rw[XA,G];rfl
 rw[<-I];have:=ZcJ (cx:=cx) (fr:=mkF b t ds (.inRegion ops (i::rest)::k)) (cs:=cs) b.not_early (λ_ _ _ _ e=>by cases e) (Zdn G hw H) hm hr (by rcases A with rfl|⟨rfl,_⟩<;>trivial);rcases A with rfl|⟨rfl,rfl⟩<;>exact this
theorem Zls {ops:Array Oper} {i:Nat} {rest:List Nat} {o:Oper} {l:Nat} {f:FuncId} {tmps:Array Value} {a x:Code} {w':World} (G:ops[i]? =some o) (hw:Region.wanted o (yielded ops t)=true) (A:∀c,o.op≠ .defer c) (hm:Zx P (λ_=>False) (execOp (QQ t) o))
  (hr:(execOp (QQ t) o).run P w= .ok (.round l f tmps a x) w'):
  One P cx (ZL (mkF b t ds (.inRegion ops (i::rest)::k)) cs w) (ZL (Frame.round l f tmps a x .normal) (mkF b t ds (.inRegion ops (i::rest)::k)::cs) w'):=
 ZcJ (fr:=mkF b t ds (.inRegion ops (i::rest)::k)) b.not_early (λ_ _ _ _ e=>by cases e) (Zdn G hw A) hm hr trivial
theorem Znw {ops:Array Oper} {i:Nat} {rest:List Nat} {o:Oper} {f:FuncId} {args:Array Value} {w':World} (G:ops[i]? =some o) (hw:Region.wanted o (yielded ops t)=true) (A:∀c,o.op≠ .defer c) (hm:Zx P (λ_=>False) (execOp (QQ t) o))
  (hr:(execOp (QQ t) o).run P w= .ok (.enter f args) w'):
  One P cx (ZL (mkF b t ds (.inRegion ops (i::rest)::k)) cs w) (ZL (dN P f args .normal) (mkF b t ds (.inRegion ops (i::rest)::k)::cs) w'):=
 ZcJ (fr:=mkF b t ds (.inRegion ops (i::rest)::k)) b.not_early (λ_ _ _ _ e=>by cases e) (Zdn G hw A) hm hr trivial
theorem Znv {ops:Array Oper} {i:Nat} {rest:List Nat} {o:Oper} {c x:Operand} {ch:Nat} {v:Bool} {A:Array Value} {s r:Nat} {J:Bool} (S:ops[i]? =some o) (hw:Region.wanted o (yielded ops t)=true) (I:o.op= .send c x) (Y:QQ t c= .chan (some ch)) (Z:QQ t x= .bool v)
  (H:w.heap[ch]? =some (.chan 0 A false s r J)):One P (some ch) (ZL (mkF b t ds (.inRegion ops (i::rest)::k)) cs w) (ZL (mkF b (Z7 t o.dst undef) ds (.inRegion ops rest::k)) cs (w.setChan ch 0 (A.push (.bool v)) false (s+1) r J)):=by
 have U:(mkF b t ds (.inRegion ops (i::rest)::k)).finish undef=mkF b (Z7 t o.dst undef) ds (.inRegion ops rest::k):=by rw[XA,S];rfl
 refine .inr ⟨v,A,s,r,J,⟨.tuple #[],λw=>?_⟩,H,by rw[<-U];rfl⟩;show stepG P false (G (mkF b t ds (.inRegion ops (i::rest)::k)) cs) w=_;rw[Zdn S hw (λc e=>by rw[I]at e;cases e)];have V:execOp (QQ t) o=pure (.comm #[scase ch (.bool v) (.tuple #[])] true .send):=by
  unfold execOp;simp only[I,Y,Z];rfl
 rw[V];unfold stepG.apply;simp[GStep.after,G,b.not_early,mkF];exact⟨⟨rfl,rfl⟩,seen_none _ _⟩
theorem ZdS {α:Type} {s:Sem α} {F:α->Frame×List Frame} {fr A:Frame} {G:List Frame} {w w':World} {x:α} (H:Zrx P fr cs s F) (hm:Zx P (λ_=>False) s) (hr:s.run P w= .ok x w') (I:F x=(A,G)):One P cx (ZL fr cs w) (ZL A G w'):=
 OwM.one ⟨α,s,F,x,s.events P w #[],H,hm,by
  rw[Sem.runT_eq];show(s.run P w,_)=_;rw[hr]
  rfl,I⟩
theorem Zbv {α:Type} {s:Sem α} {w w':World} {x:α} {es:Array Event} (h:s.runT P w #[]=(.ok x w',es)):s.run P w= .ok x w'/\s.events P w #[]=es:=by
 rw[Sem.runT_eq]at h;exact⟨congrArg gC h,congrArg Prod.snd h⟩
theorem ZdW {fn:Func} {tmps:Array Value} {K:Nat->Prop}:Zx P K (results fn tmps):=
 Zg (λK=>ZgC (λr K=>by
  cases r with
  |tmp t=>exact Zq
  |cell a t=>exact Zg (λ_=>Zfr) λ_ _=>ZbC) _ K) λ_ _=>Zq
theorem Zqb {c:Frame} {todo:List Item} {v:Value} {fn:Func} (A:b.df=false) (H:P.funcs[b.fn]? =some fn) (hr:(results fn t).run P w= .ok v w):
  One P cx (ZL {mkF b t [] todo with mode:=.returning} (c::cs) w) (ZL (c.finish v) cs w):=by
 refine ZdS (s:=results fn t) (F:=λv=>(c.finish v,cs)) (λmain w S x es h=>?_) ZdW hr rfl;obtain⟨J,I⟩:=Zbv h;have A:b.kind= .normal:=by simp[FB.kind,A]
 simp[G,stepG,unwind,doReturn,mkF,A,H,J,I,GStep.after]
theorem ZdU {r:Nat} {K:Nat->Prop}:Zx P K (Instr.takeDeferred r):=
 Xr (λo A=>by
  split
  ·exact Qh.bind (XO (.inr rfl) rfl) λ_ _ _ _=>Zq
  exact Qd) (λo A=>by cases o<;>first|exact ZbP|(cases A;done))
theorem Zp8 {r:Nat} {calls:List Deferred} {todo:List Item} {w':World} (hr:(Instr.takeDeferred r).run P w= .ok calls w'):
  One P cx (ZL {mkF b t ({target:=.collected r,args:= #[]}::ds) todo with mode:=.returning} cs w) (ZL {mkF b t (calls++ds) todo with mode:=.returning} cs w'):=by
 refine ZdS (s:=Instr.takeDeferred r) (F:=λcalls=>({mkF b t (calls++ds) todo with mode:=.returning},cs)) (λmain w w' x es h=>?_) ZdU hr rfl;obtain⟨A,H⟩:=Zbv h;simp[G,stepG,unwind,mkF,A,H,GStep.after]
theorem JX {α:Type} {l:Nat} {K:Nat->Prop} {f:Loop->Sem α} (G:∀r,Zx P (λx=>K x\/x=l) (f r)):Zx P K (Instr.getLoop l>>=f):=by
 have:Instr.getLoop l>>=f=getObj l>>=λo=>(match o with|.loop r=>f r|_=>stuck "range over a function: no such loop"):=by
  show(Instr.getLoop l).bind f=(getObj l).bind _;unfold Instr.getLoop;show Sem.getObj l _=Sem.getObj l _;congr 1;funext o;cases o<;>rfl
 rw[this];refine Xr (λo A=>?_) (λo A=>by cases o<;>first|exact ZbP|(cases A;done));split
 ·exact G _
 exact Qd
theorem ZfK {l:Nat} {K:Nat->Prop}:Zx P K (Instr.beginRound l):=JX λr=>Qh.bind (XO (.inr rfl) rfl) λ_ A _ _=>by
 split
 ·exact Zq
 ·exact ZY
 ·exact ZY
 exact ZY
theorem ZhA {l:Nat} {j:Option Code} {K:Nat->Prop}:Zx P K (Instr.endRound l j):=JX λr=>Qh.bind (XO (.inr rfl) rfl) λ_ A _ _=>Zq
theorem Zi1 {l:Nat} {K:Nat->Prop}:Zx P K (Instr.endLoop l):=JX λr=>by
 split
 ·exact .of_dies (Qx.bind_left Jc) _
 exact Qh.bind (XO (.inr rfl) rfl) λ_ A _ _=>Zq
theorem ZlH {l:Nat} {args:Array Value} {K:Nat->Prop}:Zx P K (Instr.yield l args):=JX λr=>by
 split
 ·exact Zg (λ_=>Qd) λ_ _=>Zq
 exact Zq
theorem Zhv {l:Nat} {w':World} (A:b.roundOf=some l) (hr:(Instr.beginRound l).run P w= .ok () w'):One P cx (ZL (mkF b t ds (.beginRound::k)) cs w) (ZL (mkF b t ds k) cs w'):=by
 refine ZcJ (s:=(do Instr.beginRound l;pure .skip)) (nv:=.skip) (fr:=mkF b t ds (.beginRound::k)) b.not_early (λ_ _ _ _ e=>by cases e) (λmain w=>?_) (Zg (λ_=>ZfK) λ_ _=>Zq) ?_ trivial
 ·simp[stepG,stepG.exec,mkF,G,A]
 rw[aR,hr];rfl
theorem Zf9 {l:Nat} {j:Option Code} {todo:List Item} {v:Value} {w':World} {c:Frame} (J:b.roundOf=some l) (A:b.df=false) (S:(j=none/\todo=[])\/(j=some .ret/\∃k,todo= .code .ret::k)\/∃id k,j=some (.exit id)/\todo= .code (.exit id)::k/\exitTo id k=none)
  (hr:(Instr.endRound l j).run P w= .ok v w'):One P cx (ZL (mkF b t ds todo) (c::cs) w) (ZL (c.finish v) cs w'):=by
 refine ZdS (s:=Instr.endRound l j) (F:=λv=>(c.finish v,cs)) (λmain w w' x es h=>?_) ZhA hr rfl;obtain⟨I,H⟩:=Zbv h;have A:b.kind= .normal:=by simp[FB.kind,A]
 rcases S with⟨rfl,rfl⟩|⟨rfl,k,rfl⟩|⟨id,k,rfl,rfl,U⟩
 ·simp[G,stepG,stepG.exec,mkF,J,A,I,H,doReturn,GStep.after]
 ·simp[G,stepG,stepG.exec,mkF,J,A,I,H,doReturn,GStep.after]
 simp[G,stepG,stepG.exec,mkF,J,A,U,I,H,doReturn,GStep.after]
theorem ZfF {l:Nat} {A:Option Code} {w':World} (h:(Instr.endLoop l).run P w= .ok A w'):One P cx (ZL (mkF b t ds (.endRangeFunc l::k)) cs w) (ZL (mkF b t ds ((A.map Item.code).toList++k)) cs w'):=by
 refine ZdS (s:=Instr.endLoop l) (F:=λA=>(mkF b t ds ((A.map Item.code).toList++k),cs)) (λmain w w' x es h=>?_) Zi1 h rfl;obtain⟨I,H⟩:=Zbv h;simp[G,stepG,stepG.exec,mkF,I,H,GStep.after]
theorem ZhB {fid:FuncId} {args:Array Value} {fn:Func} {c:Code} {K:Nat->Prop} (G:P.funcs[fid]? =some fn) (H:fn.body=some c) (A:(fn.name== "runtime.NumGoroutine")=false):Zx P K (callFunc fid args):=by
 show Zx P K (match P.funcs[fid]? with|none=>_|some fn=>_);rw[G];have I:fn.name≠ "runtime.NumGoroutine" :=by simpa using A
 simp only[H,A,Option.isNone_some,aY,if_false];exact Zq
theorem ZgE {fid:FuncId} {f:Operand} {xs:Array Operand} {A:Array TypeId} {ty:TypeId} {us vs:Array Value} {fn:Func} {c:Code} {K:Nat->Prop} (G:QQ t f= .func (.func fid) us vs) (I:P.funcs[fid]? =some fn) (H:fn.body=some c) (J:(fn.name== "runtime.NumGoroutine")=false):
  Zx P K (do let d<-resolve (QQ t) {callee:=.value f,args:=xs,argTypes:=A} ty;invoke d.target d.args):=by
 have e:(do let d<-resolve (QQ t) {callee:=.value f,args:=xs,argTypes:=A} ty;invoke d.target d.args:Sem Next)=callFunc fid (us++xs.map (QQ t)++vs):=by
  simp only[resolve,G,Deferred.ofValue];rfl
 rw[e];exact ZhB I H J
theorem ZlP {l:Nat} {f:Operand} {xs:Array Operand} {A:Array TypeId} {ty:TypeId} {K:Nat->Prop} (G:QQ t f= .func (.yield l) #[] #[]):
  Zx P K (do let d<-resolve (QQ t) {callee:=.value f,args:=xs,argTypes:=A} ty;invoke d.target d.args):=by
 have e:(do let d<-resolve (QQ t) {callee:=.value f,args:=xs,argTypes:=A} ty;invoke d.target d.args:Sem Next)=Instr.yield l (#[]++xs.map (QQ t)):=by
  simp only[resolve,G,Deferred.ofValue];rfl
 rw[e];exact ZlH
def Zm2:Next->Bool
 |.enter .. =>true
 |_=>false
def ZwW (P:Program) (b:FB) (t:Array Value) (ds:List Deferred) (k:List Item) (cs:List Frame) (x:(Nat×List Deferred)×Next):Frame×List Frame:=match x.2 with
 |.enter f A=>(dN P f A .normal,mkF b t (x.1.2++ds) (.inRangeFunc x.1.1::k)::cs)
 |_=>(default,[])
theorem ZiG {w₁ J:World} {g:Operand} {ps:Array Tmp} {a x:Code} {l:Nat} {H:List Deferred} {f:FuncId} {args:Array Value} (S:b.roundOf=none)
  (he:(Instr.enterLoop b.fn t ps a x b.roundOf).run P w= .ok (l,H) w₁) (hm:∀l K,Zx P K (do let d<-resolve (QQ t) (rangeCall g l) 0;invoke d.target d.args))
  (hc:((do let d<-resolve (QQ t) (rangeCall g l) 0;invoke d.target d.args):Sem Next).run P w₁= .ok (.enter f args) J):
  One P cx (ZL (mkF b t ds (.code (.rangeFunc g ps a x)::k)) cs w) (ZL (dN P f args .normal) (mkF b t (H++ds) (.inRangeFunc l::k)::cs) J):=by
 have Y:∀w:World,(Instr.enterLoop b.fn t ps a x none).runT P w #[]=(.ok ((w.heap.push (.deferred (some []))).size,[{target:=.collected w.heap.size,args:= #[]}])
   {w with heap:=(w.heap.push (.deferred (some []))).push (.loop {state:=.ready,pending:=none,fn:=b.fn,tmps:=t,params:=ps,assign:=a,body:=x,defers:=w.heap.size})}, #[]):=λw=>rfl
 let call (l:Nat):Sem Next:=do let d<-resolve (QQ t) (rangeCall g l) 0;invoke d.target d.args
 let s:Sem ((Nat×List Deferred)×Next):=(Instr.enterLoop b.fn t ps a x none).bind λI=>(call I.1).bind λA=>if Zm2 A then pure (I,A)else stuck ""
 rw[S]at he;refine ZdS (s:=s) (F:=ZwW P b t ds k cs) (λmain w w' y es h=>?_) ?_ (x:=((l,H),.enter f args)) ?_ rfl
 ·show stepG P main (G (mkF b t ds (.code (.rangeFunc g ps a x)::k)) cs) w=_;simp only[s]at h;rw[Sem.runT_bind',Y w]at h;simp only at h;rw[Sem.runT_bind']at h;obtain⟨⟨l',aa⟩,A⟩:=y;cases hcall:(call (w.heap.push (.deferred (some []))).size).runT P {w with heap:=(w.heap.push (.deferred (some []))).push (.loop {state:=.ready,pending:=none,fn:=b.fn,tmps:=t,params:=ps,assign:=a,body:=x,defers:=w.heap.size})} #[]with
  |mk r Z=>
   rw[hcall]at h;cases r with
   |halt hh w2=>simp at h
   |ok ac w2=>
    simp only at h;cases ac with
    |enter f' U=>
     have h:((.ok (((w.heap.push (.deferred (some []))).size,[{target:=.collected w.heap.size,args:= #[]}]),.enter f' U) w2:Result _),Z)=(.ok ((l',aa),A) w',es):=h;simp only[aK,Result.ok.injEq]at h;obtain⟨⟨⟨⟨rfl,rfl⟩,rfl⟩,rfl⟩,rfl⟩:=h;have V:(mkF b t ([{target:=.collected w.heap.size,args:= #[]}]++ds) (.inRangeFunc (w.heap.push (.deferred (some []))).size::k)).eval=QQ t:=ZcM _;simp only[mkF,S]at V;have ab:=b.not_early;simp only[G,stepG,stepG.exec,mkF,S,Y w];rw[seen_none];unfold stepG.apply;simp only[if_true,V];rw[show((do let d<-resolve (QQ t) {callee:=.value g,args:= #[.const (.func (.yield (w.heap.push (.deferred (some []))).size) #[] #[])],argTypes:= #[]} 0;invoke d.target d.args):Sem Next)=call (w.heap.push (.deferred (some []))).size from rfl,hcall];simp[GStep.after,ZwW,ab,mkF,ZL,S]
    |_=>
     have h:((.halt (.stuck "") w2:Result ((Nat×List Deferred)×Next)),Z)=(.ok ((l',aa),A) w',es):=h
     simp at h
 ·refine Qh.bind (?_:Zx P _ (Instr.enterLoop b.fn t ps a x none)) λI K _ _=>Qh.bind (hm I.1 K) λA K _ _=>?_
  ·exact .inl ⟨rfl,λr=>.inl ⟨rfl,λr=>trivial⟩⟩
  split
  ·exact Zq
  exact Qd
 show((Instr.enterLoop b.fn t ps a x none)>>=λI=>(call I.1)>>=λA=>if Zm2 A then pure (I,A)else stuck "").run P w=_
 rw[aR,he,aH,aR];rw[show(call l).run P w₁=_ from hc,aH];rfl
def Ziy (P:Program) (cx:Option Nat) (f:FuncId) (vs:Array Value) (cs:List Frame) (w:World) (v:Value) (w':World):Prop:=
 ∃(b:FB) (t:Array Value) (A:List Item) (fn:Func),Steps P cx (ZL (dN P f vs .normal) cs w) (ZL {mkF b t [] A with mode:=.returning} cs w')/\b.df=false/\P.funcs[b.fn]? =some fn/\(results fn t).run P w'= .ok v w'/\b.fn=f
theorem Ziy.call {f:FuncId} {vs:Array Value} {c:Frame} {w w':World} {v:Value} (h:Ziy P cx f vs (c::cs) w v w'):Steps P cx (ZL (dN P f vs .normal) (c::cs) w) (ZL (c.finish v) cs w'):=by
 obtain⟨b,t,J,fn,H,A,I,G,_⟩:=h;exact H.trans (.one (Zqb A I G))
end
end Vm
end Go.Proofs.YtjgpiclllehgmaaGreat
