/- Lemmas. -/
import Derived.RangeFuncIn
import Derived.Orders
import Derived.Test.YtjgpiclllehgmaaGreatME
import Derived.Test.YtjgpiclllehgmaaGreatCxLeaf
set_option linter.all false
open Bool renaming false_eq_true->aX
open Go.Frame renaming enter->dO
open Prod renaming fst->gz
open Prod.mk renaming injEq->aK
open Go.Result renaming andThen_ok->aH
open Go.Sem renaming run_bind->aQ
namespace Go.Proofs.YtjgpiclllehgmaaGreat
namespace Vm
open Go Go.Conc Conc1
def ZN (fr:Frame) (cs:List Frame) (w:World):Cf:=⟨fr,cs,w⟩
abbrev Steps (P:Program) (cx:Option Nat):Cf->Cf->Prop:=StepsC P cx
theorem Steps.trans {P:Program} {cx:Option Nat} {a b c:Cf} (h:Steps P cx a b) (h':Steps P cx b c):Steps P cx a c:=StepsC.trans h h'
structure FB where
 fn:FuncId
 df:Bool
 roundOf:Option Nat
 base:List Deferred
def FB.kind (b:FB):CallKind:=if b.df then .deferred else .normal
def mkF (b:FB) (tmps:Array Value) (ds:List Deferred) (todo:List Item):Frame:=
 {fn:=b.fn,tmps,todo,defers:=ds,mode:=.run,kind:=b.kind,roundOf:=b.roundOf}
theorem FB.not_early (b:FB):(b.kind== .early)=false:=by unfold FB.kind;split<;>rfl
section
variable {P:Program} {cx:Option Nat} {b:FB} {t:Array Value} {ds:List Deferred} {k:List Item} {cs:List Frame} {w:World}
theorem Xr {fr H:Frame} {cs A:List Frame} (h:∀main w,stepG P main (G fr cs) w= .go (G H A) w):One P cx (ZN fr cs w) (ZN H A w):=by
 refine OwM.one ⟨Unit,pure (),λ_=>(H,A),(), #[],λmain w I x es hr=>?_,trivial,rfl,rfl⟩;have hr:((.ok () w:Result Unit),(#[]:Array Event))=(.ok x I,es):=hr;simp only[aK,Result.ok.injEq]at hr;obtain⟨⟨_,rfl⟩,rfl⟩:=hr;exact(h main w).trans (by rw[seen_none])
theorem ZsC:One P cx (ZN (mkF b t ds (.code .skip::k)) cs w) (ZN (mkF b t ds k) cs w):=Xr λ_ _=>rfl
theorem Zqa {l:Nat}:One P cx (ZN (mkF b t ds (.code (.label l)::k)) cs w) (ZN (mkF b t ds k) cs w):=Xr λ_ _=>rfl
theorem Zln {x:Code}:One P cx (ZN (mkF b t ds (.inScope x::k)) cs w) (ZN (mkF b t ds k) cs w):=Xr λ_ _=>rfl
theorem Zp7 {x:Code}:One P cx (ZN (mkF b t ds (.code (.scope x)::k)) cs w) (ZN (mkF b t ds (.code x:: .inScope x::k)) cs w):=Xr λ_ _=>rfl
theorem Zlo {id:Nat}:One P cx (ZN (mkF b t ds (.inBlock id::k)) cs w) (ZN (mkF b t ds k) cs w):=Xr λ_ _=>rfl
theorem ZiH {x y:Code}:One P cx (ZN (mkF b t ds (.code (.seq x y)::k)) cs w) (ZN (mkF b t ds (.code x:: .code y::k)) cs w):=Xr λ_ _=>rfl
theorem ZmE {c:Operand} {x y:Code} {v:Bool} (h:(mkF b t ds (.code (.cond c x y)::k)).eval c= .bool v):
  One P cx (ZN (mkF b t ds (.code (.cond c x y)::k)) cs w) (ZN (mkF b t ds (.code (if v then x else y)::k)) cs w):=
 Xr λ_ _=>by
  simp only[mkF]at h;simp[stepG,stepG.exec,mkF,G,h]
theorem Zqc {id:Nat} {c:Code}:One P cx (ZN (mkF b t ds (.code (.block id c)::k)) cs w) (ZN (mkF b t ds (.code c:: .inBlock id::k)) cs w):=Xr λ_ _=>rfl
theorem ZmC {c:Code}:One P cx (ZN (mkF b t ds (.code (.loop c)::k)) cs w) (ZN (mkF b t ds (.code c:: .inLoop c::k)) cs w):=Xr λ_ _=>rfl
theorem ZhR {c:Code}:One P cx (ZN (mkF b t ds (.inLoop c::k)) cs w) (ZN (mkF b t ds (.code c:: .inLoop c::k)) cs w):=Xr λ_ _=>rfl
theorem ZmD {id:Nat} {A:List Item} (h:exitTo id k=some A):One P cx (ZN (mkF b t ds (.code (.exit id)::k)) cs w) (ZN (mkF b t ds A) cs w):=Xr λ_ _=>by simp[stepG,stepG.exec,mkF,G,h]
theorem ZsD {l:Nat} {A:List Item} (h:gotoIn l k=some A):One P cx (ZN (mkF b t ds (.code (.goto l)::k)) cs w) (ZN (mkF b t ds A) cs w):=Xr λ_ _=>by simp[stepG,stepG.exec,mkF,G,h]
theorem ZcA {id:Nat} {ops:Array Oper}:One P cx (ZN (mkF b t ds (.code (.region id ops false)::k)) cs w) (ZN (mkF b t ds (.inRegion ops (List.range ops.size)::k)) cs w):=Xr λ_ _=>by simp[stepG,stepG.exec,mkF,G]
theorem Ji {ops:Array Oper}:One P cx (ZN (mkF b t ds (.inRegion ops []::k)) cs w) (ZN (mkF b t ds k) cs w):=Xr λ_ _=>by simp[stepG,stepG.exec,mkF,G]
theorem Zll {id:Nat} {ops:Array Oper}:One P cx (ZN (mkF b t ds (.code (.region id ops true)::k)) cs w)
  (ZN (mkF b t ds (.inRegion ops (Region.schedule (P.follows .mixedOrders) ops (w.tape w.drawn (.order b.fn id)))::k)) cs {w with drawn:=w.drawn+1}):=by
 refine OwM.one ⟨Nat,choose (.order b.fn id),λn=>(mkF b t ds (.inRegion ops (Region.schedule (P.follows .mixedOrders) ops n)::k),cs),w.tape w.drawn (.order b.fn id), #[],λmain w A x es hr=>?_,λ_=>trivial,rfl,rfl⟩;have hr:((.ok (w.tape w.drawn (.order b.fn id)) {w with drawn:=w.drawn+1}:Result Nat),(#[]:Array Event))=(.ok x A,es):=hr;simp only[aK,Result.ok.injEq]at hr;obtain⟨⟨rfl,rfl⟩,rfl⟩:=hr;rw[seen_none];simp[ZN,stepG,stepG.exec,mkF,G,choose,Sem.run,Question.forced,Question.cut]
theorem Zqb (hr:b.roundOf=none):One P cx (ZN (mkF b t ds []) cs w) (ZN {mkF b t ds []with mode:=.returning} cs w):=Xr λ_ _=>by simp[stepG,stepG.exec,mkF,G,hr]
theorem Zp8 (hr:b.roundOf=none):One P cx (ZN (mkF b t ds (.code .ret::k)) cs w) (ZN {mkF b t ds (.code .ret::k)with mode:=.returning} cs w):=Xr λ_ _=>by simp[stepG,stepG.exec,mkF,G,hr]
def Z8 (t:Array Value):Option Tmp->Value->Array Value
 |some d,v=>t.setIfInBounds d v
 |none,_=>t
theorem XF (ops:Array Oper) (i:Nat) (rest:List Nat) (v:Value):
  (mkF b t ds (.inRegion ops (i::rest)::k)).finish v=mkF b (Z8 t ((ops[i]?).bind (·.dst)) v) ds (.inRegion ops rest::k):=by
 cases h:(ops[i]?).bind (·.dst)<;>simp[Frame.finish,mkF,Z8,h]
theorem Znt {ops:Array Oper} {i:Nat} {rest:List Nat} (h:((ops[i]?).map (Region.wanted · (yielded ops t))).getD false=false):
  One P cx (ZN (mkF b t ds (.inRegion ops (i::rest)::k)) cs w) (ZN (mkF b (Z8 t ((ops[i]?).bind (·.dst)) undef) ds (.inRegion ops rest::k)) cs w):=by
 rw[<-XF];exact Xr λ_ _=>by
  have A:=h;simp only[mkF]at*;simp[stepG,stepG.exec,G,A]
def QV (t:Array Value):Operand->Value
 |.tmp i=>t.getD i undef
 |.const v=>v
 |.global g=>.pointer (some ⟨g,0,none⟩)
 |.func f=>.func (.func f) #[] #[]
theorem ZcF (todo:List Item):(mkF b t ds todo).eval=QV t:=by funext x;cases x<;>rfl
theorem Zdf {ops:Array Oper} {i:Nat} {rest:List Nat} {o:Oper} (A:ops[i]? =some o) (hw:Region.wanted o (yielded ops t)=true) (H:∀c,o.op≠ .defer c) (main:Bool) (w:World):
  stepG P main (G (mkF b t ds (.inRegion ops (i::rest)::k)) cs) w=stepG.apply P true (mkF b t ds (.inRegion ops (i::rest)::k)) cs none (execOp (QV t) o) w:=by
 have I:(mkF b t ds (.inRegion ops (i::rest)::k)).eval=QV t:=ZcF _;have S:(mkF b t ds (.inRegion ops (i::rest)::k)).oper?=some o:=by simp[Frame.oper?,mkF,A]
 have J:stepG P main (G (mkF b t ds (.inRegion ops (i::rest)::k)) cs) w=stepG.oper P true (mkF b t ds (.inRegion ops (i::rest)::k)) cs none w:=by
  simp[stepG,stepG.exec,mkF,G,A,hw]
 rw[J];unfold stepG.oper;simp only[S,I];split
 ·rename_i l c V U;exact absurd U (H c)
 rfl
open Classical in
theorem ZcC {fr:Frame} {cs:List Frame} {s:Sem Next} {nv:Next} {w w':World} (hk:(fr.kind== .early)=false) (hc:∀d r sv k,fr.todo≠ .call d true r sv::k)
  (h:∀main w,stepG P main (G fr cs) w=stepG.apply P true fr cs none s w) (hm:ZA P (λ_=>False) s) (hr:s.run P w= .ok nv w') (Z:Next.plain nv):
  One P cx (ZN fr cs w) (ZN (opF P fr cs nv).1 (opF P fr cs nv).2 w'):=by
 let J:Sem Next:=s.bind λx=>if Next.plain x then pure x else stuck ""
 have H:∀w x w' es A,J.runT P w es=(.ok x w',A)->s.runT P w es=(.ok x w',A)/\Next.plain x:=λw x w' es A hr=>by
  simp only[J]at hr;rw[Sem.runT_bind']at hr;split at hr
  ·rename_i a S I ha;split at hr
   ·rename_i V;have:((.ok a S:Result Next),I)=(.ok x w',A):=hr;simp only[aK,Result.ok.injEq]at this;obtain⟨⟨rfl,rfl⟩,rfl⟩:=this;exact⟨ha,V⟩
   have:((.halt (.stuck "") S:Result Next),I)=(.ok x w',A):=hr
   simp at this
  simp at hr
 refine OwM.one ⟨Next,J,opF P fr cs,nv,s.events P w #[],λmain w w' x es hr=>?_,Qj.bind hm λa K _ _=>?_,?_,rfl⟩
 ·obtain⟨U,h2⟩:=H _ _ _ _ _ hr;have Y:=congrArg gz U;rw[Sem.runT_eq]at Y;simp only at Y;show stepG P main (G fr cs) w=_;rw[h main w];unfold stepG.apply;simp only[if_true,U,hk,aX,if_false];cases x<;>first|exact h2.elim|skip
  ·simp[GStep.after,G,opF,ZN]
  ·simp[GStep.after,G,opF,ZN]
  ·simp only[GStep.after,G,opF,ZN];simp
  simp[GStep.after,G,opF,ZN]
 ·split
  ·exact Zp
  exact Qg
 show(s.bind _).runT P w #[]=_;rw[Sem.runT_bind',Sem.runT_eq,hr];simp only;rw[iQ Z];rfl
theorem ZaP {ops:Array Oper} {i:Nat} {rest:List Nat} {o:Oper} {v:Value} {w':World} {nv:Next} (G:ops[i]? =some o) (hw:Region.wanted o (yielded ops t)=true) (H:∀c,o.op≠ .defer c) (hm:ZA P (λ_=>False) (execOp (QV t) o))
  (hr:(execOp (QV t) o).run P w= .ok nv w') (A:nv= .value v\/(nv= .skip/\v=undef)):
  One P cx (ZN (mkF b t ds (.inRegion ops (i::rest)::k)) cs w) (ZN (mkF b (Z8 t o.dst v) ds (.inRegion ops rest::k)) cs w'):=by
 have I:(mkF b t ds (.inRegion ops (i::rest)::k)).finish v=mkF b (Z8 t o.dst v) ds (.inRegion ops rest::k):=by rw[XF,G];rfl
 rw[<-I];have:=ZcC (cx:=cx) (fr:=mkF b t ds (.inRegion ops (i::rest)::k)) (cs:=cs) b.not_early (λ_ _ _ _ e=>by cases e) (Zdf G hw H) hm hr (by rcases A with rfl|⟨rfl,_⟩<;>trivial);rcases A with rfl|⟨rfl,rfl⟩<;>exact this
theorem Zlm {ops:Array Oper} {i:Nat} {rest:List Nat} {o:Oper} {l:Nat} {f:FuncId} {tmps:Array Value} {a x:Code} {w':World} (G:ops[i]? =some o) (hw:Region.wanted o (yielded ops t)=true) (A:∀c,o.op≠ .defer c) (hm:ZA P (λ_=>False) (execOp (QV t) o))
  (hr:(execOp (QV t) o).run P w= .ok (.round l f tmps a x) w'):
  One P cx (ZN (mkF b t ds (.inRegion ops (i::rest)::k)) cs w) (ZN (Frame.round l f tmps a x .normal) (mkF b t ds (.inRegion ops (i::rest)::k)::cs) w'):=
 ZcC (fr:=mkF b t ds (.inRegion ops (i::rest)::k)) b.not_early (λ_ _ _ _ e=>by cases e) (Zdf G hw A) hm hr trivial
theorem Znv {ops:Array Oper} {i:Nat} {rest:List Nat} {o:Oper} {f:FuncId} {args:Array Value} {w':World} (G:ops[i]? =some o) (hw:Region.wanted o (yielded ops t)=true) (A:∀c,o.op≠ .defer c) (hm:ZA P (λ_=>False) (execOp (QV t) o))
  (hr:(execOp (QV t) o).run P w= .ok (.enter f args) w'):
  One P cx (ZN (mkF b t ds (.inRegion ops (i::rest)::k)) cs w) (ZN (dO P f args .normal) (mkF b t ds (.inRegion ops (i::rest)::k)::cs) w'):=
 ZcC (fr:=mkF b t ds (.inRegion ops (i::rest)::k)) b.not_early (λ_ _ _ _ e=>by cases e) (Zdf G hw A) hm hr trivial
theorem Znu {ops:Array Oper} {i:Nat} {rest:List Nat} {o:Oper} {c x:Operand} {ch:Nat} {v:Bool} {A:Array Value} {s r:Nat} {J:Bool} (S:ops[i]? =some o) (hw:Region.wanted o (yielded ops t)=true) (I:o.op= .send c x) (Y:QV t c= .chan (some ch)) (Z:QV t x= .bool v)
  (H:w.heap[ch]? =some (.chan 0 A false s r J)):One P (some ch) (ZN (mkF b t ds (.inRegion ops (i::rest)::k)) cs w) (ZN (mkF b (Z8 t o.dst undef) ds (.inRegion ops rest::k)) cs (w.setChan ch 0 (A.push (.bool v)) false (s+1) r J)):=by
 have U:(mkF b t ds (.inRegion ops (i::rest)::k)).finish undef=mkF b (Z8 t o.dst undef) ds (.inRegion ops rest::k):=by rw[XF,S];rfl
 refine .inr ⟨v,A,s,r,J,⟨.tuple #[],λw=>?_⟩,H,by rw[<-U];rfl⟩;show stepG P false (G (mkF b t ds (.inRegion ops (i::rest)::k)) cs) w=_;rw[Zdf S hw (λc e=>by rw[I]at e;cases e)];have V:execOp (QV t) o=pure (.comm #[scase ch (.bool v) (.tuple #[])] true .send):=by
  unfold execOp;simp only[I,Y,Z];rfl
 rw[V];unfold stepG.apply;simp[GStep.after,G,b.not_early,mkF];exact⟨⟨rfl,rfl⟩,seen_none _ _⟩
theorem ZdK {α:Type} {s:Sem α} {F:α->Frame×List Frame} {fr A:Frame} {G:List Frame} {w w':World} {x:α} (H:Zrz P fr cs s F) (hm:ZA P (λ_=>False) s) (hr:s.run P w= .ok x w') (I:F x=(A,G)):One P cx (ZN fr cs w) (ZN A G w'):=
 OwM.one ⟨α,s,F,x,s.events P w #[],H,hm,by
  rw[Sem.runT_eq];show(s.run P w,_)=_;rw[hr]
  rfl,I⟩
theorem Zbm {α:Type} {s:Sem α} {w w':World} {x:α} {es:Array Event} (h:s.runT P w #[]=(.ok x w',es)):s.run P w= .ok x w'/\s.events P w #[]=es:=by
 rw[Sem.runT_eq]at h;exact⟨congrArg gz h,congrArg Prod.snd h⟩
theorem ZdO {fn:Func} {tmps:Array Value} {K:Nat->Prop}:ZA P K (results fn tmps):=
 Zg (λK=>Zgx (λr K=>by
  cases r with
  |tmp t=>exact Zp
  |cell a t=>exact Zg (λ_=>Zfh) λ_ _=>Zbs) _ K) λ_ _=>Zp
theorem Zp9 {c:Frame} {todo:List Item} {v:Value} {fn:Func} (A:b.df=false) (H:P.funcs[b.fn]? =some fn) (hr:(results fn t).run P w= .ok v w):
  One P cx (ZN {mkF b t [] todo with mode:=.returning} (c::cs) w) (ZN (c.finish v) cs w):=by
 refine ZdK (s:=results fn t) (F:=λv=>(c.finish v,cs)) (λmain w S x es h=>?_) ZdO hr rfl;obtain⟨J,I⟩:=Zbm h;have A:b.kind= .normal:=by simp[FB.kind,A]
 simp[G,stepG,unwind,doReturn,mkF,A,H,J,I,GStep.after]
theorem ZdM {r:Nat} {K:Nat->Prop}:ZA P K (Instr.takeDeferred r):=
 Xz (λo A=>by
  split
  ·exact Qj.bind (XU (.inr rfl) rfl) λ_ _ _ _=>Zp
  exact Qg) (λo A=>by cases o<;>first|exact ZbF|(cases A;done))
theorem Zp6 {r:Nat} {calls:List Deferred} {todo:List Item} {w':World} (hr:(Instr.takeDeferred r).run P w= .ok calls w'):
  One P cx (ZN {mkF b t ({target:=.collected r,args:= #[]}::ds) todo with mode:=.returning} cs w) (ZN {mkF b t (calls++ds) todo with mode:=.returning} cs w'):=by
 refine ZdK (s:=Instr.takeDeferred r) (F:=λcalls=>({mkF b t (calls++ds) todo with mode:=.returning},cs)) (λmain w w' x es h=>?_) ZdM hr rfl;obtain⟨A,H⟩:=Zbm h;simp[G,stepG,unwind,mkF,A,H,GStep.after]
theorem JW {α:Type} {l:Nat} {K:Nat->Prop} {f:Loop->Sem α} (G:∀r,ZA P (λx=>K x\/x=l) (f r)):ZA P K (Instr.getLoop l>>=f):=by
 have:Instr.getLoop l>>=f=getObj l>>=λo=>(match o with|.loop r=>f r|_=>stuck "range over a function: no such loop"):=by
  show(Instr.getLoop l).bind f=(getObj l).bind _;unfold Instr.getLoop;show Sem.getObj l _=Sem.getObj l _;congr 1;funext o;cases o<;>rfl
 rw[this];refine Xz (λo A=>?_) (λo A=>by cases o<;>first|exact ZbF|(cases A;done));split
 ·exact G _
 exact Qg
theorem ZfB {l:Nat} {K:Nat->Prop}:ZA P K (Instr.beginRound l):=JW λr=>Qj.bind (XU (.inr rfl) rfl) λ_ A _ _=>by
 split
 ·exact Zp
 ·exact ZY
 ·exact ZY
 exact ZY
theorem Zhw {l:Nat} {j:Option Code} {K:Nat->Prop}:ZA P K (Instr.endRound l j):=JW λr=>Qj.bind (XU (.inr rfl) rfl) λ_ A _ _=>Zp
theorem Zi3 {l:Nat} {K:Nat->Prop}:ZA P K (Instr.endLoop l):=JW λr=>by
 split
 ·exact .of_dies (Qz.bind_left Jd) _
 exact Qj.bind (XU (.inr rfl) rfl) λ_ A _ _=>Zp
theorem ZlB {l:Nat} {args:Array Value} {K:Nat->Prop}:ZA P K (Instr.yield l args):=JW λr=>by
 split
 ·exact Zg (λ_=>Qg) λ_ _=>Zp
 exact Zp
theorem Zhr {l:Nat} {w':World} (A:b.roundOf=some l) (hr:(Instr.beginRound l).run P w= .ok () w'):One P cx (ZN (mkF b t ds (.beginRound::k)) cs w) (ZN (mkF b t ds k) cs w'):=by
 refine ZcC (s:=(do Instr.beginRound l;pure .skip)) (nv:=.skip) (fr:=mkF b t ds (.beginRound::k)) b.not_early (λ_ _ _ _ e=>by cases e) (λmain w=>?_) (Zg (λ_=>ZfB) λ_ _=>Zp) ?_ trivial
 ·simp[stepG,stepG.exec,mkF,G,A]
 rw[aQ,hr];rfl
theorem Zf3 {l:Nat} {j:Option Code} {todo:List Item} {v:Value} {w':World} {c:Frame} (J:b.roundOf=some l) (A:b.df=false) (S:(j=none/\todo=[])\/(j=some .ret/\∃k,todo= .code .ret::k)\/∃id k,j=some (.exit id)/\todo= .code (.exit id)::k/\exitTo id k=none)
  (hr:(Instr.endRound l j).run P w= .ok v w'):One P cx (ZN (mkF b t ds todo) (c::cs) w) (ZN (c.finish v) cs w'):=by
 refine ZdK (s:=Instr.endRound l j) (F:=λv=>(c.finish v,cs)) (λmain w w' x es h=>?_) Zhw hr rfl;obtain⟨I,H⟩:=Zbm h;have A:b.kind= .normal:=by simp[FB.kind,A]
 rcases S with⟨rfl,rfl⟩|⟨rfl,k,rfl⟩|⟨id,k,rfl,rfl,U⟩
 ·simp[G,stepG,stepG.exec,mkF,J,A,I,H,doReturn,GStep.after]
 ·simp[G,stepG,stepG.exec,mkF,J,A,I,H,doReturn,GStep.after]
 simp[G,stepG,stepG.exec,mkF,J,A,U,I,H,doReturn,GStep.after]
theorem Zfv {l:Nat} {A:Option Code} {w':World} (h:(Instr.endLoop l).run P w= .ok A w'):One P cx (ZN (mkF b t ds (.endRangeFunc l::k)) cs w) (ZN (mkF b t ds ((A.map Item.code).toList++k)) cs w'):=by
 refine ZdK (s:=Instr.endLoop l) (F:=λA=>(mkF b t ds ((A.map Item.code).toList++k),cs)) (λmain w w' x es h=>?_) Zi3 h rfl;obtain⟨I,H⟩:=Zbm h;simp[G,stepG,stepG.exec,mkF,I,H,GStep.after]
theorem Zhx {fid:FuncId} {args:Array Value} {fn:Func} {c:Code} {K:Nat->Prop} (G:P.funcs[fid]? =some fn) (H:fn.body=some c) (A:(fn.name== "runtime.NumGoroutine")=false):ZA P K (callFunc fid args):=by
 show ZA P K (match P.funcs[fid]? with|none=>_|some fn=>_);rw[G];have I:fn.name≠ "runtime.NumGoroutine" :=by simpa using A
 simp only[H,A,Option.isNone_some,aX,if_false];exact Zp
theorem Zgz {fid:FuncId} {f:Operand} {xs:Array Operand} {A:Array TypeId} {ty:TypeId} {us vs:Array Value} {fn:Func} {c:Code} {K:Nat->Prop} (G:QV t f= .func (.func fid) us vs) (I:P.funcs[fid]? =some fn) (H:fn.body=some c) (J:(fn.name== "runtime.NumGoroutine")=false):
  ZA P K (do let d<-resolve (QV t) {callee:=.value f,args:=xs,argTypes:=A} ty;invoke d.target d.args):=by
 have e:(do let d<-resolve (QV t) {callee:=.value f,args:=xs,argTypes:=A} ty;invoke d.target d.args:Sem Next)=callFunc fid (us++xs.map (QV t)++vs):=by
  simp only[resolve,G,Deferred.ofValue];rfl
 rw[e];exact Zhx I H J
theorem ZlJ {l:Nat} {f:Operand} {xs:Array Operand} {A:Array TypeId} {ty:TypeId} {K:Nat->Prop} (G:QV t f= .func (.yield l) #[] #[]):
  ZA P K (do let d<-resolve (QV t) {callee:=.value f,args:=xs,argTypes:=A} ty;invoke d.target d.args):=by
 have e:(do let d<-resolve (QV t) {callee:=.value f,args:=xs,argTypes:=A} ty;invoke d.target d.args:Sem Next)=Instr.yield l (#[]++xs.map (QV t)):=by
  simp only[resolve,G,Deferred.ofValue];rfl
 rw[e];exact ZlB
def Zm1:Next->Bool
 |.enter .. =>true
 |_=>false
def ZwS (P:Program) (b:FB) (t:Array Value) (ds:List Deferred) (k:List Item) (cs:List Frame) (x:(Nat×List Deferred)×Next):Frame×List Frame:=match x.2 with
 |.enter f A=>(dO P f A .normal,mkF b t (x.1.2++ds) (.inRangeFunc x.1.1::k)::cs)
 |_=>(default,[])
theorem ZiI {w₁ J:World} {g:Operand} {ps:Array Tmp} {a x:Code} {l:Nat} {H:List Deferred} {f:FuncId} {args:Array Value} (S:b.roundOf=none)
  (he:(Instr.enterLoop b.fn t ps a x b.roundOf).run P w= .ok (l,H) w₁) (hm:∀l K,ZA P K (do let d<-resolve (QV t) (rangeCall g l) 0;invoke d.target d.args))
  (hc:((do let d<-resolve (QV t) (rangeCall g l) 0;invoke d.target d.args):Sem Next).run P w₁= .ok (.enter f args) J):
  One P cx (ZN (mkF b t ds (.code (.rangeFunc g ps a x)::k)) cs w) (ZN (dO P f args .normal) (mkF b t (H++ds) (.inRangeFunc l::k)::cs) J):=by
 have Y:∀w:World,(Instr.enterLoop b.fn t ps a x none).runT P w #[]=(.ok ((w.heap.push (.deferred (some []))).size,[{target:=.collected w.heap.size,args:= #[]}])
   {w with heap:=(w.heap.push (.deferred (some []))).push (.loop {state:=.ready,pending:=none,fn:=b.fn,tmps:=t,params:=ps,assign:=a,body:=x,defers:=w.heap.size})}, #[]):=λw=>rfl
 let call (l:Nat):Sem Next:=do let d<-resolve (QV t) (rangeCall g l) 0;invoke d.target d.args
 let s:Sem ((Nat×List Deferred)×Next):=(Instr.enterLoop b.fn t ps a x none).bind λI=>(call I.1).bind λA=>if Zm1 A then pure (I,A)else stuck ""
 rw[S]at he;refine ZdK (s:=s) (F:=ZwS P b t ds k cs) (λmain w w' y es h=>?_) ?_ (x:=((l,H),.enter f args)) ?_ rfl
 ·show stepG P main (G (mkF b t ds (.code (.rangeFunc g ps a x)::k)) cs) w=_;simp only[s]at h;rw[Sem.runT_bind',Y w]at h;simp only at h;rw[Sem.runT_bind']at h;obtain⟨⟨l',aa⟩,A⟩:=y;cases hcall:(call (w.heap.push (.deferred (some []))).size).runT P {w with heap:=(w.heap.push (.deferred (some []))).push (.loop {state:=.ready,pending:=none,fn:=b.fn,tmps:=t,params:=ps,assign:=a,body:=x,defers:=w.heap.size})} #[]with
  |mk r Z=>
   rw[hcall]at h;cases r with
   |halt hh w2=>simp at h
   |ok ac w2=>
    simp only at h;cases ac with
    |enter f' U=>
     have h:((.ok (((w.heap.push (.deferred (some []))).size,[{target:=.collected w.heap.size,args:= #[]}]),.enter f' U) w2:Result _),Z)=(.ok ((l',aa),A) w',es):=h;simp only[aK,Result.ok.injEq]at h;obtain⟨⟨⟨⟨rfl,rfl⟩,rfl⟩,rfl⟩,rfl⟩:=h;have V:(mkF b t ([{target:=.collected w.heap.size,args:= #[]}]++ds) (.inRangeFunc (w.heap.push (.deferred (some []))).size::k)).eval=QV t:=ZcF _;simp only[mkF,S]at V;have ab:=b.not_early;simp only[G,stepG,stepG.exec,mkF,S,Y w];rw[seen_none];unfold stepG.apply;simp only[if_true,V];rw[show((do let d<-resolve (QV t) {callee:=.value g,args:= #[.const (.func (.yield (w.heap.push (.deferred (some []))).size) #[] #[])],argTypes:= #[]} 0;invoke d.target d.args):Sem Next)=call (w.heap.push (.deferred (some []))).size from rfl,hcall];simp[GStep.after,ZwS,ab,mkF,ZN,S]
    |_=>
     have h:((.halt (.stuck "") w2:Result ((Nat×List Deferred)×Next)),Z)=(.ok ((l',aa),A) w',es):=h
     simp at h
 ·refine Qj.bind (?_:ZA P _ (Instr.enterLoop b.fn t ps a x none)) λI K _ _=>Qj.bind (hm I.1 K) λA K _ _=>?_
  ·exact .inl ⟨rfl,λr=>.inl ⟨rfl,λr=>trivial⟩⟩
  split
  ·exact Zp
  exact Qg
 show((Instr.enterLoop b.fn t ps a x none)>>=λI=>(call I.1)>>=λA=>if Zm1 A then pure (I,A)else stuck "").run P w=_
 rw[aQ,he,aH,aQ];rw[show(call l).run P w₁=_ from hc,aH];rfl
def ZiA (P:Program) (cx:Option Nat) (f:FuncId) (vs:Array Value) (cs:List Frame) (w:World) (v:Value) (w':World):Prop:=
 ∃(b:FB) (t:Array Value) (A:List Item) (fn:Func),Steps P cx (ZN (dO P f vs .normal) cs w) (ZN {mkF b t [] A with mode:=.returning} cs w')/\b.df=false/\P.funcs[b.fn]? =some fn/\(results fn t).run P w'= .ok v w'/\b.fn=f
theorem ZiA.call {f:FuncId} {vs:Array Value} {c:Frame} {w w':World} {v:Value} (h:ZiA P cx f vs (c::cs) w v w'):Steps P cx (ZN (dO P f vs .normal) (c::cs) w) (ZN (c.finish v) cs w'):=by
 obtain⟨b,t,J,fn,H,A,I,G,_⟩:=h;exact H.trans (.one (Zp9 A I G))
end
end Vm
end Go.Proofs.YtjgpiclllehgmaaGreat
