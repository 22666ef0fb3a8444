/- kept's channel, its goroutine and the answers: by hand, as one piece. -/
import Derived.Test.YtjgpiclllehgmaaGreatB5
import Derived.Test.YtjgpiclllehgmaaGreatB3
import Derived.Test.YtjgpiclllehgmaaGreatB4
import Derived.Test.YtjgpiclllehgmaaGreatB1
import Derived.Test.YtjgpiclllehgmaaGreatB2
set_option linter.all false
namespace Go.Proofs.YtjgpiclllehgmaaGreat.Vm
open Go Go.Conc Go.Proofs Go.Proofs.YtjgpiclllehgmaaGreat.Conc1
section
variable {P:Program} {b:FB} {ds:List Deferred} {k:List Item} {cs:List Frame} {t:Array Value}
theorem ZeQ {cx:Option Nat} {ops:Array Oper} {i:Nat} {rest:List Nat} {d:Option Tmp} {op:Op} {v:Value} {nv:Next} {w w':World} (H:Je ops i d op) (hd:∀c,op≠ .defer c) (hm:∀o:Oper,o.op=op→Zv P (fun _=>False) (execOp (Qv t) o))
  (hr:∀o:Oper,o.op=op→(execOp (Qv t) o).run P w= .ok nv w') (hnv:nv= .value v∨(nv= .skip∧v=undef)):
  One P cx (ZA (mkF b t ds (.inRegion ops (i::rest)::k)) cs w) (ZA (mkF b (ZY t d v) ds (.inRegion ops rest::k)) cs w'):=by
 obtain⟨o,ho,hop,hdst,hg⟩:=H.ok
 rw[←hdst]
 exact J7 ho (by simp[Region.wanted,hg]) (fun c=>by rw[hop];exact hd c) (hm o hop) (hr o hop) hnv
theorem Zie {ops:Array Oper} {rest:List Nat} {i d:Nat} {T:TypeId} {dr:ChanDir} {B:TypeId} {w:World} (H:Je ops i (some d) (.makeChan T (.const (.int .i64 0)))) (hU:P.underlying T=some (.chan dr B)) (hB:∃i,P.info? B=some i):
  One P none (ZA (mkF b t ds (.inRegion ops (i::rest)::k)) cs w) (ZA (mkF b (ZY t (some d) (.chan (some w.heap.size))) ds (.inRegion ops rest::k)) cs {w with heap:=w.heap.push (.chan 0 #[] false 0 0 false)}):=by
 obtain⟨o,ho,hop,hdst,hg⟩:=H.ok
 obtain⟨iB,hi⟩:=hB
 have hr:∀w:World,(execOp (Qv t) o).runT P w #[]=(.ok (.value (.chan (some w.heap.size))) {w with heap:=w.heap.push (.chan 0 #[] false 0 0 false)}, #[]):=fun w=>by
  have e:execOp (Qv t) o=(Instr.makeChan T (.int .i64 0)>>=fun x=>pure (.value x)):=by
   unfold execOp
   simp only[hop]
   rfl
  rw[e]
  unfold Instr.makeChan
  show(Sem.bind (Sem.bind (underlying T) _) _).runT P w #[]=_
  rw[Sem.runT_bind',Sem.runT_bind',Ze2 hU]
  dsimp only
  rw[show∀f:TypeInfo→Sem Value,(typeInfo B>>=f)=Sem.bind (typeInfo B) f from fun _=>rfl,Sem.runT_bind',Zdh hi]
  dsimp only
  rw[if_neg (by simp[IntKind.max];decide)]
  rfl
 refine StepsC.main ?_
 refine .one (.head (.own ⟨Nat,Sem.new (.chan 0 #[] false 0 0 false) Sem.pure,fun n=>(mkF b (ZY t (some d) (.chan (some n))) ds (.inRegion ops rest::k),cs),w.heap.size, #[],fun main w w' x es h=>?_,rfl,rfl,fun e he=>by simp at he⟩) (.refl _))
 have h:((.ok w.heap.size {w with heap:=w.heap.push (.chan 0 #[] false 0 0 false)}:Result Nat),(#[]:Array Event))=(.ok x w',es):=h
 simp only[Prod.mk.injEq,Result.ok.injEq]at h
 obtain⟨⟨rfl,rfl⟩,rfl⟩:=h
 have:=ZdP (P:=P) (b:=b) (ds:=ds) (k:=k) (cs:=cs) (rest:=rest) ho hg (fun c=>by rw[hop];intro h;cases h) (hr w) main
 rw[hdst]at this
 exact this
theorem ZkS {α:Type} {A:Array α} {x y:α} {j:Nat} (h:j≠A.size):(A.push x)[j]? =(A.push y)[j]? :=by
 rw[Array.getElem?_push,Array.getElem?_push,if_neg h,if_neg h]
theorem VR.setCx {R:RC} {a:AV} {v:Value} (c:Option Nat) (h:VR R a v):VR {R with cx:=c} a v:=by
 induction h with
 |pure a v h=>exact .pure a v h
 |undef v=>exact .undef v
 |ptr id off h=>exact .ptr (R:={R with cx:=c}) id off h
 |own s n f id v h hp hn he=>exact .own s n f id v h hp hn he
 |nn s n f v hp hv=>exact .nn s n f v hp hv
 |aptr id s e off i h he=>exact .aptr (R:={R with cx:=c}) id s e off i h he
 |msl id s lo n c i len cap h hlo hn hc hle=>exact .msl (R:={R with cx:=_}) id s lo n c i len cap h hlo hn hc hle
 |gsl id n a l c h hn he hl=>exact .gsl id n a l c h hn he hl
 |gptr id s n e off a h hn he=>exact .gptr id s n e off a h hn he
 |lit s cs b o us hs h1 h2 h3 ih=>exact .lit s cs b o us hs h1 ih h3
 |map id h=>exact .map (R:={R with cx:=c}) id h
 |mit id h h0=>exact .mit (R:={R with cx:=c}) id h h0
 |fn f xs bs us vs ha hb h1 h2 ih1 ih2=>exact .fn f xs bs us vs ha hb ih1 ih2
 |yld id h=>exact .yld (R:={R with cx:=c}) id h
 |agg cs us ha h ih=>exact .agg cs us ha ih
 |tup cs us ha h ih=>exact .tup cs us ha ih
 |gd g a v h ih=>exact .gd g a v ih
 |ob g b v h1 h2=>exact .ob g b v h1 h2
structure KC (P:Program) (fid:FuncId) (xs:Nat→List AV) (L:List Bool):Prop where
 run:∀(ch:Nat) (R:RC) (vs:Array Value),HR (fun _ _ _=>True) R [.gob (.chq ch fun _=>[])]→R.cx=some ch→R.n0=1→XU R (xs ch) vs→∀cs,∃t todo w' s r tm ts ty c,
  StepsC P (some ch) ⟨Frame.enter P fid vs .deferred,cs,R.w⟩ ⟨{mkF ⟨fid,true,none,[]⟩ t [ZhU ts ty c ch] todo with mode:=.returning},cs,w'⟩∧w'.heap[ch]? =some (.chan 0 (L.map Value.bool).toArray false s r tm)∧
  (∀b,b<R.w.heap.size→b≠ch→w'.heap[b]? =R.w.heap[b]?)∧R.w.heap.size≤w'.heap.size∧w'.os=R.w.os∧w'.tape=R.w.tape∧w'.output=R.w.output
def wCh (w:World) (v:Value) (T:TypeId) (f:Nat×Nat):World:={w with heap:=(w.heap.push (.chan 0 #[] false 0 0 false)).push (.cells #[v] T f)}
theorem Zjv {w:World} {v:Value} {T:TypeId} {f:Nat×Nat} {b:Nat} (h:b<w.heap.size):(wCh w v T f).heap[b]? =w.heap[b]? :=by
 show((w.heap.push _).push _)[b]? =_
 rw[Array.getElem?_push,if_neg (by simp;omega),Array.getElem?_push,if_neg (by omega)]
theorem Zmz {w:World} {v:Value} {T:TypeId} {f:Nat×Nat}:(wCh w v T f).heap[w.heap.size]? =some (.chan 0 #[] false 0 0 false):=by
 show((w.heap.push _).push _)[w.heap.size]? =_
 rw[Array.getElem?_push,if_neg (by simp),Array.getElem?_push,if_pos rfl]
theorem ZcC {w:World} {v:Value} {T:TypeId} {f:Nat×Nat}:(wCh w v T f).heap[w.heap.size+1]? =some (.cells #[v] T f):=by
 show((w.heap.push _).push _)[w.heap.size+1]? =_
 rw[Array.getElem?_push,if_pos (by simp)]
theorem Zba {w:World} {v:Value} {T:TypeId} {f:Nat×Nat}:(wCh w v T f).heap.size=w.heap.size+2:=by
 show((w.heap.push _).push _).size=_
 simp
theorem Zdg {w:World} {v:Value} {T:TypeId} {f:Nat×Nat}:(wCh w v T f).cell? ⟨w.heap.size+1,0,none⟩=some v:=by
 unfold World.cell?
 rw[ZcC]
 rfl
theorem Zi4 {w w':World} {b:Nat} (h:w'.heap[b]? =w.heap[b]?) (i:Nat):w'.cell? ⟨b,i,none⟩=w.cell? ⟨b,i,none⟩:=by
 unfold World.cell?
 simp only[h]
end
theorem Zo3 {G:Nat→Nat→Nat→Prop} {R:RC} {h:List Zh} (H:HR G R h) (T:TypeId):∃R₃:RC,R₃.w=wCh R.w (.chan (some R.w.heap.size)) T (0,1)∧R₃.cx=some R.w.heap.size∧R₃.n0=1∧HR (fun _ _ _=>True) R₃ [.gob (.chq R.w.heap.size fun _=>[])]∧
  (∀k a v,VR R a v→VR R₃ (Qs true [] h k a) v)∧VR R₃ (.iptr [.cch R.w.heap.size] 0) (.pointer (some ⟨R.w.heap.size+1,0,none⟩)):=by
 obtain⟨R₂,acx,a0,a1,a2,a3,a4,a5,a6,a7,a8⟩:=H.sel (fz:=true) (ι:=[]) (fun _ _ _=>True) (fun _ _ _ _=>trivial) (fun _ _ _ _ _ _ _ _=>trivial) (fun _ _ _ _=>trivial) (fun _ _ _ _ _ _ _ _ _=>trivial) List.nodup_nil (fun i hi=>by cases hi) (fun _ _ _ _ _ _ _ _ _=>trivial) 0 (Nat.zero_le _) (fun _=>Nat.zero_le _)
 let n:=R.w.heap.size
 let R₃:RC:={R₂ with w:=wCh R.w (.chan (some n)) T (0,1),cx:=some n,m:=1,n0:=1,α:=fun _=>⟨n,0⟩,ok:=fun b _ _=>b<n+2∧b≠n}
 have hs:R₃.w.heap.size=n+2:=Zba
 have hle:({R₂ with cx:=some n}:RC).le R₃:=by
  refine⟨by show R₂.m≤1;rw[a2];exact Nat.zero_le _,fun id hi=>?_,fun id hi=>?_,fun id hi=>?_,fun b o m hk=>?_,fun b o m hk j hj=>?_,fun b hk es clk e=>?_,rfl⟩
  ·have hi:id<R₂.m:=hi
   rw[a2]at hi
   exact absurd hi (Nat.not_lt_zero _)
  ·have hi:id<R₂.m:=hi
   rw[a2]at hi
   exact absurd hi (Nat.not_lt_zero _)
  ·have hi:id<R₂.m:=hi
   rw[a2]at hi
   exact absurd hi (Nat.not_lt_zero _)
  ·have:=((a6.okd b o m).1 hk).1
   rw[a1]at this
   exact⟨by show b<R.w.heap.size+2;omega,by show b≠R.w.heap.size;omega⟩
  ·have:=((a6.okd b o m).1 hk).1
   rw[a1]at this
   show(wCh R.w _ T (0,1)).cell? _=R₂.w.cell? _
   rw[a1]
   exact Zi4 (Zjv this) _
  ·have:=((a6.okd b 0 1).1 hk).1
   rw[a1]at this
   show(wCh R.w _ T (0,1)).heap[b]? =_
   rw[Zjv this,←a1]
   exact e
 refine⟨R₃,rfl,rfl,rfl,⟨rfl,fun b o m=>?_,fun id blk hi=>?_,fun i j bi bj b hij hi hj=>?_,fun _ _ _ _ _ _ _ _=>trivial,fun _ _ _ _=>trivial,fun _ _ _ _ _ _ _ _=>trivial,Nat.le_refl 1⟩,fun k a v hv=>((a8 k a v hv).setCx (some n)).mono hle,.pure _ _ (.iptr _ _ _ _ (fun _=>.chan (some n)) (fun j c hj=>?_) (fun j c hj=>?_) ?_)⟩
 ·rw[hs]
  refine⟨fun hk=>⟨hk.1,trivial,fun id blk hi=>?_⟩,fun hk=>⟨hk.1,fun e=>?_⟩⟩
  ·cases id with
   |zero=>
    cases hi
    show¬n=b
    exact fun e=>hk.2 e.symm
   |succ id=>simp at hi
  ·exact hk.2.2 0 _ rfl (show n=b from e.symm)
 ·cases id with
  |zero=>
   cases hi
   exact⟨.chan 0 #[] false 0 0 false,Zmz,rfl,rfl,rfl,0,0,false,rfl⟩
  |succ id=>simp at hi
 ·cases i with
  |zero=>
   cases j with
   |zero=>exact absurd rfl hij
   |succ j=>simp at hj
  |succ i=>simp at hi
 ·cases j with
  |zero=>
   cases hj
   exact Zdg
  |succ j=>simp at hj
 ·cases j with
  |zero=>
   cases hj
   exact .cch n
  |succ j=>simp at hj
 ·exact⟨by show n+1<n+2;omega,by show n+1≠n;omega⟩
section
variable {P:Program} {b:FB} {ds:List Deferred} {k:List Item} {cs:List Frame} {t:Array Value}
variable {T I I':TypeId} {fid:FuncId} {o2 o3 o4 o5 o6 o7 o8 o9 o10:Array Oper}
theorem ZlT {i2 i3:Nat} {X:Code} (HO:ZaY T I I' fid o2 o3 o4 o5 o6 o7 o8 o9 o10) {dr:ChanDir} {B:TypeId} (hU:P.underlying T=some (.chan dr B)) (hT:∃i,P.info? T=some i∧i.size=1∧i.zero=some (.chan none)) (hB:∃i,P.info? B=some i) (hsz:t.size=51) (w:World):
  Steps P none (ZA (mkF b t ds (.code (.region i2 o2 false):: .code (.seq (.region i3 o3 false) X)::k)) cs w)
   (ZA (mkF b (ZY (ZY (ZY t (some 37) (.chan (some w.heap.size))) (some 11) (.pointer (some ⟨w.heap.size+1,0,none⟩))) (some 38) (.func (.func fid) #[] #[.pointer (some ⟨w.heap.size+1,0,none⟩),t.getD 4 undef,t.getD 9 undef,t.getD 10 undef])) ds (.inRegion o3 [1]:: .code X::k)) cs (wCh w (.chan (some w.heap.size)) T (0,0))):=by
 obtain⟨iT,hi,hs,hz⟩:=hT
 refine .head ZbO ?_
 rw[HO.s2]
 refine .head (Zie HO.a20 hU hB) ?_
 refine .head (ZeQ (nv:=.value (.pointer (some ⟨w.heap.size+1,0,none⟩))) (w':=wCh w (.chan none) T (0,0)) HO.a21 (fun _ h=>by cases h) (fun o ho=>?_) (fun o ho=>?_) (.inl rfl)) ?_
 ·unfold execOp
  simp only[ho]
  exact Zf (fun _=>Zfl) fun _ _=>Zn
 ·have hzr:(zeroValue T).run P {w with heap:=w.heap.push (.chan 0 #[] false 0 0 false)}= .ok (.chan none) {w with heap:=w.heap.push (.chan 0 #[] false 0 0 false)}:=by
   have:=Ze1 (w:={w with heap:=w.heap.push (.chan 0 #[] false 0 0 false)}) (es:= #[]) hi hz
   rw[Sem.runT_eq]at this
   exact congrArg Prod.fst this
  unfold execOp
  simp only[ho]
  simp only[Instr.alloc,Sem.run_bind,hzr,Result.andThen_ok,newVar,newRow,newObj,Value.cells]
  simp[Sem.run,wCh]
 refine .head (ZeQ (nv:=.skip) (v:=undef) (w':=wCh w (.chan (some w.heap.size)) T (0,0)) HO.a22 (fun _ h=>by cases h) (fun o ho=>?_) (fun o ho=>?_) (.inr ⟨rfl,rfl⟩)) ?_
 ·unfold execOp
  simp only[ho]
  exact Zf (fun _=>ZcR) fun _ _=>Zn
 ·have e1:Qv (ZY (ZY t (some 37) (.chan (some w.heap.size))) (some 11) (.pointer (some ⟨w.heap.size+1,0,none⟩))) (.tmp 11)= .pointer (some ⟨w.heap.size+1,0,none⟩):=Xf (by simp only[Z3];omega)
  have e2:Qv (ZY (ZY t (some 37) (.chan (some w.heap.size))) (some 11) (.pointer (some ⟨w.heap.size+1,0,none⟩))) (.tmp 37)= .chan (some w.heap.size):=(Yq (by decide)).trans (Xf (by omega))
  unfold execOp
  simp only[ho,e1,e2]
  have hsr:(sizeOf T).run P (wCh w (.chan none) T (0,0))= .ok 1 (wCh w (.chan none) T (0,0)):=by
   have:=Zdh (w:=wCh w (.chan none) T (0,0)) (es:= #[]) hi
   rw[Sem.runT_eq]at this
   have h:=congrArg Prod.fst this
   unfold sizeOf
   have h:(typeInfo T).run P (wCh w (.chan none) T (0,0))= .ok iT (wCh w (.chan none) T (0,0)):=h
   rw[Sem.run_bind,h,Result.andThen_ok,hs]
   rfl
  simp only[Instr.storeAt,Instr.sureAddr,Sem.run_bind,Sem.run_pure,Result.andThen_ok,storeVar,hsr]
  rw[if_neg (by simp[Value.cells])]
  have hc:(wCh w (.chan none) T (0,0)).cell? (Addr.add ⟨w.heap.size+1,0,none⟩ 0)=some (.chan none):=Zdg
  have hfz:(wCh w (.chan none) T (0,0)).frozen? (Addr.add ⟨w.heap.size+1,0,none⟩ 0)=false:=by
   unfold World.frozen?
   rw[show(Addr.add ⟨w.heap.size+1,0,none⟩ 0).block=w.heap.size+1 from rfl,ZcC]
   simp
  have hset:(wCh w (.chan none) T (0,0)).setCell (Addr.add ⟨w.heap.size+1,0,none⟩ 0) (.chan (some w.heap.size))=wCh w (.chan (some w.heap.size)) T (0,0):=by
   unfold World.setCell wCh
   simp only[World.mk.injEq,and_true]
   apply Array.ext_getElem?
   intro j
   show(((w.heap.push _).push _).modify (w.heap.size+1) _)[j]? =_
   rw[Array.getElem?_modify]
   by_cases hj:w.heap.size+1=j
   ·subst hj
    rw[if_pos rfl,Array.getElem?_push,if_pos (by simp),Array.getElem?_push,if_pos (by simp)]
    rfl
   ·rw[if_neg hj]
    exact ZkS (by simpa using Ne.symm hj)
  simp[Value.cells,storeCells,store,Sem.run_bind,Sem.run,hc,hfz,hset]
 refine .head YI (.head Zhd (.head ZbO ?_))
 rw[HO.s3]
 refine .head (ZeQ (nv:=.value _) (v:=.func (.func fid) #[] #[.pointer (some ⟨w.heap.size+1,0,none⟩),t.getD 4 undef,t.getD 9 undef,t.getD 10 undef]) (w':=wCh w (.chan (some w.heap.size)) T (0,0)) HO.a30 (fun _ h=>by cases h) (fun o ho=>?_) (fun o ho=>?_) (.inl rfl)) (.refl _)
 ·unfold execOp
  simp only[ho]
  trivial
 ·have e1:(Qv (ZY (ZY t (some 37) (.chan (some w.heap.size))) (some 11) (.pointer (some ⟨w.heap.size+1,0,none⟩)))) (.tmp 11)= .pointer (some ⟨w.heap.size+1,0,none⟩):=Xf (by simp only[Z3];omega)
  have e2:(Qv (ZY (ZY t (some 37) (.chan (some w.heap.size))) (some 11) (.pointer (some ⟨w.heap.size+1,0,none⟩)))) (.tmp 4)=t.getD 4 undef:=(Yq (by decide)).trans (Yq (by decide))
  have e3:(Qv (ZY (ZY t (some 37) (.chan (some w.heap.size))) (some 11) (.pointer (some ⟨w.heap.size+1,0,none⟩)))) (.tmp 9)=t.getD 9 undef:=(Yq (by decide)).trans (Yq (by decide))
  have e4:(Qv (ZY (ZY t (some 37) (.chan (some w.heap.size))) (some 11) (.pointer (some ⟨w.heap.size+1,0,none⟩)))) (.tmp 10)=t.getD 10 undef:=(Yq (by decide)).trans (Yq (by decide))
  unfold execOp
  have e0:∀u:Array Value,ZY u none undef=u:=fun _=>rfl
  simp only[ho,Instr.makeFunc,List.map_toArray,List.map_cons,List.map_nil,e0,e1,e2,e3,e4]
  rfl
theorem Zj5 {fn:Func} {body:Code} (hf:P.funcs[fid]? =some fn) (hb:fn.body=some body) (hn:(fn.name== "runtime.NumGoroutine")=false) (vs:Array Value) (main:Bool) (w:World):
  stepG P main (G (Zad P.funcs.size [{target:=.fn (.func fid) vs,args:= #[]}]) []) w= .go (G (Frame.enter P fid vs .deferred) [Zad P.funcs.size []]) w:=by
 have hr:(invoke (.fn (.func fid) vs) #[]).run P w= .ok (.enter fid vs) w:=by
  have hn:¬fn.name= "runtime.NumGoroutine" :=by simpa using hn
  simp[invoke,callFunc,Sem.run_bind,program,Sem.run,hf,hb,hn]
 have he:(invoke (.fn (.func fid) vs) #[]).events P w #[]= #[]:=by
  have hn:¬fn.name= "runtime.NumGoroutine" :=by simpa using hn
  unfold invoke callFunc Sem.events
  simp only
  show((Sem.bind program _).runT P w #[]).2=_
  rw[Sem.runT_bind',show program.runT P w #[]=(.ok P w, #[])from rfl]
  simp only[hf,hb]
  simp[hn]
 simp[G,stepG,unwind,Zad,callDeferred,hr,he,GStep.after,seen_none]
theorem ZqK {vs:Array Value} {X:Code} (HO:ZaY T I I' fid o2 o3 o4 o5 o6 o7 o8 o9 o10) (h38:Qv t (.tmp 38)= .func (.func fid) #[] vs):
  Zmk P (mkF b t ds (.inRegion o3 [1]:: .code X::k)) cs (mkF b t ds (.inRegion o3 []:: .code X::k)) (Zad P.funcs.size [{target:=.fn (.func fid) vs,args:= #[]}]):=by
 obtain⟨o,ho,hop,hd,hg⟩:=HO.a31.ok
 intro w
 refine⟨#[],?_,fun e he=>by simp at he⟩
 have hf:(mkF b t ds (.inRegion o3 [1]:: .code X::k)).finish undef=mkF b t ds (.inRegion o3 []:: .code X::k):=by
  rw[Xa,ho]
  show mkF b (ZY t o.dst undef) ds _=_
  rw[hd]
  rfl
 have e:execOp (Qv t) o=pure (.spawn {target:=.fn (.func fid) vs,args:= #[]}):=by
  unfold execOp
  simp only[hop,resolve,h38,Deferred.ofValue]
  simp
 rw[Zco ho (by simp[Region.wanted,hg]) (fun c=>by rw[hop];intro h;cases h),e,←hf]
 unfold stepG.apply
 have hk:=b.not_early
 simp[GStep.after,G,mkF,seen_none,hk,Zad]
end
section
variable {P:Program} {T I I':TypeId} {fid:FuncId} {o2 o3 o4 o5 o6 o7 o8 o9 o10:Array Oper}
theorem ZoA {b:FB} {ds:List Deferred} {k:List Item} {cs:List Frame} {t:Array Value} {w:World} {i6 i7 i8 i9 i10 b0 b1:Nat} (HO:ZaY T I I' fid o2 o3 o4 o5 o6 o7 o8 o9 o10) (hsz:t.size=51):
  Steps P none (ZA (got (mkF b t ds (atR i6 i7 i8 i9 i10 b0 b1 o6 o7 o8 o9 o10 k [0,1]),cs) false false).1 (got (mkF b t ds (atR i6 i7 i8 i9 i10 b0 b1 o6 o7 o8 o9 o10 k [0,1]),cs) false false).2 w)
   (ZA (mkF b (ZY (ZY t (some 40) (.tuple #[.bool false,.bool false])) (some 41) (.bool false)) ds k) cs w):=by
 obtain⟨o,ho,hop,hd,hg⟩:=HO.a60.ok
 have e:got (mkF b t ds (atR i6 i7 i8 i9 i10 b0 b1 o6 o7 o8 o9 o10 k [0,1]),cs) false false=(mkF b (ZY t (some 40) (.tuple #[.bool false,.bool false])) ds (atR i6 i7 i8 i9 i10 b0 b1 o6 o7 o8 o9 o10 k [1]),cs):=by
  unfold got atR
  rw[Xa,ho]
  show(mkF b (ZY _ o.dst _) ds _,cs)=_
  rw[hd]
 rw[e]
 have e40:Qv (ZY t (some 40) (.tuple #[.bool false,.bool false])) (.tmp 40)= .tuple #[.bool false,.bool false]:=Xf (by omega)
 unfold atR
 refine .head (ZeQ (nv:=.value _) (v:=.bool false) (w':=w) HO.a61 (fun _ h=>by cases h) (fun o ho=>?_) (fun o ho=>?_) (.inl rfl)) ?_
 ·rw[Jl e40 rfl o ho]
  trivial
 ·rw[Jl (v:=.bool false) e40 rfl o ho]
  rfl
 refine .head YI (.head Zhd (.head (ZkJ (v:=false) ?_) (.head (ZkI ?_) (.refl _))))
 ·rw[ZbT]
  exact Xf (by simp only[Z3];omega)
 ·simp[exitTo]
theorem ZtP {R:RC} {t:Array Value} {y n:Int} (hsz:t.size=51) (h12:t.getD 12 undef= .int .i64 y) (h13:t.getD 13 undef= .int .i64 n):SL R (mkS 51 [(12,.int .i64 fun _=>y),(13,.int .i64 fun _=>n)]) t:=by
 refine⟨by rw[hsz];rfl,fun i a hi=>?_⟩
 by_cases e13:i=13
 ·subst e13
  have hi:some (AV.int .i64 fun _=>n)=some a:=hi
  cases hi
  rw[h13]
  exact .pure _ _ (.int _ _)
 by_cases e12:i=12
 ·subst e12
  have hi:some (AV.int .i64 fun _=>y)=some a:=hi
  cases hi
  rw[h12]
  exact .pure _ _ (.int _ _)
 have hi:(((List.replicate 51 AV.undef).set 12 (.int .i64 fun _=>y)).set 13 (.int .i64 fun _=>n))[i]? =some a:=hi
 rw[List.getElem?_set_ne (Ne.symm e13),List.getElem?_set_ne (Ne.symm e12),List.getElem?_replicate]at hi
 split at hi
 ·cases hi
  exact .undef _
 ·cases hi
theorem ZqJ {p:Unit→Program} {nb:Nat} {K:Ex→List AV→List Zh→Cd→Prop} {s:List AV} {h:List Zh} {i2 i3 i4 i5 i6 i7 i8 i9 i10 b0 b1:Nat} {x11:Code} (HO:ZaY T I I' fid o2 o3 o4 o5 o6 o7 o8 o9 o10) {dr:ChanDir} {B:TypeId}
  (hU:(p ()).underlying T=some (.chan dr B)) (hT:∃i,(p ()).info? T=some i∧i.size=1∧i.zero=some (.chan none)) (hB:∃i,(p ()).info? B=some i∧i.zero=some (.bool false))
  {fn:Func} {body:Code} (hf:(p ()).funcs[fid]? =some fn) (hb:fn.body=some body) (hn:(fn.name== "runtime.NumGoroutine")=false) (hr:fn.results= #[]) (hlen:s.length=51) (hmain:h[0]? =some .main)
  {x4 x9 x10:AV} (h4:Qs true [] h 5 (s.getD 4 .undef)=x4) (h9:Qs true [] h 5 (s.getD 9 .undef)=x9) (h10:Qs true [] h 5 (s.getD 10 .undef)=x10) {L:List Bool} (child:KC (p ()) fid (fun ch=>[.iptr [.cch ch] 0,x4,x9,x10]) L)
  (rest:HP false nb p [.code x11] K (mkS 51 [(12,.int .i64 fun _=>cnt true L 0),(13,.int .i64 fun _=>cnt false L 0)]) h):
  HP false nb p [.code (.region i2 o2 false),.code (.seq (.region i3 o3 false) (.seq (.region i4 o4 false) (.seq (.seq (.region i5 o5 false) (.block b0 (.loop (lpB i6 i7 i8 i9 i10 b0 b1 o6 o7 o8 o9 o10)))) x11)))] K s h:=by
 refine⟨fun hK R₀ h₀ hnb R t hi hs b ds k cs hd=>?_⟩
 have hcx:R.cx=none:=hi.hr.blk 0 .main hmain
 have hsz:t.size=51:=hs.1.trans hlen
 have S1:=ZlT (P:=p ()) (b:=b.1) (ds:=ds) (k:=k) (cs:=cs) (t:=t) (i2:=i2) (i3:=i3) (X:=.seq (.region i4 o4 false) (.seq (.seq (.region i5 o5 false) (.block b0 (.loop (lpB i6 i7 i8 i9 i10 b0 b1 o6 o7 o8 o9 o10)))) x11)) HO hU hT (hB.imp fun _ h=>h.1) hsz R.w
 generalize hvs:(#[.pointer (some ⟨R.w.heap.size+1,0,none⟩),t.getD 4 undef,t.getD 9 undef,t.getD 10 undef]:Array Value)=vs at S1
 generalize ht3:ZY (ZY (ZY t (some 37) (.chan (some R.w.heap.size))) (some 11) (.pointer (some ⟨R.w.heap.size+1,0,none⟩))) (some 38) (.func (.func fid) #[] vs)=t3 at S1
 have hsz3:t3.size=51:=by rw[←ht3];simp only[Z3];exact hsz
 have h38:Qv t3 (.tmp 38)= .func (.func fid) #[] vs:=by rw[←ht3];exact Xf (by simp only[Z3];omega)
 have h11:t3.getD 11 undef= .pointer (some ⟨R.w.heap.size+1,0,none⟩):=by rw[←ht3];exact(QE (by decide)).trans (Yi (by simp only[Z3];omega))
 have h37:t3.getD 37 undef= .chan (some R.w.heap.size):=by rw[←ht3];exact(QE (by decide)).trans ((QE (by decide)).trans (Yi (by omega)))
 have hgo:=ZqK (P:=p ()) (b:=b.1) (ds:=ds) (k:=k) (cs:=cs) (X:=.seq (.region i4 o4 false) (.seq (.seq (.region i5 o5 false) (.block b0 (.loop (lpB i6 i7 i8 i9 i10 b0 b1 o6 o7 o8 o9 o10)))) x11)) HO h38
 obtain⟨hkf,hE⟩:=ZlU (P:=p ()) (ch:=R.w.heap.size) (cell:=R.w.heap.size+1) (b:=b.1) (ds:=ds) (k:=k) (cs:=cs) HO hU hB (t:=t3) (by omega) h11 h37 rfl hgo
 obtain⟨R₃,r1,r2,r3,r4,r5,r6⟩:=Zo3 hi.hr T
 have hrow:XU R₃ [.iptr [.cch R.w.heap.size] 0,x4,x9,x10] vs:=by
  subst hvs
  refine⟨rfl,fun j c hj=>?_⟩
  match j,hj with
  |0,hj=>cases hj;exact r6
  |1,hj=>
   cases hj
   rw[←h4]
   exact r5 5 _ _ (hs.getD 4)
  |2,hj=>
   cases hj
   rw[←h9]
   exact r5 5 _ _ (hs.getD 9)
  |3,hj=>
   cases hj
   rw[←h10]
   exact r5 5 _ _ (hs.getD 10)
  |j+4,hj=>simp at hj
 obtain⟨tc,todo,wc,sc,rc,tmc,ts,ty,c,g1,g2,g3,g4,g5,g6,g7⟩:=child.run R.w.heap.size R₃ vs r4 r2 r3 hrow [Zad (p ()).funcs.size []]
 rw[r1]at g1 g3 g4 g5 g6 g7
 have hFz:Fz (R.w.heap.size+1) (wCh R.w (.chan (some R.w.heap.size)) T (0,1)) (wCh R.w (.chan (some R.w.heap.size)) T (0,0)):=by
  refine⟨rfl,rfl,rfl,rfl,by rw[Zba,Zba],fun j hj=>?_,_,T,(0,0),ZcC,ZcC⟩
  exact ZkS (by simpa using hj)
 obtain⟨w',hw',S2⟩:=ZoF (P:=p ()) hkf hgo hE Zmz Zdg (by omega) (fun main w=>Zj5 hf hb hn vs main w) hFz g1 g2 (Zo9 hf hr)
 have S3:=ZoA (P:=p ()) (b:=b.1) (ds:=ds) (k:=.code x11::k) (cs:=cs) (t:=L.foldl stp (st0 R.w.heap.size t3)) (w:=w'.setChan R.w.heap.size 0 #[] true sc sc tmc) (i6:=i6) (i7:=i7) (i8:=i8) (i9:=i9) (i10:=i10) (b0:=b0) (b1:=b1) HO ((ZhI (by omega) h11 L).size.trans hsz3)
 have hst:=ZhI (ch:=R.w.heap.size) (cell:=R.w.heap.size+1) (t:=t3) (by omega) h11 L
 generalize htz:ZY (ZY (L.foldl stp (st0 R.w.heap.size t3)) (some 40) (.tuple #[.bool false,.bool false])) (some 41) (.bool false)=tz at S3
 have hszz:tz.size=51:=by rw[←htz];simp only[Z3];exact hst.size.trans hsz3
 have hz12:tz.getD 12 undef= .int .i64 (cnt true L 0):=by rw[←htz];exact(QE (by decide)).trans ((QE (by decide)).trans hst.c12)
 have hz13:tz.getD 13 undef= .int .i64 (cnt false L 0):=by rw[←htz];exact(QE (by decide)).trans ((QE (by decide)).trans hst.c13)
 generalize hwz:w'.setChan R.w.heap.size 0 #[] true sc sc tmc=wz at S2 S3
 have hheap:∀b,b<R.w.heap.size→wz.heap[b]? =R.w.heap[b]? :=fun b hb=>by
  rw[←hwz]
  show(w'.heap.setIfInBounds R.w.heap.size _)[b]? =_
  rw[Array.getElem?_setIfInBounds_ne (by omega),hw'.ne b (by omega)]
  exact(g3 b (by rw[Zba];omega) (by omega)).trans (Zjv hb)
 have hsize:R.w.heap.size≤wz.heap.size:=by
  rw[←hwz]
  show _≤(w'.heap.setIfInBounds R.w.heap.size _).size
  rw[Array.size_setIfInBounds,hw'.size]
  rw[Zba]at g4
  exact Nat.le_trans (by omega) g4
 have hos:wz.os=R.w.os:=by rw[←hwz];exact hw'.os.trans g5
 have htape:wz.tape=R.w.tape:=by rw[←hwz];exact hw'.tape.trans g6
 have hout:wz.output=R.w.output:=by rw[←hwz];exact hw'.output.trans g7
 let R':RC:={R with w:=wz,ok:=fun b o n=>b<wz.heap.size∧Gof R₀ h₀ b o n∧Zf1 R h b o n}
 have hok:∀b o n,R.ok b o n→R'.ok b o n:=fun b o n k=>by
  obtain⟨h1,h2,h3⟩:=(hi.hr.okd _ _ _).1 k
  exact⟨by omega,h2,h3⟩
 have hkeep:∀b o n,R.ok b o n→∀j,j<n→R'.w.cell? ⟨b,o+j,none⟩=R.w.cell? ⟨b,o+j,none⟩:=fun b o n k j hj=>Zi4 (hheap b ((hi.hr.okd _ _ _).1 k).1) _
 have hle:R.le R':=⟨Nat.le_refl _,fun _ _=>rfl,fun _ _=>⟨Int.le_refl _,fun _=>rfl⟩,fun _ _=>.refl _,hok,hkeep,fun b k es clk e=>(hheap b ((hi.hr.okd _ _ _).1 k).1).trans e,rfl⟩
 have hH:HR (Gof R₀ h₀) R' h:=⟨hi.hr.len,fun _ _ _=>Iff.rfl,fun id blk hid=>(hi.hr.blk id blk hid).mono hle rfl rfl rfl rfl fun b hp=>hheap b (hi.hr.phys_lt hid hp),hi.hr.dis,hi.hr.cl,fun b o n hb=>hi.hr.fresh b o n (Nat.le_trans hsize hb),hi.hr.tokG,hi.hr.n0m⟩
 have hx:Xe R h R' h:=⟨rfl,hos,htape,hout,hsize,Nat.le_refl _,fun _ _=>rfl,hok,hkeep,fun b hb _=>hheap b hb,fun id blk b hid hp=>.inr ⟨id,blk,hid,hp,.inl rfl⟩⟩
 have hi':JG R₀ h₀ R' h:=hi.step hH hx hle
 obtain⟨e,s',h',R'',t',ds',a1,a2,a5,a6,a7,a8⟩:=rest.run hK R₀ h₀ hnb R' tz hi' (ZtP hszz hz12 hz13) b ds k cs (hd.ext hi.hr hx)
 refine⟨e,s',h',R'',t',ds',a1,a2,a5,a6,a7,?_⟩
 have hcx':R'.cx=none:=hcx
 rw[hcx']at a8
 rw[hcx]
 exact Arr.of_steps (Steps.trans S1 (Steps.trans S2 S3)) a8
end
end Go.Proofs.YtjgpiclllehgmaaGreat.Vm
namespace Go.Proofs.YtjgpiclllehgmaaGreat.Vm
open Go Go.Conc Go.Proofs Go.Proofs.YtjgpiclllehgmaaGreat.Conc1
def Zo4 (ch:Nat) (L:List Bool) (e:Ex) (s:List AV) (h:List Zh) (c:Cd):Prop:=match e with
 |.exit _=>False
 |_=>chk c (∃h2,h= .gob (.chq ch fun _=>L)::h2)
theorem ZgR {ch:Nat} {L:List Bool} {e:Ex} {s:List AV} {h:List Zh} {c:Cd} (H:Zo4 ch L e s h c):ZO c∧(∀id,e≠ .exit id)∧∃h2,h= .gob (.chq ch fun _=>L)::h2:=by
 cases e with
 |exit id=>exact H.elim
 |normal=>exact⟨(Z0 H).1,(fun _ h=>by cases h),(Z0 H).2⟩
 |ret=>exact⟨(Z0 H).1,(fun _ h=>by cases h),(Z0 H).2⟩
theorem Zhj {P:Program} {T:TypeId} {dr:ChanDir} {B:TypeId} {w:World} {a:Addr} {v:Value} (hU:P.underlying T=some (.chan dr B)) (hw:w.cell? a=some v):(Instr.loadAt T (.pointer (some a))).run P w= .ok v w:=by
 have h1:(isAgg T).run P w= .ok false w:=by
  unfold isAgg
  have:=Ze2 (w:=w) (es:= #[]) hU
  rw[Sem.runT_eq]at this
  have h:(underlying T).run P w= .ok (.chan dr B) w:=congrArg Prod.fst this
  rw[Sem.run_bind,h,Result.andThen_ok]
  rfl
 simp only[Instr.loadAt,Instr.sureAddr,Sem.run_bind,Sem.run_pure,Result.andThen_ok,loadVar,h1,Bool.false_eq_true,if_false]
 simp[load,Sem.run,hw]
theorem Zo2 {p:Unit→Program} {fid:FuncId} {fn:Func} {i0:Nat} {o0:Array Oper} {x1:Code} {T:TypeId} {dr:ChanDir} {B:TypeId} {ts:Array TypeId} {L:List Bool} {ys:List AV} (hf:(p ()).funcs[fid]? =some fn) (hb:fn.body=some (.seq (.region i0 o0 false) x1)) (hs0:List.range o0.size=[0,1])
  (a0:Je o0 0 (some 6) (.load T (.tmp 0))) (a1:Je o0 1 none (.defer {callee:=.builtin .close,args:= #[.tmp 6],argTypes:=ts})) (hU:(p ()).underlying T=some (.chan dr B)) (hnt:6<fn.ntmps)
  (H:∀ch,HP false 1 p [.code x1] (Zo4 ch L) ((entry fn.ntmps (.iptr [.cch ch] 0::ys)).set 6 (.cch ch)) [.gob (.chq ch fun _=>[])]):KC (p ()) fid (fun ch=>.iptr [.cch ch] 0::ys) L:=by
 refine⟨fun ch R vs HH hcx hn0 ha cs=>?_⟩
 obtain⟨ha1,ha2⟩:=ha
 have hfr:Frame.enter (p ()) fid vs .deferred=mkF ⟨fid,true,none,[]⟩ (vs++Array.replicate (fn.ntmps-vs.size) undef) [] [.code (.seq (.region i0 o0 false) x1)]:=by
  simp[Frame.enter,mkF,FB.kind,hf,hb]
 have hsl:SL R (entry fn.ntmps (.iptr [.cch ch] 0::ys)) (vs++Array.replicate (fn.ntmps-vs.size) undef):=by
  refine⟨by simp[entry,←ha1];omega,fun i a hi=>?_⟩
  rw[entry,List.getElem?_append]at hi
  split at hi
  ·rename_i hlt
   have:=ha2 i a hi
   rw[Array.getD_eq_getD_getElem?]at this⊢
   rw[Array.getElem?_append_left (by omega)]
   exact this
  ·rw[List.getElem?_replicate]at hi
   split at hi
   ·cases hi
    exact .undef _
   ·cases hi
 generalize ht:vs++Array.replicate (fn.ntmps-vs.size) undef=t at hfr hsl
 have hv0:∃a:Addr,t.getD 0 undef= .pointer (some a)∧R.w.cell? a=some (.chan (some ch)):=by
  have h0:=hsl.getD 0
  have h0:VR R (.iptr [.cch ch] 0) (t.getD 0 undef):=h0
  generalize t.getD 0 undef=v at h0
  cases h0 with
  |pure _ _ hp=>
   cases hp with
   |iptr _ _ b o us h1 h2 h3=>
    have e:=h1 0 _ rfl
    have e2:=h2 0 _ rfl
    refine⟨_,rfl,?_⟩
    cases hu:us 0 with
    |chan c=>
     rw[hu]at e2 e
     cases e2
     exact e
    |_=>rw[hu]at e2;cases e2
 obtain⟨a,hv0,hcell⟩:=hv0
 have hsz:6<t.size:=by
  have:=hsl.1
  rw[this]
  simp only[entry,List.length_append,List.length_replicate]
  omega
 have hno:(⟨fid,true,none,[]⟩:FB).roundOf=none:=rfl
 obtain⟨o,ho,hop,hdst,hg⟩:=a1.ok
 let t1:=ZY t (some 6) (.chan (some ch))
 let D:=ZhU ts o.type #[false] ch
 have S0:StepsC (p ()) (some ch) (ZA (mkF ⟨fid,true,none,[]⟩ t [] [.code (.seq (.region i0 o0 false) x1)]) cs R.w) (ZA (mkF ⟨fid,true,none,[]⟩ t1 [] [.inRegion o0 [1],.code x1]) cs R.w):=by
  refine .head Zhd (.head ZbO ?_)
  rw[hs0]
  refine .one (ZeQ (nv:=.value _) (v:=.chan (some ch)) (w':=R.w) a0 (fun _ h=>by cases h) (fun o ho=>?_) (fun o ho=>?_) (.inl rfl))
  ·unfold execOp
   simp only[ho]
   exact Zf (fun _=>Zea) fun _ _=>Zn
  ·have e:Qv t (.tmp 0)= .pointer (some a):=hv0
   unfold execOp
   simp only[ho,e,Sem.run_bind,Zhj hU hcell,Result.andThen_ok,Sem.run_pure]
 have S1:One (p ()) (some ch) (ZA (mkF ⟨fid,true,none,[]⟩ t1 [] [.inRegion o0 [1],.code x1]) cs R.w) (ZA (mkF ⟨fid,true,none,[]⟩ t1 [D] [.inRegion o0 [],.code x1]) cs R.w):=by
  refine QU fun main w=>?_
  have e6:Qv t1 (.tmp 6)= .chan (some ch):=Xf hsz
  have e:execOp (Qv t1) o=pure (.defer D):=by
   unfold execOp
   simp only[hop,resolve,List.map_toArray,List.map_cons,List.map_nil,e6]
   rfl
  have hop2:(mkF ⟨fid,true,none,[]⟩ t1 [] [.inRegion o0 [1],.code x1]).oper?=some o:=by simp[Frame.oper?,mkF,ho]
  have he:(mkF ⟨fid,true,none,[]⟩ t1 [] [.inRegion o0 [1],.code x1]).eval=Qv t1:=ZbT _
  have h2:stepG (p ()) main (G (mkF ⟨fid,true,none,[]⟩ t1 [] [.inRegion o0 [1],.code x1]) cs) w=stepG.oper (p ()) true (mkF ⟨fid,true,none,[]⟩ t1 [] [.inRegion o0 [1],.code x1]) cs none w:=by
   simp[stepG,stepG.exec,mkF,G,ho,Region.wanted,hg]
  rw[h2]
  unfold stepG.oper
  simp only[hop2,he,e]
  unfold stepG.apply
  have hk:(mkF ⟨fid,true,none,[]⟩ t1 [D] [.inRegion o0 [1],.code x1]).finish undef=mkF ⟨fid,true,none,[]⟩ t1 [D] [.inRegion o0 [],.code x1]:=by
   rw[Xa,ho]
   show mkF _ (ZY t1 o.dst undef) _ _=_
   rw[hdst]
   rfl
  rw[←hk]
  simp[GStep.after,G,mkF,seen_none,FB.kind]
 have S2:One (p ()) (some ch) (ZA (mkF ⟨fid,true,none,[]⟩ t1 [D] [.inRegion o0 [],.code x1]) cs R.w) (ZA (mkF ⟨fid,true,none,[D]⟩ t1 [D] ([.code x1]++[])) cs R.w):=YI
 have hn0':([.gob (.chq ch fun _=>[])]:List Zh).length≤R.n0:=by rw[hn0];exact Nat.le_refl 1
 have hsl1:SL R ((entry fn.ntmps (.iptr [.cch ch] 0::ys)).set 6 (.cch ch)) t1:=hsl.set (.pure _ _ (.cch ch)) 6
 obtain⟨e,s',h',R',t',ds',⟨c,hk⟩,hi,hs,hd,_,hA⟩:=(H ch).run (fun e s h c hk=>(ZgR hk).1) R [.gob (.chq ch fun _=>[])] (by rw[hn0];exact Nat.le_refl 1) R t1 (JG.refl HH hn0') hsl1 ⟨⟨fid,true,none,[D]⟩,fun _=>rfl⟩ [D] [] cs ⟨[],rfl,List.nodup_nil,fun r hr=>by cases hr⟩
 obtain⟨hc,hne,h2,rfl⟩:=ZgR hk
 rw[hcx]at hA
 have hret:∃todo,Steps (p ()) (some ch) (ZA (mkF ⟨fid,true,none,[D]⟩ t1 [D] ([.code x1]++[])) cs R.w) (ZA {mkF ⟨fid,true,none,[D]⟩ t' ds' todo with mode:=.returning} cs R'.w):=by
  cases e with
  |exit id=>exact absurd rfl (hne id)
  |normal=>exact⟨[],Steps.trans hA (.one (ZnZ rfl))⟩
  |ret=>
   obtain⟨todo,hA⟩:=hA
   exact⟨.code .ret::todo,Steps.trans hA (.one (ZnW rfl))⟩
 obtain⟨todo,hst⟩:=hret
 obtain⟨rs,rfl,hnd,hrs⟩:=hd
 obtain⟨R2,hi2,hle2,hst2⟩:=Zcn (P:=p ()) (b:=⟨fid,true,none,[D]⟩) (base:=[D]) (t:=t') (todo:=todo) (cs:=cs) rs R' hnd hi hrs
 have hcx2:R'.cx=some ch:=hi.le.cx.trans hcx
 rw[hcx2]at hst2
 obtain⟨ob,hob,_,hq,_,sN,rN,tmN,rfl⟩:=hi2.hr.blk 0 _ rfl
 have hα:(R2.α 0).b=(R.α 0).b:=by
  have:R2.α 0=R.α 0:=hi2.le.α 0 (by rw[←HH.len];exact Nat.zero_lt_one)
  rw[this]
 refine⟨t',todo,R2.w,sN,rN,tmN,ts,o.type, #[false],?_,?_,fun b hb hne=>?_,hi2.ext.size,hi2.ext.os,hi2.ext.tape,hi2.ext.output⟩
 ·rw[hfr]
  exact S0.trans (.head S1 (.head S2 (hst.trans hst2)))
 ·rw[←hq]
  exact hob
 ·refine hi2.ext.frame b hb fun id blk hid hp=>?_
  cases id with
  |zero=>
   cases hid
   have hp:(R.α 0).b=b:=hp
   rw[←hα,hq]at hp
   exact hne hp.symm
  |succ id=>simp at hid
end Go.Proofs.YtjgpiclllehgmaaGreat.Vm
namespace Go.Proofs.YtjgpiclllehgmaaGreat.Vm
attribute [local irreducible] Dn
open Go Go.Proofs Sp
set_option maxRecDepth 100000
set_option maxHeartbeats 4000000
def Zch (t:Zc) (f r st:Int):Nat→List Bool
 |0=>[]
 |i+1=>Zch t f r st i++[Yn t f r st i]
theorem ZuH (t:Zc) (f r st:Int) (hw:ZF t) (hc:J4 t f r st):KC Tryz.prog 151 (fun ch=>.iptr [.cch ch] 0::[XW t,.iptr [.int .i64 fun _=>f,.int .i64 fun _=>ZE (Sp.Zj (callsOf t) f) st] 0,.iptr [.int .i64 fun _=>r,.int .i64 fun _=>ZD (Sp.Zj (callsOf t) r) st] 0]) (Zch t f r st (Z1 t)):=by
 obtain⟨nt,hnt⟩:=Zu
 have k382:=Zq3 t
 have k435:=fun B0 B1 B2 B3 B4 B5 stop=>Zq1 t hw B0 B1 B2 B3 B4 B5 stop
 have hl1:=fun x=> @Zaj t x _ _ hc.1
 have hl2:=fun x=> @Zaj t x _ _ hc.2
 have hkb:∀i,Yn t f r st i=decide ((ZT t (Zk t i) f (ZE (Sp.Zj (callsOf t) f) st)).comes≤(ZT t (Zk t i) r (ZD (Sp.Zj (callsOf t) r) st)).goes):=fun _=>rfl
 have hL0:Zch t f r st 0=[]:=rfl
 have hLS:∀i,Zch t f r st (i+1)=Zch t f r st i++[Yn t f r st i]:=fun _=>rfl
 generalize Zch t f r st=KL at*
 generalize Yn t f r st=KB at*
 generalize ZE (Sp.Zj (callsOf t) f) st=fo at*
 generalize ZD (Sp.Zj (callsOf t) r) st=to at*
 generalize ZT t=HH at*
 generalize Zk t=TA at*
 generalize Qf t=HL at*
 refine Zo2 (p:=fun _=>Tryz.prog) (dr:=.both) (B:=4) Tryz.func151 (show Tryz.f151.body=_ from rfl) rfl ⟨_,rfl,rfl,rfl,rfl⟩ ⟨_,rfl,rfl,rfl,rfl⟩ (by kernel_rfl) (by decide) fun ch=>?_
 unfold XW ZU at*
 simp only[Za hnt,Zb,ZI]at*
 refine Zef false false [] [] false ?_
 refine wS ?_
 refine ZW (k382) (by first|rfl|(simp only[Ze,Zd,Zg,Zb,Za hnt];rfl)) fun r h₂ hp=>?_
 (try simp only[Ze,Zd,Zg,Zb,Za hnt]at hp)
 obtain⟨rfl,rfl⟩:=hp
 refine wS ?_
 refine Ze6 [0,2,3,8] [.tok 1 fun _=>0,.tok 1 fun _=>0,.tok 1 fun _=>0,.tok 1 fun _=>0] [(0,.gob (.chq ch fun _=>KL 0))] (fid:=135) (first:=[]) ?_ rfl ?_ ?_
 ·rw[hL0]
  (refine To.of [(1,false),(1,false),(1,false),(1,false)] ?_;cbv;(try simp only[nc]);(repeat' (first|exact trivial|exact ZH.refl _|exact ZN.refl _|refine⟨?_,?_⟩|refine ZN.cells ?_|refine ZH.agg ?_|refine ZH.tup ?_));(all_goals (first|exact Yv|skip)))
 ·exact XI
 refine SC.mono (k435 (fun i=>.gob (.chq ch fun _=>KL i)) (fun _=>_) (fun _=>_) (fun _=>_) (fun _=>_) (fun _=>_) (fun _=>false) ?_ ?_ ?_ ?_ ?_ ?_ ?_) ?_
 iterate 6 exact fun i=>Qt.of rfl
 ·intro i hi hno
  have e1:(((HL (TA i)).lookup [f,fo]).getD []).headD 0=(HH (TA i) f fo).comes:=by rw[hl1];rfl
  have e2:(((HL (TA i)).lookup [r,to]).getD []).tail.tail.headD 0=(HH (TA i) r to).goes:=by rw[hl2];rfl
  refine YC.less (Zcm false false [] rfl rfl ?_)
  refine wS ?_
  simp only[e1,e2,←hkb,←hLS]
  refine⟨.bool fun _=>true,_,?_,rfl,rfl⟩
  exact ZK
 ·intro v h hh
  obtain⟨m,hm,rfl⟩:=hh
  have hmN:m=Z1 t:=by
   rcases hm with h|⟨_,_,_,h,_⟩
   ·exact h.1
   ·cases h
  subst hmN
  refine wS ?_
  exact⟨_,rfl⟩
end Go.Proofs.YtjgpiclllehgmaaGreat.Vm
namespace Go.Proofs.YtjgpiclllehgmaaGreat.Vm
attribute [local irreducible] Dn
open Go Go.Proofs Sp
set_option maxRecDepth 100000
set_option maxHeartbeats 4000000
theorem ZkZ {o:Option TypeInfo} {n:Nat} {z:Option Value} (h:o.map (fun i=>(i.size,i.zero))=some (n,z)):∃i,o=some i∧i.size=n∧i.zero=z:=by
 cases o with
 |none=>cases h
 |some i=>
  have h:some (i.size,i.zero)=some (n,z):=h
  simp only[Option.some.injEq,Prod.mk.injEq]at h
  exact⟨i,rfl,h.1,h.2⟩
theorem ZfJ (w v:Bool):∀(l:List Bool) (n:Int),cnt w (l++[v]) n=if v=w then IntKind.i64.wrap (cnt w l n+1)else cnt w l n
 |[],_=>rfl
 |x::l,n=>ZfJ w v l _
theorem ZeL {x:Int} (h:0≤x∧x<1000000):IntKind.i64.wrap x=x:=Za8 x ⟨by omega,by omega⟩
theorem ZkT {ds:List Qn} (h:∀d∈ds,d.by_.length≤3):∀m,m≤ds.length→Yz ds m≤3^ m
 |0,_=>Nat.le_refl _
 |m+1,hm=>by
  unfold Yz
  rw[Nat.pow_succ]
  refine Nat.mul_le_mul (ZkT h m (by omega)) ?_
  unfold lenAt
  rw[List.getD_eq_getElem?_getD,List.getElem?_eq_getElem hm]
  exact h _ (List.getElem_mem hm)
theorem ZqD {t:Zc} (hw:ZF t):Z1 t≤729:=by
 have h:=ZkT (fun d hd=>(hw.d d hd).2.1) t.delays.length (Nat.le_refl _)
 have h2:3^ t.delays.length≤3^ 6:=Nat.pow_le_pow_right (by omega) hw.dlen
 exact Nat.le_trans h (Nat.le_trans h2 (by decide))
theorem ZfH (p:Nat→Bool):∀n,0≤QZ p n∧QZ p n≤n
 |0=>⟨Int.le_refl _,Int.le_refl _⟩
 |n+1=>by
  have:=ZfH p n
  unfold QZ
  split<;>omega
theorem Zo0 (t:Zc) (f r st:Int):∀n,n≤729→cnt true (Zch t f r st n) 0=QZ (Yn t f r st) n∧cnt false (Zch t f r st n) 0=QZ (fun i=> !Yn t f r st i) n
 |0,_=>⟨rfl,rfl⟩
 |n+1,h=>by
  have ih:=Zo0 t f r st n (by omega)
  have b1:=ZfH (Yn t f r st) n
  have b2:=ZfH (fun i=> !Yn t f r st i) n
  unfold Zch
  rw[ZfJ,ZfJ,ih.1,ih.2,ZeL (by omega),ZeL (by omega)]
  have e1:∀p,QZ p (n+1)=if p n then QZ p n+1 else QZ p n:=fun _=>rfl
  rw[e1,e1]
  cases Yn t f r st n<;>exact⟨rfl,rfl⟩
theorem Zud (t : Zc) (f r st : Int) (hw : ZF t) (hc : J4 t f r st) : SC (fun _ => Tryz.prog) 97 [.iptr (ZU t) 0, .int .i64 fun _ => f, .int .i64 fun _ => r, .int .i64 fun _ => st] [.main] fun v h => v = .int .i64 (fun _ => Jw t f r st) ∧ h = [.main] := by
  obtain ⟨nt, hnt⟩ := Zu
  have h1 := hc.1
  have h2 := hc.2
  have hro1 := (Jo hw.calls h1).2.2
  have hro2 := (Jo hw.calls h2).2.2
  unfold StopIn at h1 h2
  rw [Xh hnt] at h1 h2 hro1 hro2
  have k395 := Zq2 (nt (List Sp.Call) [] (callsOf t) f) st (by omega)
  have k396 := ZsZ (nt (List Sp.Call) [] (callsOf t) r) st (by omega)
  have hcl := hw.calls.len
  have kc := ZuH t f r st hw hc
  obtain ⟨hy, hn⟩ := Zo0 t f r st (Z1 t) (ZqD hw)
  have hV : Jw t f r st = ZcD (QZ (Yn t f r st) (Z1 t)) (QZ (fun i => !Yn t f r st i) (Z1 t)) := rfl
  have k416 := Zu3 (QZ (Yn t f r st) (Z1 t)) (QZ (fun i => !Yn t f r st i) (Z1 t))
  rw [← hV] at k416
  rw [Xh hnt, Xh hnt] at kc
  generalize Jw t f r st = V at *
  generalize QZ (Yn t f r st) (Z1 t) = CY at *
  generalize QZ (fun i => !Yn t f r st i) (Z1 t) = CN at *
  generalize Zch t f r st (Z1 t) = KL at *
  unfold XW at kc
  unfold ZU at *
  simp only [Za hnt, Zb, ZI] at *
  generalize ZE (nt (List Sp.Call) [] (callsOf t) f) st = fo at *
  generalize ZD (nt (List Sp.Call) [] (callsOf t) r) st = to at *
  refine SC.less (ZsU false false [] [2] false 1 Tryz.func97 (body := Zm Tryz.f97) rfl (by decide +kernel) rfl ?_)
  refine vS ?_
  repeat' first
    | (with_reducible refine Zmj.mk ?_ ?_)
    | (with_reducible refine Chk.mk (Qa) ?_)
    | (refine ZW k395 (by first | rfl | (simp only [Ze, Zd, Zg, Zb, Za hnt]; rfl)) fun r h₂ hp => ?_
       obtain ⟨rfl, rfl⟩ := hp
       refine vS ?_)
    | (refine ZW k396 (by first | rfl | (simp only [Ze, Zd, Zg, Zb, Za hnt]; rfl)) fun r h₂ hp => ?_
       obtain ⟨rfl, rfl⟩ := hp
       refine vS ?_)
  all_goals
    refine ZqJ (p := fun _ => Tryz.prog) (dr := .both) (B := 4) ⟨rfl, rfl, rfl, rfl, rfl, rfl, rfl, rfl, rfl, ⟨_, rfl, rfl, rfl, rfl⟩, ⟨_, rfl, rfl, rfl, rfl⟩, ⟨_, rfl, rfl, rfl, rfl⟩, ⟨_, rfl, rfl, rfl, rfl⟩, ⟨_, rfl, rfl, rfl, rfl⟩, ⟨_, rfl, rfl, rfl, rfl⟩, ⟨_, rfl, rfl, rfl, rfl⟩, ⟨_, rfl, rfl, rfl, rfl⟩, ⟨_, rfl, rfl, rfl, rfl⟩, ⟨_, rfl, rfl, rfl, rfl⟩, ⟨_, rfl, rfl, rfl, rfl⟩, ⟨_, rfl, rfl, rfl, rfl⟩, ⟨_, rfl, rfl, rfl, rfl⟩, ⟨_, rfl, rfl, rfl, rfl⟩, ⟨_, rfl, rfl, rfl, rfl⟩, ⟨_, rfl, rfl, rfl, rfl⟩, ⟨_, rfl, rfl, rfl, rfl⟩, ⟨_, rfl, rfl, rfl, rfl⟩, ⟨_, rfl, rfl, rfl, rfl⟩⟩ (by kernel_rfl) (ZkZ (by kernel_rfl)) ((ZkZ (n := 1) (z := some (.bool false)) (by kernel_rfl)).imp fun i h => ⟨h.1, h.2.2⟩)
      Tryz.func151 rfl (by decide +kernel) rfl rfl rfl rfl rfl rfl kc ?_
    rw [hy, hn]
    refine Zef false false [] [] false ?_
    refine wS ?_
    refine ZW (k416) (by first | rfl | (simp only [Ze, Zd, Zg, Zb, Za hnt]; rfl)) fun r h₂ hp => ?_
    (try simp only [Ze, Zd, Zg, Zb, Za hnt] at hp)
    obtain ⟨rfl, rfl⟩ := hp
    refine wS ?_
    refine ⟨_, _, ?_, rfl, rfl⟩
    exact ZK
end Go.Proofs.YtjgpiclllehgmaaGreat.Vm
namespace Go.Proofs.YtjgpiclllehgmaaGreat.Vm
attribute [local irreducible] Dn
open Go Go.Proofs Sp
set_option maxRecDepth 100000
set_option maxHeartbeats 4000000
theorem J3 {f:FuncId} {xs ys:List AV} {h:List Zh} {Post Q:AV→List Zh→Prop} {B:Prop} (H:SC (fun _=>Tryz.prog) f ys [] Q) (k:B) (t:SC (fun _=>Tryz.prog) f ys [] Q→HdW B→SC (fun _=>Tryz.prog) f xs h Post:=by intro hH hW;refine ZW hH (by first|rfl|(simp only[Ze,Zd,Zg,Zb,Za hnt];rfl)) fun r h₂ hp=>?_;(try simp only[Ze,Zd,Zg,Zb,Za hnt]at hp);obtain⟨rfl,rfl⟩:=hp;exact hW.out):SC (fun _=>Tryz.prog) f xs h Post:=t H ⟨k⟩
theorem PR.nilw {w:World} {ok:Nat→Nat→Nat→Prop} {s s':Nat} {m m':Unit→Int} {f f':(Unit→Int)→List AV} {v:Value} (h:PR w ok (.isl s m f .nil) v) (hm:m' ()=0):PR w ok (.isl s' m' f' .none) v:=by
 cases h with
 |isl0 _ _ _ _ hz h1=>exact .isl0 _ _ _ _ hm rfl
 |islE _ _ _ _ a hz h1=>exact .islE _ _ _ _ a hm (.inl rfl)
 |isl _ _ _ _ b o len cap us hn hc h1=>rcases h1 with h|h<;>cases h
theorem Zuj (m:Int):SC (fun _=>Tryz.prog) 69 [.int .i64 fun _=>m] [] fun v h=>v=Zg (Z6 m)∧h=[]:=by
 obtain⟨nt,hnt⟩:=Zu
 have k1:=Zkr 0 0 60
 have k2:=Zkr 1 100 110
 have k3:=Zkr 2 160 0
 have k4:=Zkr 1 0 120
 have k5:=Zkr 3 200 0
 have k6:=Zkr 1 0 180
 have k7:=Zkr 3 260 0
 refine SC.less (QT Tryz.func69 (body:=Zm Tryz.f69) rfl (by decide+kernel) ?_)
 refine wS ?_
 refine J3 (k1) ?_
 refine wS ?_
 refine J3 (k2) ?_
 refine wS ?_
 refine J3 (k3) ?_
 refine wS ?_
 refine J3 (k4) ?_
 refine wS ?_
 refine J3 (k5) ?_
 refine wS ?_
 refine J3 (k6) ?_
 refine wS ?_
 refine J3 (k7) ?_
 refine wS ?_
 refine⟨Zg (Z6 m),[],?_,rfl,rfl⟩
 unfold Zg
 simp only[Za hnt,encTrain,encZone,ZI]
 (refine To.of [] ?_;cbv;(try simp only[nc]);(repeat' (first|exact trivial|exact ZH.refl _|exact ZN.refl _|refine⟨?_,?_⟩|refine ZN.cells ?_|refine ZH.agg ?_|refine ZH.tup ?_));(all_goals (first|exact Yv|skip)))
 ·refine Zj2 hnt (fun z:Sp.Zone=>[.int .i64 fun _=>z.base,.isl 2 (fun _=>(z.chs.length:Int)) (fun e=>ZbB (nt Chg default z.chs (e ()))) .none]) default [⟨0,[]⟩] _ ?_ fun i hi=>?_
  ·rfl
  match i,hi with
  |0,_=>exact Y7.two fun w ok v h=>h.nilw rfl
 ·refine Zj2 hnt (fun t:Sp.Train=>[.int .i64 fun _=>t.number,.int .i64 fun _=>t.days,.isl 4 (fun _=>(t.stops.length:Int)) (fun e=>QK (nt Stop default t.stops (e ()))) .none]) default (Z6 m).book.old _ ?_ fun i hi=>?_
  ·rfl
  match i,hi with
  |0,_=>
   refine Y7.three fun w ok v h=>h.wk rfl (fun j hj=>?_) (.inl rfl)
   match j,hj with
   |0,_=>(rw[hnt];rfl)
   |1,_=>(rw[hnt];rfl)
   |2,_=>(rw[hnt];rfl)
   |j+3,hj=>exact absurd hj (by show¬((j+3:Nat):Int)<3;omega)
  |1,_=>
   refine Y7.three fun w ok v h=>h.wk rfl (fun j hj=>?_) (.inl rfl)
   match j,hj with
   |0,_=>(rw[hnt];rfl)
   |1,_=>(rw[hnt];rfl)
   |j+2,hj=>exact absurd hj (by show¬((j+2:Nat):Int)<2;omega)
  |2,_=>
   refine Y7.three fun w ok v h=>h.wk rfl (fun j hj=>?_) (.inl rfl)
   match j,hj with
   |0,_=>(rw[hnt];rfl)
   |1,_=>(rw[hnt];rfl)
   |j+2,hj=>exact absurd hj (by show¬((j+2:Nat):Int)<2;omega)
 ·refine Zj2 hnt (fun t:Sp.Qn=>[.int .i64 fun _=>t.run,.int .i64 fun _=>t.leg,.isl 1 (fun _=>(t.by_.length:Int)) (fun e=>X7 (nt Int 0 t.by_ (e ()))) .none]) default (Z6 m).delays _ ?_ fun i hi=>?_
  ·rfl
  match i,hi with
  |0,_=>
   refine Y7.three fun w ok v h=>h.wk rfl (fun j hj=>?_) (.inl rfl)
   match j,hj with
   |0,_=>(rw[hnt];rfl)
   |1,_=>(rw[hnt];rfl)
   |2,_=>(rw[hnt];rfl)
   |j+3,hj=>exact absurd hj (by show¬((j+3:Nat):Int)<3;omega)
theorem Zvd (l:List Sp.ZcA) (hlen:l.length≤100000):SC (fun _=>Tryz.prog) 26 [lst 2 X3 default l,lst 2 X3 default l] [] fun v h=>v= .bool (fun _=>true)∧h=[]:=by
 obtain⟨nt,hnt⟩:=Zu
 refine QT Tryz.func26 (body:=Zm Tryz.f26) rfl (by decide+kernel) ?_
 simp only[Za hnt]
 refine wS ?_
 refine Br.isF (by simp) ?_
 refine wS ?_
 refine ZP false false [] [0,1,5] [] (fun(i:Nat)=>[(5,.int .i64 fun _=>(i:Int))]) (fun _=>[]) (fun i=>i≤l.length) (fun i=>l.length-i+0) 0 (Nat.zero_le _) ?_ ?_
 ·exact ZK
 intro i hi
 refine wS ?_
 refine⟨fun hb=>?_,fun hb=>?_⟩
 ·simp only[decide_eq_true_eq]at hb
  refine wS ?_
  refine Br.isF (by simp) ?_
  refine wS ?_
  refine⟨i+1,by omega,by omega,?_⟩
  exact ZK
 ·(cbv;(try simp only[nc]at*);(try refine Chk.mk (Qa) ?_))
  (try first|exact⟨rfl,trivial⟩|exact⟨trivial,trivial⟩)
theorem Zbb (m:Int):XC (Z6 m):=⟨⟨by show 1≤1000000;decide,by show 3≤1000000;decide,by show 0≤1000000;decide,fun z hz=>by simp only[Z6,List.mem_singleton]at hz;subst hz;decide,fun t ht=>by simp only[Z6,List.mem_cons,List.not_mem_nil,or_false]at ht;rcases ht with rfl|rfl|rfl<;>decide,fun t ht=>by cases ht⟩,by show 3≤1000000;decide,by show 1≤1000000;decide,by show 1≤1000000;decide,fun d hd=>by simp only[Z6,List.mem_singleton]at hd;subst hd;decide⟩
theorem Zvm:SC (fun _=>Tryz.prog) 17 [] [.main] fun v h=>v= .bool (fun _=>true)∧h=[.main]:=by
 obtain⟨nt,hnt⟩:=Zu
 have kt30:=Zuj 30
 have kt15:=Zuj 15
 have hw:∀t,Zo t=0→ZF t:=fun t h=>XV h
 have k1:=Zul (Z6 30) 1 (Zbb 30) (hw _)
 have k2:=Zvg (Z6 15) 0 (Zbb 15) Zud
 have k3:=Zve (Z6 15) ZiO (Zbb 15) (by decide) (hw _)
 have k4:=Zvh (Z6 30) 0 (Zbb 30)
 have k5:=Zvi (Z6 15) ZlW 0 (Zbb 15) (by decide) (hw _)
 have hte:Yx (Z6 30) 1=0:=by
  unfold Yx
  rw[if_neg (fun h=>h ZsP.2)]
  rfl
 rw[hte,if_pos rfl,if_pos rfl,ZoL]at k1
 rw[ZlZ]at k2
 rw[Zkb]at k3
 rw[ZoM.1]at k4
 rw[ZqR]at k5
 have kh:=Zui
 have ki:=Zvc
 have ks:=Zvd [⟨120,140⟩,⟨200,220⟩] (by decide)
 have kz:=c39 [0,1] [0,1] (by decide)
 have kp1:=Zq4 200 260
 have kp2:=Zq4 120 140
 have kp3:=Zq4 200 220
 generalize JA (Z6 30) 1=C at*
 generalize Z6 30=T30 at*
 generalize Z6 15=T15 at*
 generalize ZiO=H1 at*
 generalize ZlW=H2 at*
 unfold Zg XS X3 at*
 simp only[Za hnt,Zb,ZI,XN]at*
 refine SC.less (QT Tryz.func17 (body:=Zm Tryz.f17) rfl (by decide+kernel) ?_)
 refine wS ?_
 refine J3 (kt30) ?_
 refine wS ?_
 refine J3 (k1) ?_
 refine wS ?_
 refine J3 (kt15) ?_
 refine wS ?_
 refine ZQ [0] (k2) (by decide) (by simp) (by first|rfl|(simp only[Ze,Zd,Zg,Zb,Za hnt];rfl)) (by first|rfl|(simp only[Ze,Zd,Zg,Zb,Za hnt];rfl)) fun r h₂ hp=>?_
 (try simp only[Ze,Zd,Zg,Zb,Za hnt]at hp)
 obtain⟨rfl,rfl⟩:=hp
 refine wS ?_
 refine J3 (kt15) ?_
 refine wS ?_
 refine J3 (kh) ?_
 refine wS ?_
 refine J3 (k3) ?_
 refine wS ?_
 refine J3 (kt30) ?_
 refine wS ?_
 refine J3 (k4) ?_
 refine wS ?_
 refine J3 (kt15) ?_
 refine wS ?_
 refine J3 (ki) ?_
 refine wS ?_
 refine J3 (k5) ?_
 refine vS ?_
 refine Chk.mk (by simp only[nc,QP,QO,QX,QN,Cn.p,beq_self_eq_true,cond_true,imp_self,and_true,true_and];(repeat' (first|apply And.intro|intro _))<;>first|rfl|trivial|exact Or.inl rfl|decide|decide+kernel|(simp;done)) ?_
 repeat (first
  |(with_reducible refine Br.isT rfl ?_;refine vS ?_)
  |(with_reducible refine Chk.mk (by simp only[nc,QP,QO,QX,QN,Cn.p,beq_self_eq_true,cond_true,imp_self,and_true,true_and];(repeat' (first|apply And.intro|intro _))<;>first|rfl|trivial|exact Or.inl rfl|decide|decide+kernel|(simp;done)) ?_))
 refine J3 (kp1) ?_
 refine vS ?_
 repeat (first
  |(with_reducible refine Br.isT rfl ?_;refine vS ?_)
  |(with_reducible refine Chk.mk (by simp only[nc,QP,QO,QX,QN,Cn.p,beq_self_eq_true,cond_true,imp_self,and_true,true_and];(repeat' (first|apply And.intro|intro _))<;>first|rfl|trivial|exact Or.inl rfl|decide|decide+kernel|(simp;done)) ?_))
 refine J3 (kp2) ?_
 refine vS ?_
 repeat (first
  |(with_reducible refine Br.isT rfl ?_;refine vS ?_)
  |(with_reducible refine Chk.mk (by simp only[nc,QP,QO,QX,QN,Cn.p,beq_self_eq_true,cond_true,imp_self,and_true,true_and];(repeat' (first|apply And.intro|intro _))<;>first|rfl|trivial|exact Or.inl rfl|decide|decide+kernel|(simp;done)) ?_))
 refine J3 (kp3) ?_
 refine vS ?_
 repeat (first
  |(with_reducible refine Br.isT rfl ?_;refine vS ?_)
  |(with_reducible refine Chk.mk (by simp only[nc,QP,QO,QX,QN,Cn.p,beq_self_eq_true,cond_true,imp_self,and_true,true_and];(repeat' (first|apply And.intro|intro _))<;>first|rfl|trivial|exact Or.inl rfl|decide|decide+kernel|(simp;done)) ?_))
 refine J2 ks (by(refine To.of [] ?_;cbv;(try simp only[nc]);(repeat' (first|exact trivial|exact ZH.refl _|exact ZN.refl _|refine⟨?_,?_⟩|refine ZN.cells ?_|refine ZH.agg ?_|refine ZH.tup ?_));(all_goals (first|exact Yv|skip)));all_goals exact lit_nt hnt X3 default _ _ rfl) (by first|rfl|(simp only[Ze,Zd,Zg,Zb,Za hnt];rfl)) fun r h₂ hp=>?_
 obtain⟨rfl,rfl⟩:=hp
 refine vS ?_
 repeat (first
  |(with_reducible refine Br.isT rfl ?_;refine vS ?_)
  |(with_reducible refine Chk.mk (by simp only[nc,QP,QO,QX,QN,Cn.p,beq_self_eq_true,cond_true,imp_self,and_true,true_and];(repeat' (first|apply And.intro|intro _))<;>first|rfl|trivial|exact Or.inl rfl|decide|decide+kernel|(simp;done)) ?_))
 refine J2 (kz) (by(try simp only[Ze,Zd,Zg,Zb,Za hnt]);(refine To.of [] ?_;cbv;(try simp only[nc]);(repeat' (first|exact trivial|exact ZH.refl _|exact ZN.refl _|refine⟨?_,?_⟩|refine ZN.cells ?_|refine ZH.agg ?_|refine ZH.tup ?_));(all_goals (first|exact Yv|skip)))) (by first|rfl|(simp only[Ze,Zd,Zg,Zb,Za hnt];rfl)) fun r h₂ hp=>?_
 (try simp only[Ze,Zd,Zg,Zb,Za hnt]at hp)
 obtain⟨rfl,rfl⟩:=hp
 refine vS ?_
 repeat (first
  |(with_reducible refine Br.isT rfl ?_;refine vS ?_)
  |(with_reducible refine Chk.mk (by simp only[nc,QP,QO,QX,QN,Cn.p,beq_self_eq_true,cond_true,imp_self,and_true,true_and];(repeat' (first|apply And.intro|intro _))<;>first|rfl|trivial|exact Or.inl rfl|decide|decide+kernel|(simp;done)) ?_))
 refine⟨.bool fun _=>true,[.main],?_,rfl,rfl⟩
 (refine To.of [] ?_;cbv;(try simp only[nc]);(repeat' (first|exact trivial|exact ZH.refl _|exact ZN.refl _|refine⟨?_,?_⟩|refine ZN.cells ?_|refine ZH.agg ?_|refine ZH.tup ?_));(all_goals (first|exact Yv|skip)))
 all_goals exact .bool rfl
end Go.Proofs.YtjgpiclllehgmaaGreat.Vm
namespace Go.Proofs.YtjgpiclllehgmaaGreat.Vm
open Go Go.Proofs Sp
set_option maxRecDepth 100000
set_option maxHeartbeats 1600000
end Go.Proofs.YtjgpiclllehgmaaGreat.Vm
namespace Go.Proofs.YtjgpiclllehgmaaGreat.Vm
open Go Go.Proofs Sp
set_option maxRecDepth 100000
set_option maxHeartbeats 8000000
theorem Zha {t:Zc} (h:Zo t=0):XC t:=by
 have hw:=XV h
 obtain⟨h1,h2,h3,h4,h5,h6⟩:=ZbD h
 have hc:=ZbZ h1
 have hr:=hw.calls.len
 have hl:(callsOf t).length=t.runs.length:=by unfold callsOf;rw[List.length_map]
 exact⟨⟨by have:=hc.zlen;omega,by have:=hc.olen;omega,by have:=hc.nlen;omega,fun z hz=>by have:=(ZbF (hc.zones z hz)).2.2.1;omega,⟨fun t ht=>by have:=(hc.old t ht).len;omega,fun t ht=>by have:=(hc.new t ht).len;omega⟩⟩,by omega,by omega,by omega,fun d hd=>by have:=(hw.d d hd).2.1;omega⟩
end Go.Proofs.YtjgpiclllehgmaaGreat.Vm
namespace Go.Proofs.YtjgpiclllehgmaaGreat.Vm
attribute [local irreducible] Dn
open Go Go.Proofs Sp
set_option maxRecDepth 100000
set_option maxHeartbeats 8000000
theorem Zs3 {f:FuncId} {xs ys:List AV} {h:List Zh} {Post Q:AV→List Zh→Prop} {B:Prop} (H:SC (fun _=>Tryz.prog) f ys [] Q) (k:B) (t:SC (fun _=>Tryz.prog) f ys [] Q→HdW B→SC (fun _=>Tryz.prog) f xs h Post:=by intro hH hW;refine ZW hH (by first|rfl|(simp only[Ze,Zd,Zg,Zb,Qp,Zi,Za hnt];rfl)) fun r h₂ hp=>?_;(try simp only[Ze,Zd,Zg,Zb,Qp,Zi,Za hnt]at hp);obtain⟨rfl,rfl⟩:=hp;exact hW.out):SC (fun _=>Tryz.prog) f xs h Post:=t H ⟨k⟩
theorem Zuk (a:Int):SC (fun _=>Tryz.prog) 29 [.int .i64 fun _=>a] [] fun v h=>v= .agg (X3 ⟨a,a⟩)∧h=[]:=by
 have k:=Zq4 a a
 unfold X3 at*
 refine SC.less (QT Tryz.func29 (body:=Zm Tryz.f29) rfl (by decide+kernel) ?_)
 refine wS ?_
 refine Zs3 (k) ?_
 refine wS ?_
 refine⟨_,[],?_,rfl,rfl⟩
 exact ZK
theorem ZkP {nt:(α:Type)→α→List α→Int→α} (hnt:∀(α:Type) (d:α) (l:List α) (i:Int),nt α d l i=l.getD i.toNat d) {t:Zc} (hm:JD t) {i:Nat} (hi:i<t.runs.length):
  JO t.book (nt Sp.Qe default t.runs i).number (nt Sp.Qe default t.runs i).day=(nt (List Sp.Call) [] (callsOf t) i,0)∧(2≤(nt (List Sp.Call) [] (callsOf t) i).length∧(nt (List Sp.Call) [] (callsOf t) i).length≤4)∧
  (∀k:Nat,k+1<(nt (List Sp.Call) [] (callsOf t) i).length→(nt Sp.Call default (nt (List Sp.Call) [] (callsOf t) i) (((k+1:Nat):Int)-1)).depart<(nt Sp.Call default (nt (List Sp.Call) [] (callsOf t) i) ((k+1:Nat):Int)).arrive∧(nt Sp.Call default (nt (List Sp.Call) [] (callsOf t) i) ((k+1:Nat):Int)).arrive≤(nt Sp.Call default (nt (List Sp.Call) [] (callsOf t) i) ((k+1:Nat):Int)).depart)∧
  JT t.book.old (nt Sp.Qe default t.runs i).number (nt (List Sp.Call) [] (callsOf t) i)=true:=by
 have h:=Zn7 hm.begin hi
 have h2:=ZlB hm hi
 have e1:nt Sp.Qe default t.runs (i:Int)=t.runs.getD i default:=(XT hnt _ _ _).symm
 have e2:nt (List Sp.Call) [] (callsOf t) (i:Int)=(callsOf t).getD i []:=(XT hnt _ _ _).symm
 rw[e1,e2]
 refine⟨h.run,h.len,fun k hk=>?_,h2⟩
 have h3:=h.asc (k+1) (by omega) hk
 rw[hnt,hnt,Int.toNat_natCast,show(((k+1:Nat):Int)-1).toNat=k by omega]
 exact h3
theorem Zvk (t:Zc) (hm:JD t):SC (fun _=>Tryz.prog) 28 [Zg t] [] fun v h=>v= .tup [lst 1 Zb [] (callsOf t),.bool fun _=>true]∧h=[]:=by
 obtain⟨nt,hnt⟩:=Zu
 have he:=hm.begin
 have hf:=Zha he
 have hrow:=fun(i:Nat) (hi:i<t.runs.length)=>ZkP hnt hm hi
 have hcl:=Q1 t
 have hrl:=hf.runs
 have hwl:=hf.waits
 have hdl:=hf.delays
 have hwt:=fun w hw=>Zg7 (t:=t) hm (w:=w) hw
 have hdt:∀d∈t.delays,(0≤d.run∧d.run<t.runs.length)∧d.leg+2≤(nt (List Sp.Call) [] (callsOf t) d.run).length:=fun d hd=>by
  obtain⟨k,hk,rfl⟩:=Y4 (d:=default) hd
  have h:=ZoU he hk
  have h1:=h.run
  have h2:=h.leg.2
  rw[hcl]at h1
  rw[Xh hnt]at h2
  exact⟨h1,h2⟩
 have hwt:∀w∈t.waits,((0≤w.feeder∧w.feeder<t.runs.length)∧(0≤w.train∧w.train<t.runs.length))∧(1≤Zt (nt (List Sp.Call) [] (callsOf t) w.feeder) 0 w.station∧Zt (nt (List Sp.Call) [] (callsOf t) w.feeder) 0 w.station<(nt (List Sp.Call) [] (callsOf t) w.feeder).length)∧(0≤Zt (nt (List Sp.Call) [] (callsOf t) w.train) 0 w.station∧Zt (nt (List Sp.Call) [] (callsOf t) w.train) 0 w.station<(nt (List Sp.Call) [] (callsOf t) w.train).length)∧
   (nt Sp.Call default (nt (List Sp.Call) [] (callsOf t) w.feeder) (Zt (nt (List Sp.Call) [] (callsOf t) w.feeder) 0 w.station)).arrive≤(nt Sp.Call default (nt (List Sp.Call) [] (callsOf t) w.train) (Zt (nt (List Sp.Call) [] (callsOf t) w.train) 0 w.station)).depart:=fun w hw=>by
  have h:=hwt w hw
  have h5:=h.le
  rw[←h.a,←h.b]at h5
  rw[Zc1 hnt,Zc1 hnt,Xh hnt,Xh hnt]at h5
  have ha:=h.a
  have hb:=h.b
  have hca:=h.ca
  have hgb:=h.gb
  rw[Xh hnt]at ha hb hca hgb
  refine⟨h.runs,by omega,by omega,h5⟩
 have k26:=fun(i:Nat)=>c26 t.book (nt Sp.Qe default t.runs i).number (nt Sp.Qe default t.runs i).day hf.book
 have k394:=fun(i:Nat) (h:(nt (List Sp.Call) [] (callsOf t) i).length≤1000000)=>Zu9 t.book.old (nt Sp.Qe default t.runs i).number (nt (List Sp.Call) [] (callsOf t) i) hf.book.old hf.book.stops.1 h
 have k349:=fun(r st:Int) h (hl:(Sp.Zj (callsOf t) r).length≤1000000)=>Zvf (callsOf t) [] [] r st h hl
 simp only[Xh hnt]at k349
 have hlen4:∀r:Int,0≤r→r<(callsOf t).length→(nt (List Sp.Call) [] (callsOf t) r).length≤1000000:=fun r h0 h1=>by
  have h:=(hrow r.toNat (by omega)).2.1.2
  rw[show((r.toNat:Nat):Int)=r by omega]at h
  omega
 generalize callsOf t=c at*
 unfold Zg Zd Zju at*
 simp only[Za hnt,Zb,Qp]at*
 refine SC.less (QT Tryz.func28 (body:=Zm Tryz.f28) rfl (by decide+kernel) ?_)
 refine wS ?_
 refine ZP false false [] [1,4,5] [.tok 1 fun _=>0] (fun(i:Nat)=>[(4,.isl 1 (fun _=>((c.take i).length:Int)) (fun e=>[.isl 3 (fun _=>((nt (List Sp.Call) [] (c.take i) (e ())).length:Int)) (fun e'=>QV (nt Sp.Call default (nt (List Sp.Call) [] (c.take i) (e ())) (e' ()))) .none]) (.own 1)),(5,.int .i64 fun _=>(i:Int))])
  (fun i=>[(1,.tok 1 fun _=>((c.take i).length:Int))]) (fun i=>i≤t.runs.length) (fun i=>t.runs.length-i+0) 0 (Nat.zero_le _) ?_ ?_
 ·(refine To.of [(1,false)] ?_;cbv;(try simp only[nc]);(repeat' (first|exact trivial|exact ZH.refl _|exact ZN.refl _|refine⟨?_,?_⟩|refine ZN.cells ?_|refine ZH.agg ?_|refine ZH.tup ?_));(all_goals (first|exact Yv|skip)))
 intro i hi
 have hi:i≤t.runs.length:=hi
 refine wS ?_
 refine⟨fun hb=>?_,fun hb=>?_⟩
 ·simp only[decide_eq_true_eq]at hb
  have hr:=hrow i (by omega)
  have k26:=k26 i
  have k394:=k394 i (by omega)
  rw[hr.1]at k26
  rw[hr.2.2.2]at k394
  have hasc:=hr.2.2.1
  have hlen:=hr.2.1
  have htk:=ZcO (d:=[]) hnt (l:=c) (i:=i) (by omega)
  have hti:(c.take i).length=i:=by rw[List.length_take];omega
  clear hr hrow hwt hdt k349
  refine wS ?_
  refine Zs3 (k26) ?_
  generalize nt (List Sp.Call) [] c (i:Int)=C at*
  refine wS ?_
  refine Br.isF (by simp;omega) ?_
  refine wS ?_
  refine JL fun Q hQ=>?_
  refine ZP false false [] [1,4,5,6,8] [] (fun(j:Nat)=>[(8,.int .i64 fun _=>((j+1:Nat):Int))]) (fun _=>[]) (fun j=>j+1≤C.length) (fun j=>C.length-(j+1)+0) 0 (by omega) ?_ ?_
  ·exact ZK
  intro j hj
  have hj:j+1≤C.length:=hj
  refine wS ?_
  refine⟨fun hb2=>?_,fun hb2=>?_⟩
  ·simp only[decide_eq_true_eq]at hb2
   have ha:=hasc j (by omega)
   refine wS ?_
   refine Br.isF (by
    show(bif decide ((nt Sp.Call default C ((j+1:Nat):Int)).arrive≤(nt Sp.Call default C (((j+1:Nat):Int)-1)).depart)then true else decide ((nt Sp.Call default C ((j+1:Nat):Int)).depart<(nt Sp.Call default C ((j+1:Nat):Int)).arrive))=false
    rw[decide_eq_false (by omega),decide_eq_false (by omega)];rfl) ?_
   refine wS ?_
   refine⟨j+1,by show j+1+1≤_;omega,by show C.length-(j+1+1)+0<C.length-(j+1)+0;omega,?_⟩
   exact ZK
  ·simp only[decide_eq_false_iff_not]at hb2
   refine wS ?_
   refine hQ _ _ _ ?_
   refine wS ?_
   refine Zs3 (k394) ?_
   refine wS ?_
   refine Br.isF rfl ?_
   refine wS ?_
   refine⟨i+1,by show i+1≤_;omega,by show t.runs.length-(i+1)+0<t.runs.length-i+0;omega,?_⟩
   rw[htk]
   refine toR ?_
   exact ZH.snoc (enc:=fun r:List Sp.Call=>[AV.isl 3 (fun _=>(r.length:Int)) (fun e'=>QV (nt Sp.Call default r (e' ()))) .none]) (d:=[]) (x:=C) (l:=c.take i) hnt rfl (by simp) rfl
 ·simp only[decide_eq_false_iff_not]at hb
  have hie:i=t.runs.length:=by omega
  rw[hie,←hcl,List.take_length]
  clear k26 k394 hrow
  refine wS ?_
  refine ZP false false [] [1,4,9] [] (fun(i:Nat)=>[(4,.isl 1 (fun _=>(c.length:Int)) (fun e=>[.isl 3 (fun _=>((nt (List Sp.Call) [] c (e ())).length:Int)) (fun e'=>QV (nt Sp.Call default (nt (List Sp.Call) [] c (e ())) (e' ()))) .none]) .none),(9,.int .i64 fun _=>(i:Int))]) (fun _=>[]) (fun i=>i≤t.waits.length) (fun i=>t.waits.length-i+0) 0 (Nat.zero_le _) ?_ ?_
  ·refine toR ?_
   exact ZH.none rfl fun _ _=>rfl
  intro i hi
  have hi:i≤t.waits.length:=hi
  refine wS ?_
  refine⟨fun hb=>?_,fun hb=>?_⟩
  ·simp only[decide_eq_true_eq]at hb
   have hw:=hwt _ (QY (d:=default) hnt (l:=t.waits) (i:=i) (by omega))
   have hf1:0≤(nt Sp.Qk default t.waits (i:Int)).feeder∧(nt Sp.Qk default t.waits (i:Int)).feeder<c.length:=by omega
   have ht1:0≤(nt Sp.Qk default t.waits (i:Int)).train∧(nt Sp.Qk default t.waits (i:Int)).train<c.length:=by omega
   have ka:=k349 (nt Sp.Qk default t.waits (i:Int)).feeder (nt Sp.Qk default t.waits (i:Int)).station hf1 (hlen4 _ hf1.1 hf1.2)
   have kb:=k349 (nt Sp.Qk default t.waits (i:Int)).train (nt Sp.Qk default t.waits (i:Int)).station ht1 (hlen4 _ ht1.1 ht1.2)
   generalize hA:Zt (nt (List Sp.Call) [] c (nt Sp.Qk default t.waits (i:Int)).feeder) 0 (nt Sp.Qk default t.waits (i:Int)).station=A at*
   generalize hB:Zt (nt (List Sp.Call) [] c (nt Sp.Qk default t.waits (i:Int)).train) 0 (nt Sp.Qk default t.waits (i:Int)).station=B at*
   refine wS ?_
   refine J2 (ka) (by(try simp only[Ze,Zd,Zg,Zb,Qp,Zi,Za hnt]);(refine To.of [] ?_;cbv;(try simp only[nc]);(repeat' (first|exact trivial|exact ZH.refl _|exact ZN.refl _|refine⟨?_,?_⟩|refine ZN.cells ?_|refine ZH.agg ?_|refine ZH.tup ?_));(all_goals (first|exact Yv|skip)))) (by first|rfl|(simp only[Ze,Zd,Zg,Zb,Qp,Zi,Za hnt];rfl)) fun r h₂ hp=>?_
   (try simp only[Ze,Zd,Zg,Zb,Qp,Zi,Za hnt]at hp)
   obtain⟨rfl,rfl⟩:=hp
   refine wS ?_
   refine J2 (kb) (by(try simp only[Ze,Zd,Zg,Zb,Qp,Zi,Za hnt]);(refine To.of [] ?_;cbv;(try simp only[nc]);(repeat' (first|exact trivial|exact ZH.refl _|exact ZN.refl _|refine⟨?_,?_⟩|refine ZN.cells ?_|refine ZH.agg ?_|refine ZH.tup ?_));(all_goals (first|exact Yv|skip)))) (by first|rfl|(simp only[Ze,Zd,Zg,Zb,Qp,Zi,Za hnt];rfl)) fun r h₂ hp=>?_
   (try simp only[Ze,Zd,Zg,Zb,Qp,Zi,Za hnt]at hp)
   obtain⟨rfl,rfl⟩:=hp
   have hx1:decide (A<1)=false:=decide_eq_false (by omega)
   have hx2:decide (B<0)=false:=decide_eq_false (by omega)
   have hx3:decide ((nt Sp.Call default (nt (List Sp.Call) [] c (nt Sp.Qk default t.waits (i:Int)).train) B).depart<(nt Sp.Call default (nt (List Sp.Call) [] c (nt Sp.Qk default t.waits (i:Int)).feeder) A).arrive)=false:=decide_eq_false (by omega)
   refine vS ?_
   refine Chk.mk (by simp only[nc,QP,QO,QX,QN,Cn.p,and_true,true_and,imp_self,hx1,hx2,cond_false,cond_true,Bool.not_false,Bool.not_true,decide_eq_true_eq];(repeat' (first|apply And.intro|intro _))<;>first|omega|rfl|trivial|assumption|decide+kernel|(simp[*];done)) ?_
   refine Br.isF (by simp only[hx1,hx2,hx3,cond_false,cond_true,Bool.not_true]) ?_
   refine wS ?_
   refine⟨i+1,by show i+1≤_;omega,by show t.waits.length-(i+1)+0<t.waits.length-i+0;omega,?_⟩
   exact ZK
  ·simp only[decide_eq_false_iff_not]at hb
   clear k349 hwt
   refine wS ?_
   refine ZP false false [] [1,4,13] [] (fun(i:Nat)=>[(13,.int .i64 fun _=>(i:Int))]) (fun _=>[]) (fun i=>i≤t.delays.length) (fun i=>t.delays.length-i+0) 0 (Nat.zero_le _) ?_ ?_
   ·exact ZK
   intro i hi
   have hi:i≤t.delays.length:=hi
   refine wS ?_
   refine⟨fun hb=>?_,fun hb=>?_⟩
   ·simp only[decide_eq_true_eq]at hb
    have hd:=hdt _ (QY (d:=default) hnt (l:=t.delays) (i:=i) (by omega))
    have hl4:=hlen4 _ hd.1.1 (by omega)
    refine wS ?_
    refine Br.isF (decide_eq_false (by omega)) ?_
    refine wS ?_
    refine⟨i+1,by show i+1≤_;omega,by show t.delays.length-(i+1)+0<t.delays.length-i+0;omega,?_⟩
    exact ZK
   ·refine wS ?_
    refine⟨_,_,?_,rfl,rfl⟩
    exact ZK
end Go.Proofs.YtjgpiclllehgmaaGreat.Vm
namespace Go.Proofs.YtjgpiclllehgmaaGreat.Sp
open Vm
def Zda (t:Zc) (f r st:Int):Int×Int:=
 if Zo t≠0 then(0,Zo t)else if Qu f 0 ((t.runs.length:Int)-1)=true then(0,3)else if Qu r 0 ((t.runs.length:Int)-1)=true then(0,3)
 else if ZE (Zj (callsOf t) f) st<0 then(0,3)else if ZD (Zj (callsOf t) r) st<0 then(0,3)else(Jw t f r st,0)
theorem ZqZ {t:Zc} {f r st:Int} (hf:0≤f∧f<(callsOf t).length) (hr:0≤r∧r<(callsOf t).length) (h1:¬ZE (Zj (callsOf t) f) st<0) (h2:¬ZD (Zj (callsOf t) r) st<0):J4 t f r st:=by
 have s1:=Yy (Zj (callsOf t) f) 1 st
 have s2:=Yy (Zj (callsOf t) r) 0 st
 refine⟨⟨hf.1,hf.2,by omega,by unfold ZE;omega⟩,⟨hr.1,hr.2,by omega,?_⟩⟩
 unfold ZD at*
 split<;>omega
theorem Zoz {t:Zc} (he:Zo t=0) {f r st:Int} (h:J4 t f r st):Zda t f r st=(Jw t f r st,0):=by
 have hl:(callsOf t).length=t.runs.length:=by unfold callsOf;rw[List.length_map]
 have o:∀q:Int,0≤q→q<(callsOf t).length→Qu q 0 ((t.runs.length:Int)-1)=false:=fun q g1 g2=>by
  unfold Qu Yw
  simp only[Bool.not_eq_false',Bool.and_eq_true,decide_eq_true_eq]
  omega
 unfold Zda
 rw[if_neg (fun hn=>hn he),o _ h.1.1 h.1.2.1,if_neg Bool.false_ne_true,o _ h.2.1 h.2.2.1,if_neg Bool.false_ne_true,if_neg (by have:=h.1.2.2.1;omega),if_neg (by have:=h.2.2.2.1;omega)]
end Go.Proofs.YtjgpiclllehgmaaGreat.Sp
namespace Go.Proofs.YtjgpiclllehgmaaGreat.Vm
attribute [local irreducible] Dn
open Go Go.Proofs Sp
set_option maxRecDepth 100000
set_option maxHeartbeats 4000000
theorem Zma {f:FuncId} {xs ys:List AV} {h:List Zh} {Post Q:AV→List Zh→Prop} {B:Prop} (H:SC (fun _=>Tryz.prog) f ys [] Q) (k:B) (t:SC (fun _=>Tryz.prog) f ys [] Q→HdW B→SC (fun _=>Tryz.prog) f xs h Post:=by intro hH hW;refine ZW hH (by first|rfl|(simp only[Ze,Zd,Zg,Zb,Za hnt];rfl)) fun r h₂ hp=>?_;(try simp only[Ze,Zd,Zg,Zb,Za hnt]at hp);obtain⟨rfl,rfl⟩:=hp;exact hW.out):SC (fun _=>Tryz.prog) f xs h Post:=t H ⟨k⟩
theorem Zvj (t:Zc) (f r st:Int) (hf:XC t) (hw:Zo t=0→ZF t):SC (fun _=>Tryz.prog) 30 [Zg t,.int .i64 fun _=>f,.int .i64 fun _=>r,.int .i64 fun _=>st] [.main] fun v h=>v= .tup [.int .i64 fun _=>(Zda t f r st).1,.int .i64 fun _=>(Zda t f r st).2]∧h=[.main]:=by
 obtain⟨nt,hnt⟩:=Zu
 have k:=Zo5 t hf
 by_cases hb:Zo t=0
 ·have hw:=hw hb
  have hrl:=hf.runs
  have hlen:(callsOf t).length=t.runs.length:=by unfold callsOf;rw[List.length_map]
  have k1:=Zb8 f 0 ((t.runs.length:Int)-1)
  have k2:=Zb8 r 0 ((t.runs.length:Int)-1)
  have hE:Zda t f r st=if Qu f 0 ((t.runs.length:Int)-1)=true then(0,3)else if Qu r 0 ((t.runs.length:Int)-1)=true then(0,3)else if ZE (Sp.Zj (callsOf t) f) st<0 then(0,3)else if ZD (Sp.Zj (callsOf t) r) st<0 then(0,3)else(Jw t f r st,0):=by
   unfold Zda
   rw[if_neg (fun hn=>hn hb)]
  have hci:=fun a b c d=>Zud t f r st hw (ZqZ (t:=t) (f:=f) (r:=r) (st:=st) a b c d)
  have hmem:∀i:Int,Qu i 0 ((t.runs.length:Int)-1)=false→(0≤i∧i<(callsOf t).length)∧(Sp.Zj (callsOf t) i).length≤4:=fun i h=>by
   have b:=QJ h
   refine⟨by omega,(hw.calls.row _ ?_).2⟩
   unfold Sp.Zj
   rw[List.getD_eq_getElem?_getD,List.getElem?_eq_getElem (by omega)]
   exact List.getElem_mem _
  have m1:=hmem f
  have m2:=hmem r
  rw[Xh hnt]at m1 m2
  rw[Xh hnt]at hci hE
  rw[Xh hnt]at hci hE
  have k395:=fun h=>Zq2 (nt (List Sp.Call) [] (callsOf t) f) st h
  have k396:=fun h=>ZsZ (nt (List Sp.Call) [] (callsOf t) r) st h
  clear hmem
  unfold QH at k
  rw[if_pos hb,hb]at k
  unfold ZU Zg at*
  simp only[Za hnt,Zb,ZI]at*
  generalize Zda t f r st=KR at*
  generalize Qu f 0 ((t.runs.length:Int)-1)=b1 at*
  generalize Qu r 0 ((t.runs.length:Int)-1)=b2 at*
  generalize ZE (nt (List Sp.Call) [] (callsOf t) f) st=C at*
  generalize ZD (nt (List Sp.Call) [] (callsOf t) r) st=D at*
  generalize Jw t f r st=V at*
  refine SC.less (QT Tryz.func30 (body:=Zm Tryz.f30) rfl (by decide+kernel) ?_)
  refine wS ?_
  refine Zma (k) ?_
  refine wS ?_
  refine Br.isF rfl ?_
  refine wS ?_
  refine Zma (k1) ?_
  refine wS ?_
  cases b1
  case true=>
   rw[if_pos rfl]at hE
   subst hE
   refine Br.isF rfl ?_
   refine vS ?_
   refine Chk.mk (by simp[nc,QP,QO,QX,QN,Cn.p]) ?_
   refine Br.isF rfl ?_
   refine vS ?_
   refine Chk.mk (by simp[nc,QP,QO,QX,QN,Cn.p]) ?_
   refine Br.isF rfl ?_
   refine wS ?_
   refine Br.isT rfl ?_
   refine wS ?_
   refine⟨_,_,?_,rfl,rfl⟩
   exact ZK
  rw[if_neg Bool.false_ne_true]at hE
  have m1:=m1 rfl
  refine Br.isT rfl ?_
  refine wS ?_
  refine Zma (k2) ?_
  refine wS ?_
  cases b2
  case true=>
   rw[if_pos rfl]at hE
   subst hE
   refine Br.isF rfl ?_
   refine vS ?_
   refine Chk.mk (by simp[nc,QP,QO,QX,QN,Cn.p]) ?_
   refine Br.isF rfl ?_
   refine wS ?_
   refine Br.isT rfl ?_
   refine wS ?_
   refine⟨_,_,?_,rfl,rfl⟩
   exact ZK
  rw[if_neg Bool.false_ne_true]at hE
  have m2:=m2 rfl
  have k395:=k395 (by omega)
  have k396:=k396 (by omega)
  have hci:=hci m1.1 m2.1
  refine Br.isT rfl ?_
  refine wS ?_
  refine Zma (k395) ?_
  refine wS ?_
  by_cases hC:C<0
  ·rw[if_pos hC]at hE
   subst hE
   refine Br.isF (by simp[hC]) ?_
   refine wS ?_
   refine Br.isT (by simp[hC]) ?_
   refine wS ?_
   refine⟨_,_,?_,rfl,rfl⟩
   exact ZK
  rw[if_neg hC]at hE
  refine Br.isT (by simp[hC]) ?_
  refine wS ?_
  refine Zma (k396) ?_
  refine wS ?_
  by_cases hD:D<0
  ·rw[if_pos hD]at hE
   subst hE
   refine Br.isT (by simp[hC,hD]) ?_
   refine wS ?_
   refine⟨_,_,?_,rfl,rfl⟩
   exact ZK
  rw[if_neg hD]at hE
  have hci:=hci hC hD
  subst hE
  refine Br.isF (by simp[hC,hD]) ?_
  refine wS ?_
  refine ZQ [0] (hci) (by decide) (by simp) (by first|rfl|(simp only[Ze,Zd,Zg,Zb,Za hnt];rfl)) (by first|rfl|(simp only[Ze,Zd,Zg,Zb,Za hnt];rfl)) fun r h₂ hp=>?_
  (try simp only[Ze,Zd,Zg,Zb,Za hnt]at hp)
  obtain⟨rfl,rfl⟩:=hp
  refine wS ?_
  refine⟨_,_,?_,rfl,rfl⟩
  exact ZK
 ·have hE:Zda t f r st=(0,Zo t):=by
   unfold Zda
   rw[if_pos hb]
  rw[hE]
  unfold QH at k
  rw[if_neg hb]at k
  generalize Zo t=e at*
  refine SC.less (QT Tryz.func30 (body:=Zm Tryz.f30) rfl (by decide+kernel) ?_)
  unfold Zg at*
  simp only[Za hnt,Zb,ZI]at*
  refine wS ?_
  refine Zma (k) ?_
  refine wS ?_
  refine⟨fun h=>?_,fun h=>?_⟩
  ·refine wS ?_
   refine⟨_,_,?_,rfl,rfl⟩
   exact ZK
  ·exact absurd (by simpa only[bne_eq_false_iff_eq]using h) hb
end Go.Proofs.YtjgpiclllehgmaaGreat.Vm
namespace Go.Proofs.YtjgpiclllehgmaaGreat.Vm
attribute [local irreducible] Dn
open Go Go.Proofs Sp
set_option maxRecDepth 100000
set_option maxHeartbeats 1600000
end Go.Proofs.YtjgpiclllehgmaaGreat.Vm
namespace Go.Proofs.YtjgpiclllehgmaaGreat.Vm
attribute [local irreducible] Dn
open Go Go.Proofs Sp
set_option maxRecDepth 100000
set_option maxHeartbeats 4000000
end Go.Proofs.YtjgpiclllehgmaaGreat.Vm
namespace Go.Proofs.YtjgpiclllehgmaaGreat.Vm
open Go Go.Proofs Sp
set_option maxRecDepth 100000
set_option maxHeartbeats 8000000
theorem ZmX {t:Zc} (h:Zo t=0) {r:Int} (h0:0≤r) (h1:r<t.runs.length):SC (fun _=>Tryz.prog) 22 [Zg t,.int .i64 fun _=>r] [] fun v h=>v= .tup [lst 2 X3 default (JA t r),lst 2 X3 default (Zbs t r),.int .i64 fun _=>0]∧h=[]:=by
 have k:=Zul t r (Zha h) (fun _=>XV h)
 have e:Yx t r=0:=by
  unfold Yx
  rw[if_neg (fun hn=>hn h),Zcr h0 (by omega),if_neg Bool.false_ne_true]
 rw[e,if_pos rfl,if_pos rfl]at k
 exact k
end Go.Proofs.YtjgpiclllehgmaaGreat.Vm
namespace Go.Proofs.YtjgpiclllehgmaaGreat.Vm
attribute [local irreducible] Dn
open Go Go.Proofs Sp
set_option maxRecDepth 100000
set_option maxHeartbeats 8000000
theorem Zq5 {f:FuncId} {xs ys:List AV} {h:List Zh} {Post Q:AV→List Zh→Prop} {B:Prop} (H:SC (fun _=>Tryz.prog) f ys [] Q) (k:B) (t:SC (fun _=>Tryz.prog) f ys [] Q→HdW B→SC (fun _=>Tryz.prog) f xs h Post:=by intro hH hW;refine ZW hH (by first|rfl|(simp only[Ze,Zd,Zg,Zb,Qp,Zi,Za hnt];rfl)) fun r h₂ hp=>?_;(try simp only[Ze,Zd,Zg,Zb,Qp,Zi,Za hnt]at hp);obtain⟨rfl,rfl⟩:=hp;exact hW.out):SC (fun _=>Tryz.prog) f xs h Post:=t H ⟨k⟩
theorem ZqI {t:Zc} (he:Zo t=0) {f r st:Int} (h:J4 t f r st):SC (fun _=>Tryz.prog) 30 [Zg t,.int .i64 fun _=>f,.int .i64 fun _=>r,.int .i64 fun _=>st] [.main] fun v h=>v= .tup [.int .i64 fun _=>Jw t f r st,.int .i64 fun _=>0]∧h=[.main]:=by
 have k:=Zvj t f r st (Zha he) (fun h=>XV h)
 rw[Zoz he h]at k
 exact k
theorem Zvn (l:List Int) (hl:(l.length:Int)≤9223372036854775807):SC (fun _=>Tryz.prog) 4 [lst 1 X7 0 l] [.main] fun r _=>r= .bool fun _=>true:=by
 obtain⟨nt,hnt⟩:=Zu
 refine QT Tryz.func4 (body:=Zm Tryz.f4) rfl (by decide+kernel) ?_
 refine wS ?_
 refine ZW (c14 l hl) (by first|rfl|(simp only[Ze,Zd,Zg,Zb,Qp,Zi,Za hnt];rfl)) fun r h₂ hp=>?_
 (try simp only[Ze,Zd,Zg,Zb,Qp,Zi,Za hnt]at hp)
 obtain⟨s,rfl,rfl⟩:=hp
 refine wS ?_
 refine ZQ [1] (Zvl s 4 4 0 (by omega) (by omega) (by omega)) (by decide) (by simp) (by first|rfl|(simp only[Ze,Zd,Zg,Zb,Qp,Zi,Za hnt];rfl)) (by first|rfl|(simp only[Ze,Zd,Zg,Zb,Qp,Zi,Za hnt];rfl)) fun r h₂ hp=>?_
 (try simp only[Ze,Zd,Zg,Zb,Qp,Zi,Za hnt]at hp)
 obtain⟨t,s',ht,rfl,rfl⟩:=hp
 have hm:=ht.1
 have he:=hm.begin
 have hr4:=ht.2.1
 have hw4:=ht.2.2.1
 have hd0:t.delays=[]:=List.eq_nil_of_length_eq_zero (by have:=ht.2.2.2;omega)
 have hcl:=Q1 t
 have k328:=Zvk t hm
 have kt:=fun(r:Int) (h0:0≤r) (h1:r<t.runs.length)=>ZmX he h0 h1
 have hpt:=fun(r:Int) (h0:0≤r) (h1:r<t.runs.length)=>Zf3 he hd0 h0 h1
 have hlen4:∀r:Nat,r<t.runs.length→(nt (List Sp.Call) [] (callsOf t) r).length≤4:=fun r h0=>(ZkP hnt hm h0).2.1.2
 have kk:∀w∈t.waits,SC (fun _=>Tryz.prog) 30 [Zg t,.int .i64 fun _=>w.feeder,.int .i64 fun _=>w.train,.int .i64 fun _=>w.station] [.main] fun v h=>v= .tup [.int .i64 fun _=>1,.int .i64 fun _=>0]∧h=[.main]:=fun w hw=>by
  have k:=ZqI he (Zlg hm hw)
  rw[ZhJ hm hd0 hw]at k
  exact k
 have hA:∀(r:Nat),r<t.runs.length→(JA t r).length=(nt (List Sp.Call) [] (callsOf t) r).length∧(Zbs t r).length=(nt (List Sp.Call) [] (callsOf t) r).length∧∀k:Nat,k<(nt (List Sp.Call) [] (callsOf t) r).length→((nt ZcA default (JA t r) k).fr=(nt Sp.Call default (nt (List Sp.Call) [] (callsOf t) r) k).arrive∧(nt ZcA default (JA t r) k).to_=(nt Sp.Call default (nt (List Sp.Call) [] (callsOf t) r) k).arrive)∧((nt ZcA default (Zbs t r) k).fr=(nt Sp.Call default (nt (List Sp.Call) [] (callsOf t) r) k).depart∧(nt ZcA default (Zbs t r) k).to_=(nt Sp.Call default (nt (List Sp.Call) [] (callsOf t) r) k).depart):=fun r hr=>by
  obtain⟨h1,h2⟩:=hpt r (by omega) (by omega)
  rw[Xh hnt]at h1 h2
  rw[h1,h2]
  refine⟨List.length_map _,List.length_map _,fun k hk=>?_⟩
  generalize nt (List Sp.Call) [] (callsOf t) r=R at*
  simp only[hnt,Int.toNat_natCast]
  simp only[List.getD_eq_getElem?_getD,List.getElem?_map,List.getElem?_eq_getElem hk]
  exact⟨⟨rfl,rfl⟩,⟨rfl,rfl⟩⟩
 clear hpt
 generalize JA t=CL at*
 generalize Zbs t=GL at*
 generalize callsOf t=c at*
 refine wS ?_
 refine Zq5 (k328) ?_
 refine wS ?_
 refine Br.isF rfl ?_
 refine wS ?_
 refine ZP false false [] [3,4,6] [] (fun(i:Nat)=>[(6,.int .i64 fun _=>(i:Int))]) (fun _=>[]) (fun i=>i≤c.length) (fun i=>c.length-i+0) 0 (Nat.zero_le _) ?_ ?_
 ·exact ZK
 intro i hi
 have hi:i≤c.length:=hi
 refine wS ?_
 refine⟨fun hb=>?_,fun hb=>?_⟩
 ·simp only[decide_eq_true_eq]at hb
  have hA:=hA i (by omega)
  have h4:=hlen4 i (by omega)
  have kt:=kt i (by omega) (by omega)
  clear kk k328 hlen4
  generalize CL (i:Int)=A at*
  generalize GL (i:Int)=B at*
  refine wS ?_
  refine Zq5 (kt) ?_
  have q1:(A.length:Int)=((nt (List Sp.Call) [] c (i:Int)).length:Int):=by omega
  have q2:(B.length:Int)=((nt (List Sp.Call) [] c (i:Int)).length:Int):=by omega
  refine wS ?_
  refine Br.isF (by simp[q1,q2]) ?_
  refine wS ?_
  refine JL fun Q hQ=>?_
  refine ZP false false [] [3,4,6,7,8,10] [] (fun(k:Nat)=>[(10,.int .i64 fun _=>(k:Int))]) (fun _=>[]) (fun k=>k≤(nt (List Sp.Call) [] c (i:Int)).length) (fun k=>(nt (List Sp.Call) [] c (i:Int)).length-k+0) 0 (Nat.zero_le _) ?_ ?_
  ·exact ZK
  intro k hk
  have hk:k≤(nt (List Sp.Call) [] c (i:Int)).length:=hk
  refine wS ?_
  refine⟨fun hb2=>?_,fun hb2=>?_⟩
  ·simp only[decide_eq_true_eq]at hb2
   have hA:=hA.2.2 k (by omega)
   refine wS ?_
   have k1:=Zuk (nt Sp.Call default (nt (List Sp.Call) [] c (i:Int)) (k:Int)).arrive
   have k2:=Zuk (nt Sp.Call default (nt (List Sp.Call) [] c (i:Int)) (k:Int)).depart
   unfold X3 at k1 k2
   refine Zq5 (k1) ?_
   refine wS ?_
   refine Br.isT (by simp[hA.1.1,hA.1.2]) ?_
   refine vS ?_
   refine Chk.mk (by simp only[nc,QP,QO,QX,QN,Cn.p,and_true,true_and,decide_eq_true_eq,imp_self,hA.1.1,hA.1.2,beq_self_eq_true,Bool.and_true,Bool.not_true,Bool.not_false]) ?_
   refine Zq5 (k2) ?_
   refine wS ?_
   refine Br.isF (by simp[hA.1.1,hA.1.2,hA.2.1,hA.2.2]) ?_
   refine wS ?_
   refine⟨k+1,by show k+1≤_;omega,by show(nt (List Sp.Call) [] c (i:Int)).length-(k+1)+0<(nt (List Sp.Call) [] c (i:Int)).length-k+0;omega,?_⟩
   exact ZK
  ·simp only[decide_eq_false_iff_not]at hb2
   refine wS ?_
   refine hQ _ _ _ ?_
   refine wS ?_
   refine⟨i+1,by show i+1≤_;omega,by show c.length-(i+1)+0<c.length-i+0;omega,?_⟩
   exact ZK
 ·simp only[decide_eq_false_iff_not]at hb
  clear hA kt k328
  refine wS ?_
  refine ZP false false [] [3,11] [] (fun(i:Nat)=>[(11,.int .i64 fun _=>(i:Int))]) (fun _=>[]) (fun i=>i≤t.waits.length) (fun i=>t.waits.length-i+0) 0 (Nat.zero_le _) ?_ ?_
  ·exact ZK
  intro i hi
  have hi:i≤t.waits.length:=hi
  refine wS ?_
  refine⟨fun hb=>?_,fun hb=>?_⟩
  ·simp only[decide_eq_true_eq]at hb
   have kk:=kk _ (QY (d:=default) hnt (l:=t.waits) (i:=i) (by omega))
   refine wS ?_
   refine ZQ [0] (kk) (by decide) (by simp) (by first|rfl|(simp only[Ze,Zd,Zg,Zb,Qp,Zi,Za hnt];rfl)) (by first|rfl|(simp only[Ze,Zd,Zg,Zb,Qp,Zi,Za hnt];rfl)) fun r h₂ hp=>?_
   (try simp only[Ze,Zd,Zg,Zb,Qp,Zi,Za hnt]at hp)
   obtain⟨rfl,rfl⟩:=hp
   refine wS ?_
   refine Br.isF rfl ?_
   refine wS ?_
   refine⟨i+1,by show i+1≤_;omega,by show t.waits.length-(i+1)+0<t.waits.length-i+0;omega,?_⟩
   exact ZK
  ·refine wS ?_
   refine ZQ [0] (Zvm) (by decide) (by simp) (by first|rfl|(simp only[Ze,Zd,Zg,Zb,Qp,Zi,Za hnt];rfl)) (by first|rfl|(simp only[Ze,Zd,Zg,Zb,Qp,Zi,Za hnt];rfl)) fun r h₂ hp=>?_
   (try simp only[Ze,Zd,Zg,Zb,Qp,Zi,Za hnt]at hp)
   obtain⟨rfl,rfl⟩:=hp
   exact wZ
end Go.Proofs.YtjgpiclllehgmaaGreat.Vm
