/- kept's channel, its goroutine and the answers: by hand, as one piece. -/
import Derived.Test.YtjgpiclllehgmaaGreatB5
import Derived.Test.YtjgpiclllehgmaaGreatB3
import Derived.Test.YtjgpiclllehgmaaGreatB4
import Derived.Test.YtjgpiclllehgmaaGreatB1
import Derived.Test.YtjgpiclllehgmaaGreatB2
set_option linter.all false
namespace Go.Proofs.YtjgpiclllehgmaaGreat.Vm
open Go Go.Conc Go.Proofs Go.Proofs.YtjgpiclllehgmaaGreat.Conc1
section
variable {P:Program} {b:FB} {ds:List Deferred} {k:List Item} {cs:List Frame} {t:Array Value}
theorem ZeO {cx:Option Nat} {ops:Array Oper} {i:Nat} {rest:List Nat} {d:Option Tmp} {op:Op} {v:Value} {nv:Next} {w w':World} (H:Jd ops i d op) (hd:∀c,op≠ .defer c) (hm:∀o:Oper,o.op=op→Zt P (fun _=>False) (execOp (Qv t) o))
  (hr:∀o:Oper,o.op=op→(execOp (Qv t) o).run P w= .ok nv w') (hnv:nv= .value v∨(nv= .skip∧v=undef)):
  One P cx (ZB (mkF b t ds (.inRegion ops (i::rest)::k)) cs w) (ZB (mkF b (ZZ t d v) ds (.inRegion ops rest::k)) cs w'):=by
 obtain⟨o,ho,hop,hdst,hg⟩:=H.ok
 rw[←hdst]
 exact J6 ho (by simp[Region.wanted,hg]) (fun c=>by rw[hop];exact hd c) (hm o hop) (hr o hop) hnv
theorem Zic {ops:Array Oper} {rest:List Nat} {i d:Nat} {T:TypeId} {dr:ChanDir} {B:TypeId} {w:World} (H:Jd ops i (some d) (.makeChan T (.const (.int .i64 0)))) (hU:P.underlying T=some (.chan dr B)) (hB:∃i,P.info? B=some i):
  One P none (ZB (mkF b t ds (.inRegion ops (i::rest)::k)) cs w) (ZB (mkF b (ZZ t (some d) (.chan (some w.heap.size))) ds (.inRegion ops rest::k)) cs {w with heap:=w.heap.push (.chan 0 #[] false 0 0 false)}):=by
 obtain⟨o,ho,hop,hdst,hg⟩:=H.ok
 obtain⟨iB,hi⟩:=hB
 have hr:∀w:World,(execOp (Qv t) o).runT P w #[]=(.ok (.value (.chan (some w.heap.size))) {w with heap:=w.heap.push (.chan 0 #[] false 0 0 false)}, #[]):=fun w=>by
  have e:execOp (Qv t) o=(Instr.makeChan T (.int .i64 0)>>=fun x=>pure (.value x)):=by
   unfold execOp
   simp only[hop]
   rfl
  rw[e]
  unfold Instr.makeChan
  show(Sem.bind (Sem.bind (underlying T) _) _).runT P w #[]=_
  rw[Sem.runT_bind',Sem.runT_bind',Ze0 hU]
  dsimp only
  rw[show∀f:TypeInfo→Sem Value,(typeInfo B>>=f)=Sem.bind (typeInfo B) f from fun _=>rfl,Sem.runT_bind',Zdb hi]
  dsimp only
  rw[if_neg (by simp[IntKind.max];decide)]
  rfl
 refine StepsC.main ?_
 refine .one (.head (.own ⟨Nat,Sem.new (.chan 0 #[] false 0 0 false) Sem.pure,fun n=>(mkF b (ZZ t (some d) (.chan (some n))) ds (.inRegion ops rest::k),cs),w.heap.size, #[],fun main w w' x es h=>?_,rfl,rfl,fun e he=>by simp at he⟩) (.refl _))
 have h:((.ok w.heap.size {w with heap:=w.heap.push (.chan 0 #[] false 0 0 false)}:Result Nat),(#[]:Array Event))=(.ok x w',es):=h
 simp only[Prod.mk.injEq,Result.ok.injEq]at h
 obtain⟨⟨rfl,rfl⟩,rfl⟩:=h
 have:=ZdI (P:=P) (b:=b) (ds:=ds) (k:=k) (cs:=cs) (rest:=rest) ho hg (fun c=>by rw[hop];intro h;cases h) (hr w) main
 rw[hdst]at this
 exact this
theorem ZkN {α:Type} {A:Array α} {x y:α} {j:Nat} (h:j≠A.size):(A.push x)[j]? =(A.push y)[j]? :=by
 rw[Array.getElem?_push,Array.getElem?_push,if_neg h,if_neg h]
theorem VR.setCx {R:RC} {a:AV} {v:Value} (c:Option Nat) (h:VR R a v):VR {R with cx:=c} a v:=by
 induction h with
 |pure a v h=>exact .pure a v h
 |undef v=>exact .undef v
 |ptr id off h=>exact .ptr (R:={R with cx:=c}) id off h
 |own s n f id v h hp hn he=>exact .own s n f id v h hp hn he
 |nn s n f v hp hv=>exact .nn s n f v hp hv
 |aptr id s e off i h he=>exact .aptr (R:={R with cx:=c}) id s e off i h he
 |msl id s lo n c i len cap h hlo hn hc hle=>exact .msl (R:={R with cx:=_}) id s lo n c i len cap h hlo hn hc hle
 |gsl id n a l c h hn he hl=>exact .gsl id n a l c h hn he hl
 |gptr id s n e off a h hn he=>exact .gptr id s n e off a h hn he
 |lit s cs b o us hs h1 h2 h3 ih=>exact .lit s cs b o us hs h1 ih h3
 |map id h=>exact .map (R:={R with cx:=c}) id h
 |mit id h h0=>exact .mit (R:={R with cx:=c}) id h h0
 |fn f xs bs us vs ha hb h1 h2 ih1 ih2=>exact .fn f xs bs us vs ha hb ih1 ih2
 |yld id h=>exact .yld (R:={R with cx:=c}) id h
 |agg cs us ha h ih=>exact .agg cs us ha ih
 |tup cs us ha h ih=>exact .tup cs us ha ih
 |gd g a v h ih=>exact .gd g a v ih
 |ob g b v h1 h2=>exact .ob g b v h1 h2
structure KC (P:Program) (fid:FuncId) (xs:Nat→List AV) (L:List Bool):Prop where
 run:∀(ch:Nat) (R:RC) (vs:Array Value),HR (fun _ _ _=>True) R [.gob (.chq ch fun _=>[])]→R.cx=some ch→R.n0=1→XZ R (xs ch) vs→∀cs,∃t todo w' s r tm ts ty c,
  StepsC P (some ch) ⟨Frame.enter P fid vs .deferred,cs,R.w⟩ ⟨{mkF ⟨fid,true,none,[]⟩ t [ZhQ ts ty c ch] todo with mode:=.returning},cs,w'⟩∧w'.heap[ch]? =some (.chan 0 (L.map Value.bool).toArray false s r tm)∧
  (∀b,b<R.w.heap.size→b≠ch→w'.heap[b]? =R.w.heap[b]?)∧R.w.heap.size≤w'.heap.size∧w'.os=R.w.os∧w'.tape=R.w.tape∧w'.output=R.w.output
def wCh (w:World) (v:Value) (T:TypeId) (f:Nat×Nat):World:={w with heap:=(w.heap.push (.chan 0 #[] false 0 0 false)).push (.cells #[v] T f)}
theorem Zjr {w:World} {v:Value} {T:TypeId} {f:Nat×Nat} {b:Nat} (h:b<w.heap.size):(wCh w v T f).heap[b]? =w.heap[b]? :=by
 show((w.heap.push _).push _)[b]? =_
 rw[Array.getElem?_push,if_neg (by simp;omega),Array.getElem?_push,if_neg (by omega)]
theorem Zmp {w:World} {v:Value} {T:TypeId} {f:Nat×Nat}:(wCh w v T f).heap[w.heap.size]? =some (.chan 0 #[] false 0 0 false):=by
 show((w.heap.push _).push _)[w.heap.size]? =_
 rw[Array.getElem?_push,if_neg (by simp),Array.getElem?_push,if_pos rfl]
theorem ZcA {w:World} {v:Value} {T:TypeId} {f:Nat×Nat}:(wCh w v T f).heap[w.heap.size+1]? =some (.cells #[v] T f):=by
 show((w.heap.push _).push _)[w.heap.size+1]? =_
 rw[Array.getElem?_push,if_pos (by simp)]
theorem Zba {w:World} {v:Value} {T:TypeId} {f:Nat×Nat}:(wCh w v T f).heap.size=w.heap.size+2:=by
 show((w.heap.push _).push _).size=_
 simp
theorem Zda {w:World} {v:Value} {T:TypeId} {f:Nat×Nat}:(wCh w v T f).cell? ⟨w.heap.size+1,0,none⟩=some v:=by
 unfold World.cell?
 rw[ZcA]
 rfl
theorem Zi2 {w w':World} {b:Nat} (h:w'.heap[b]? =w.heap[b]?) (i:Nat):w'.cell? ⟨b,i,none⟩=w.cell? ⟨b,i,none⟩:=by
 unfold World.cell?
 simp only[h]
end
theorem ZoN {G:Nat→Nat→Nat→Prop} {R:RC} {h:List Zi} (H:HR G R h) (T:TypeId):∃R₃:RC,R₃.w=wCh R.w (.chan (some R.w.heap.size)) T (0,1)∧R₃.cx=some R.w.heap.size∧R₃.n0=1∧HR (fun _ _ _=>True) R₃ [.gob (.chq R.w.heap.size fun _=>[])]∧
  (∀k a v,VR R a v→VR R₃ (Qs true [] h k a) v)∧VR R₃ (.iptr [.cch R.w.heap.size] 0) (.pointer (some ⟨R.w.heap.size+1,0,none⟩)):=by
 obtain⟨R₂,acx,a0,a1,a2,a3,a4,a5,a6,a7,a8⟩:=H.sel (fz:=true) (ι:=[]) (fun _ _ _=>True) (fun _ _ _ _=>trivial) (fun _ _ _ _ _ _ _ _=>trivial) (fun _ _ _ _=>trivial) (fun _ _ _ _ _ _ _ _ _=>trivial) List.nodup_nil (fun i hi=>by cases hi) (fun _ _ _ _ _ _ _ _ _=>trivial) 0 (Nat.zero_le _) (fun _=>Nat.zero_le _)
 let n:=R.w.heap.size
 let R₃:RC:={R₂ with w:=wCh R.w (.chan (some n)) T (0,1),cx:=some n,m:=1,n0:=1,α:=fun _=>⟨n,0⟩,ok:=fun b _ _=>b<n+2∧b≠n}
 have hs:R₃.w.heap.size=n+2:=Zba
 have hle:({R₂ with cx:=some n}:RC).le R₃:=by
  refine⟨by show R₂.m≤1;rw[a2];exact Nat.zero_le _,fun id hi=>?_,fun id hi=>?_,fun id hi=>?_,fun b o m hk=>?_,fun b o m hk j hj=>?_,fun b hk es clk e=>?_,rfl⟩
  ·have hi:id<R₂.m:=hi
   rw[a2]at hi
   exact absurd hi (Nat.not_lt_zero _)
  ·have hi:id<R₂.m:=hi
   rw[a2]at hi
   exact absurd hi (Nat.not_lt_zero _)
  ·have hi:id<R₂.m:=hi
   rw[a2]at hi
   exact absurd hi (Nat.not_lt_zero _)
  ·have:=((a6.okd b o m).1 hk).1
   rw[a1]at this
   exact⟨by show b<R.w.heap.size+2;omega,by show b≠R.w.heap.size;omega⟩
  ·have:=((a6.okd b o m).1 hk).1
   rw[a1]at this
   show(wCh R.w _ T (0,1)).cell? _=R₂.w.cell? _
   rw[a1]
   exact Zi2 (Zjr this) _
  ·have:=((a6.okd b 0 1).1 hk).1
   rw[a1]at this
   show(wCh R.w _ T (0,1)).heap[b]? =_
   rw[Zjr this,←a1]
   exact e
 refine⟨R₃,rfl,rfl,rfl,⟨rfl,fun b o m=>?_,fun id blk hi=>?_,fun i j bi bj b hij hi hj=>?_,fun _ _ _ _ _ _ _ _=>trivial,fun _ _ _ _=>trivial,fun _ _ _ _ _ _ _ _=>trivial,Nat.le_refl 1⟩,fun k a v hv=>((a8 k a v hv).setCx (some n)).mono hle,.pure _ _ (.iptr _ _ _ _ (fun _=>.chan (some n)) (fun j c hj=>?_) (fun j c hj=>?_) ?_)⟩
 ·rw[hs]
  refine⟨fun hk=>⟨hk.1,trivial,fun id blk hi=>?_⟩,fun hk=>⟨hk.1,fun e=>?_⟩⟩
  ·cases id with
   |zero=>
    cases hi
    show¬n=b
    exact fun e=>hk.2 e.symm
   |succ id=>simp at hi
  ·exact hk.2.2 0 _ rfl (show n=b from e.symm)
 ·cases id with
  |zero=>
   cases hi
   exact⟨.chan 0 #[] false 0 0 false,Zmp,rfl,rfl,rfl,0,0,false,rfl⟩
  |succ id=>simp at hi
 ·cases i with
  |zero=>
   cases j with
   |zero=>exact absurd rfl hij
   |succ j=>simp at hj
  |succ i=>simp at hi
 ·cases j with
  |zero=>
   cases hj
   exact Zda
  |succ j=>simp at hj
 ·cases j with
  |zero=>
   cases hj
   exact .cch n
  |succ j=>simp at hj
 ·exact⟨by show n+1<n+2;omega,by show n+1≠n;omega⟩
section
variable {P:Program} {b:FB} {ds:List Deferred} {k:List Item} {cs:List Frame} {t:Array Value}
variable {T I I':TypeId} {fid:FuncId} {o2 o3 o4 o5 o6 o7 o8 o9 o10:Array Oper}
theorem ZlI {i2 i3:Nat} {X:Code} (HO:ZaY T I I' fid o2 o3 o4 o5 o6 o7 o8 o9 o10) {dr:ChanDir} {B:TypeId} (hU:P.underlying T=some (.chan dr B)) (hT:∃i,P.info? T=some i∧i.size=1∧i.zero=some (.chan none)) (hB:∃i,P.info? B=some i) (hsz:t.size=51) (w:World):
  Steps P none (ZB (mkF b t ds (.code (.region i2 o2 false):: .code (.seq (.region i3 o3 false) X)::k)) cs w)
   (ZB (mkF b (ZZ (ZZ (ZZ t (some 37) (.chan (some w.heap.size))) (some 11) (.pointer (some ⟨w.heap.size+1,0,none⟩))) (some 38) (.func (.func fid) #[] #[.pointer (some ⟨w.heap.size+1,0,none⟩),t.getD 4 undef,t.getD 9 undef,t.getD 10 undef])) ds (.inRegion o3 [1]:: .code X::k)) cs (wCh w (.chan (some w.heap.size)) T (0,0))):=by
 obtain⟨iT,hi,hs,hz⟩:=hT
 refine .head ZbM ?_
 rw[HO.s2]
 refine .head (Zic HO.a20 hU hB) ?_
 refine .head (ZeO (nv:=.value (.pointer (some ⟨w.heap.size+1,0,none⟩))) (w':=wCh w (.chan none) T (0,0)) HO.a21 (fun _ h=>by cases h) (fun o ho=>?_) (fun o ho=>?_) (.inl rfl)) ?_
 ·unfold execOp
  simp only[ho]
  exact Zh (fun _=>Zfj) fun _ _=>Zl
 ·have hzr:(zeroValue T).run P {w with heap:=w.heap.push (.chan 0 #[] false 0 0 false)}= .ok (.chan none) {w with heap:=w.heap.push (.chan 0 #[] false 0 0 false)}:=by
   have:=ZeZ (w:={w with heap:=w.heap.push (.chan 0 #[] false 0 0 false)}) (es:= #[]) hi hz
   rw[Sem.runT_eq]at this
   exact congrArg Prod.fst this
  unfold execOp
  simp only[ho]
  simp only[Instr.alloc,Sem.run_bind,hzr,Result.andThen_ok,newVar,newRow,newObj,Value.cells]
  simp[Sem.run,wCh]
 refine .head (ZeO (nv:=.skip) (v:=undef) (w':=wCh w (.chan (some w.heap.size)) T (0,0)) HO.a22 (fun _ h=>by cases h) (fun o ho=>?_) (fun o ho=>?_) (.inr ⟨rfl,rfl⟩)) ?_
 ·unfold execOp
  simp only[ho]
  exact Zh (fun _=>ZcN) fun _ _=>Zl
 ·have e1:Qv (ZZ (ZZ t (some 37) (.chan (some w.heap.size))) (some 11) (.pointer (some ⟨w.heap.size+1,0,none⟩))) (.tmp 11)= .pointer (some ⟨w.heap.size+1,0,none⟩):=Xg (by simp only[Z2];omega)
  have e2:Qv (ZZ (ZZ t (some 37) (.chan (some w.heap.size))) (some 11) (.pointer (some ⟨w.heap.size+1,0,none⟩))) (.tmp 37)= .chan (some w.heap.size):=(Ys (by decide)).trans (Xg (by omega))
  unfold execOp
  simp only[ho,e1,e2]
  have hsr:(sizeOf T).run P (wCh w (.chan none) T (0,0))= .ok 1 (wCh w (.chan none) T (0,0)):=by
   have:=Zdb (w:=wCh w (.chan none) T (0,0)) (es:= #[]) hi
   rw[Sem.runT_eq]at this
   have h:=congrArg Prod.fst this
   unfold sizeOf
   have h:(typeInfo T).run P (wCh w (.chan none) T (0,0))= .ok iT (wCh w (.chan none) T (0,0)):=h
   rw[Sem.run_bind,h,Result.andThen_ok,hs]
   rfl
  simp only[Instr.storeAt,Instr.sureAddr,Sem.run_bind,Sem.run_pure,Result.andThen_ok,storeVar,hsr]
  rw[if_neg (by simp[Value.cells])]
  have hc:(wCh w (.chan none) T (0,0)).cell? (Addr.add ⟨w.heap.size+1,0,none⟩ 0)=some (.chan none):=Zda
  have hfz:(wCh w (.chan none) T (0,0)).frozen? (Addr.add ⟨w.heap.size+1,0,none⟩ 0)=false:=by
   unfold World.frozen?
   rw[show(Addr.add ⟨w.heap.size+1,0,none⟩ 0).block=w.heap.size+1 from rfl,ZcA]
   simp
  have hset:(wCh w (.chan none) T (0,0)).setCell (Addr.add ⟨w.heap.size+1,0,none⟩ 0) (.chan (some w.heap.size))=wCh w (.chan (some w.heap.size)) T (0,0):=by
   unfold World.setCell wCh
   simp only[World.mk.injEq,and_true]
   apply Array.ext_getElem?
   intro j
   show(((w.heap.push _).push _).modify (w.heap.size+1) _)[j]? =_
   rw[Array.getElem?_modify]
   by_cases hj:w.heap.size+1=j
   ·subst hj
    rw[if_pos rfl,Array.getElem?_push,if_pos (by simp),Array.getElem?_push,if_pos (by simp)]
    rfl
   ·rw[if_neg hj]
    exact ZkN (by simpa using Ne.symm hj)
  simp[Value.cells,storeCells,store,Sem.run_bind,Sem.run,hc,hfz,hset]
 refine .head YI (.head Zg9 (.head ZbM ?_))
 rw[HO.s3]
 refine .head (ZeO (nv:=.value _) (v:=.func (.func fid) #[] #[.pointer (some ⟨w.heap.size+1,0,none⟩),t.getD 4 undef,t.getD 9 undef,t.getD 10 undef]) (w':=wCh w (.chan (some w.heap.size)) T (0,0)) HO.a30 (fun _ h=>by cases h) (fun o ho=>?_) (fun o ho=>?_) (.inl rfl)) (.refl _)
 ·unfold execOp
  simp only[ho]
  trivial
 ·have e1:(Qv (ZZ (ZZ t (some 37) (.chan (some w.heap.size))) (some 11) (.pointer (some ⟨w.heap.size+1,0,none⟩)))) (.tmp 11)= .pointer (some ⟨w.heap.size+1,0,none⟩):=Xg (by simp only[Z2];omega)
  have e2:(Qv (ZZ (ZZ t (some 37) (.chan (some w.heap.size))) (some 11) (.pointer (some ⟨w.heap.size+1,0,none⟩)))) (.tmp 4)=t.getD 4 undef:=(Ys (by decide)).trans (Ys (by decide))
  have e3:(Qv (ZZ (ZZ t (some 37) (.chan (some w.heap.size))) (some 11) (.pointer (some ⟨w.heap.size+1,0,none⟩)))) (.tmp 9)=t.getD 9 undef:=(Ys (by decide)).trans (Ys (by decide))
  have e4:(Qv (ZZ (ZZ t (some 37) (.chan (some w.heap.size))) (some 11) (.pointer (some ⟨w.heap.size+1,0,none⟩)))) (.tmp 10)=t.getD 10 undef:=(Ys (by decide)).trans (Ys (by decide))
  unfold execOp
  have e0:∀u:Array Value,ZZ u none undef=u:=fun _=>rfl
  simp only[ho,Instr.makeFunc,List.map_toArray,List.map_cons,List.map_nil,e0,e1,e2,e3,e4]
  rfl
theorem Zj0 {fn:Func} {body:Code} (hf:P.funcs[fid]? =some fn) (hb:fn.body=some body) (hn:(fn.name== "runtime.NumGoroutine")=false) (vs:Array Value) (main:Bool) (w:World):
  stepG P main (G (Zac P.funcs.size [{target:=.fn (.func fid) vs,args:= #[]}]) []) w= .go (G (Frame.enter P fid vs .deferred) [Zac P.funcs.size []]) w:=by
 have hr:(invoke (.fn (.func fid) vs) #[]).run P w= .ok (.enter fid vs) w:=by
  have hn:¬fn.name= "runtime.NumGoroutine" :=by simpa using hn
  simp[invoke,callFunc,Sem.run_bind,program,Sem.run,hf,hb,hn]
 have he:(invoke (.fn (.func fid) vs) #[]).events P w #[]= #[]:=by
  have hn:¬fn.name= "runtime.NumGoroutine" :=by simpa using hn
  unfold invoke callFunc Sem.events
  simp only
  show((Sem.bind program _).runT P w #[]).2=_
  rw[Sem.runT_bind',show program.runT P w #[]=(.ok P w, #[])from rfl]
  simp only[hf,hb]
  simp[hn]
 simp[G,stepG,unwind,Zac,callDeferred,hr,he,GStep.after,seen_none]
theorem Zqp {vs:Array Value} {X:Code} (HO:ZaY T I I' fid o2 o3 o4 o5 o6 o7 o8 o9 o10) (h38:Qv t (.tmp 38)= .func (.func fid) #[] vs):
  Zmd P (mkF b t ds (.inRegion o3 [1]:: .code X::k)) cs (mkF b t ds (.inRegion o3 []:: .code X::k)) (Zac P.funcs.size [{target:=.fn (.func fid) vs,args:= #[]}]):=by
 obtain⟨o,ho,hop,hd,hg⟩:=HO.a31.ok
 intro w
 refine⟨#[],?_,fun e he=>by simp at he⟩
 have hf:(mkF b t ds (.inRegion o3 [1]:: .code X::k)).finish undef=mkF b t ds (.inRegion o3 []:: .code X::k):=by
  rw[Xa,ho]
  show mkF b (ZZ t o.dst undef) ds _=_
  rw[hd]
  rfl
 have e:execOp (Qv t) o=pure (.spawn {target:=.fn (.func fid) vs,args:= #[]}):=by
  unfold execOp
  simp only[hop,resolve,h38,Deferred.ofValue]
  simp
 rw[Zcm ho (by simp[Region.wanted,hg]) (fun c=>by rw[hop];intro h;cases h),e,←hf]
 unfold stepG.apply
 have hk:=b.not_early
 simp[GStep.after,G,mkF,seen_none,hk,Zac]
end
section
variable {P:Program} {T I I':TypeId} {fid:FuncId} {o2 o3 o4 o5 o6 o7 o8 o9 o10:Array Oper}
theorem Zol {b:FB} {ds:List Deferred} {k:List Item} {cs:List Frame} {t:Array Value} {w:World} {i6 i7 i8 i9 i10 b0 b1:Nat} (HO:ZaY T I I' fid o2 o3 o4 o5 o6 o7 o8 o9 o10) (hsz:t.size=51):
  Steps P none (ZB (got (mkF b t ds (atR i6 i7 i8 i9 i10 b0 b1 o6 o7 o8 o9 o10 k [0,1]),cs) false false).1 (got (mkF b t ds (atR i6 i7 i8 i9 i10 b0 b1 o6 o7 o8 o9 o10 k [0,1]),cs) false false).2 w)
   (ZB (mkF b (ZZ (ZZ t (some 40) (.tuple #[.bool false,.bool false])) (some 41) (.bool false)) ds k) cs w):=by
 obtain⟨o,ho,hop,hd,hg⟩:=HO.a60.ok
 have e:got (mkF b t ds (atR i6 i7 i8 i9 i10 b0 b1 o6 o7 o8 o9 o10 k [0,1]),cs) false false=(mkF b (ZZ t (some 40) (.tuple #[.bool false,.bool false])) ds (atR i6 i7 i8 i9 i10 b0 b1 o6 o7 o8 o9 o10 k [1]),cs):=by
  unfold got atR
  rw[Xa,ho]
  show(mkF b (ZZ _ o.dst _) ds _,cs)=_
  rw[hd]
 rw[e]
 have e40:Qv (ZZ t (some 40) (.tuple #[.bool false,.bool false])) (.tmp 40)= .tuple #[.bool false,.bool false]:=Xg (by omega)
 unfold atR
 refine .head (ZeO (nv:=.value _) (v:=.bool false) (w':=w) HO.a61 (fun _ h=>by cases h) (fun o ho=>?_) (fun o ho=>?_) (.inl rfl)) ?_
 ·rw[Jl e40 rfl o ho]
  trivial
 ·rw[Jl (v:=.bool false) e40 rfl o ho]
  rfl
 refine .head YI (.head Zg9 (.head (ZkF (v:=false) ?_) (.head (ZkE ?_) (.refl _))))
 ·rw[ZbR]
  exact Xg (by simp only[Z2];omega)
 ·simp[exitTo]
theorem Ztu {R:RC} {t:Array Value} {y n:Int} (hsz:t.size=51) (h12:t.getD 12 undef= .int .i64 y) (h13:t.getD 13 undef= .int .i64 n):SL R (mkS 51 [(12,.int .i64 fun _=>y),(13,.int .i64 fun _=>n)]) t:=by
 refine⟨by rw[hsz];rfl,fun i a hi=>?_⟩
 by_cases e13:i=13
 ·subst e13
  have hi:some (AV.int .i64 fun _=>n)=some a:=hi
  cases hi
  rw[h13]
  exact .pure _ _ (.int _ _)
 by_cases e12:i=12
 ·subst e12
  have hi:some (AV.int .i64 fun _=>y)=some a:=hi
  cases hi
  rw[h12]
  exact .pure _ _ (.int _ _)
 have hi:(((List.replicate 51 AV.undef).set 12 (.int .i64 fun _=>y)).set 13 (.int .i64 fun _=>n))[i]? =some a:=hi
 rw[List.getElem?_set_ne (Ne.symm e13),List.getElem?_set_ne (Ne.symm e12),List.getElem?_replicate]at hi
 split at hi
 ·cases hi
  exact .undef _
 ·cases hi
theorem Zqo {p:Unit→Program} {nb:Nat} {K:Ex→List AV→List Zi→Cd→Prop} {s:List AV} {h:List Zi} {i2 i3 i4 i5 i6 i7 i8 i9 i10 b0 b1:Nat} {x11:Code} (HO:ZaY T I I' fid o2 o3 o4 o5 o6 o7 o8 o9 o10) {dr:ChanDir} {B:TypeId}
  (hU:(p ()).underlying T=some (.chan dr B)) (hT:∃i,(p ()).info? T=some i∧i.size=1∧i.zero=some (.chan none)) (hB:∃i,(p ()).info? B=some i∧i.zero=some (.bool false))
  {fn:Func} {body:Code} (hf:(p ()).funcs[fid]? =some fn) (hb:fn.body=some body) (hn:(fn.name== "runtime.NumGoroutine")=false) (hr:fn.results= #[]) (hlen:s.length=51) (hmain:h[0]? =some .main)
  {x4 x9 x10:AV} (h4:Qs true [] h 5 (s.getD 4 .undef)=x4) (h9:Qs true [] h 5 (s.getD 9 .undef)=x9) (h10:Qs true [] h 5 (s.getD 10 .undef)=x10) {L:List Bool} (child:KC (p ()) fid (fun ch=>[.iptr [.cch ch] 0,x4,x9,x10]) L)
  (rest:HP false nb p [.code x11] K (mkS 51 [(12,.int .i64 fun _=>cnt true L 0),(13,.int .i64 fun _=>cnt false L 0)]) h):
  HP false nb p [.code (.region i2 o2 false),.code (.seq (.region i3 o3 false) (.seq (.region i4 o4 false) (.seq (.seq (.region i5 o5 false) (.block b0 (.loop (lpB i6 i7 i8 i9 i10 b0 b1 o6 o7 o8 o9 o10)))) x11)))] K s h:=by
 refine⟨fun hK R₀ h₀ hnb R t hi hs b ds k cs hd=>?_⟩
 have hcx:R.cx=none:=hi.hr.blk 0 .main hmain
 have hsz:t.size=51:=hs.1.trans hlen
 have S1:=ZlI (P:=p ()) (b:=b.1) (ds:=ds) (k:=k) (cs:=cs) (t:=t) (i2:=i2) (i3:=i3) (X:=.seq (.region i4 o4 false) (.seq (.seq (.region i5 o5 false) (.block b0 (.loop (lpB i6 i7 i8 i9 i10 b0 b1 o6 o7 o8 o9 o10)))) x11)) HO hU hT (hB.imp fun _ h=>h.1) hsz R.w
 generalize hvs:(#[.pointer (some ⟨R.w.heap.size+1,0,none⟩),t.getD 4 undef,t.getD 9 undef,t.getD 10 undef]:Array Value)=vs at S1
 generalize ht3:ZZ (ZZ (ZZ t (some 37) (.chan (some R.w.heap.size))) (some 11) (.pointer (some ⟨R.w.heap.size+1,0,none⟩))) (some 38) (.func (.func fid) #[] vs)=t3 at S1
 have hsz3:t3.size=51:=by rw[←ht3];simp only[Z2];exact hsz
 have h38:Qv t3 (.tmp 38)= .func (.func fid) #[] vs:=by rw[←ht3];exact Xg (by simp only[Z2];omega)
 have h11:t3.getD 11 undef= .pointer (some ⟨R.w.heap.size+1,0,none⟩):=by rw[←ht3];exact(QF (by decide)).trans (Yl (by simp only[Z2];omega))
 have h37:t3.getD 37 undef= .chan (some R.w.heap.size):=by rw[←ht3];exact(QF (by decide)).trans ((QF (by decide)).trans (Yl (by omega)))
 have hgo:=Zqp (P:=p ()) (b:=b.1) (ds:=ds) (k:=k) (cs:=cs) (X:=.seq (.region i4 o4 false) (.seq (.seq (.region i5 o5 false) (.block b0 (.loop (lpB i6 i7 i8 i9 i10 b0 b1 o6 o7 o8 o9 o10)))) x11)) HO h38
 obtain⟨hkf,hE⟩:=ZlJ (P:=p ()) (ch:=R.w.heap.size) (cell:=R.w.heap.size+1) (b:=b.1) (ds:=ds) (k:=k) (cs:=cs) HO hU hB (t:=t3) (by omega) h11 h37 rfl hgo
 obtain⟨R₃,r1,r2,r3,r4,r5,r6⟩:=ZoN hi.hr T
 have hrow:XZ R₃ [.iptr [.cch R.w.heap.size] 0,x4,x9,x10] vs:=by
  subst hvs
  refine⟨rfl,fun j c hj=>?_⟩
  match j,hj with
  |0,hj=>cases hj;exact r6
  |1,hj=>
   cases hj
   rw[←h4]
   exact r5 5 _ _ (hs.getD 4)
  |2,hj=>
   cases hj
   rw[←h9]
   exact r5 5 _ _ (hs.getD 9)
  |3,hj=>
   cases hj
   rw[←h10]
   exact r5 5 _ _ (hs.getD 10)
  |j+4,hj=>simp at hj
 obtain⟨tc,todo,wc,sc,rc,tmc,ts,ty,c,g1,g2,g3,g4,g5,g6,g7⟩:=child.run R.w.heap.size R₃ vs r4 r2 r3 hrow [Zac (p ()).funcs.size []]
 rw[r1]at g1 g3 g4 g5 g6 g7
 have hFz:Fz (R.w.heap.size+1) (wCh R.w (.chan (some R.w.heap.size)) T (0,1)) (wCh R.w (.chan (some R.w.heap.size)) T (0,0)):=by
  refine⟨rfl,rfl,rfl,rfl,by rw[Zba,Zba],fun j hj=>?_,_,T,(0,0),ZcA,ZcA⟩
  exact ZkN (by simpa using hj)
 obtain⟨w',hw',S2⟩:=Zoq (P:=p ()) hkf hgo hE Zmp Zda (by omega) (fun main w=>Zj0 hf hb hn vs main w) hFz g1 g2 (ZoS hf hr)
 have S3:=Zol (P:=p ()) (b:=b.1) (ds:=ds) (k:=.code x11::k) (cs:=cs) (t:=L.foldl stp (st0 R.w.heap.size t3)) (w:=w'.setChan R.w.heap.size 0 #[] true sc sc tmc) (i6:=i6) (i7:=i7) (i8:=i8) (i9:=i9) (i10:=i10) (b0:=b0) (b1:=b1) HO ((ZhE (by omega) h11 L).size.trans hsz3)
 have hst:=ZhE (ch:=R.w.heap.size) (cell:=R.w.heap.size+1) (t:=t3) (by omega) h11 L
 generalize htz:ZZ (ZZ (L.foldl stp (st0 R.w.heap.size t3)) (some 40) (.tuple #[.bool false,.bool false])) (some 41) (.bool false)=tz at S3
 have hszz:tz.size=51:=by rw[←htz];simp only[Z2];exact hst.size.trans hsz3
 have hz12:tz.getD 12 undef= .int .i64 (cnt true L 0):=by rw[←htz];exact(QF (by decide)).trans ((QF (by decide)).trans hst.c12)
 have hz13:tz.getD 13 undef= .int .i64 (cnt false L 0):=by rw[←htz];exact(QF (by decide)).trans ((QF (by decide)).trans hst.c13)
 generalize hwz:w'.setChan R.w.heap.size 0 #[] true sc sc tmc=wz at S2 S3
 have hheap:∀b,b<R.w.heap.size→wz.heap[b]? =R.w.heap[b]? :=fun b hb=>by
  rw[←hwz]
  show(w'.heap.setIfInBounds R.w.heap.size _)[b]? =_
  rw[Array.getElem?_setIfInBounds_ne (by omega),hw'.ne b (by omega)]
  exact(g3 b (by rw[Zba];omega) (by omega)).trans (Zjr hb)
 have hsize:R.w.heap.size≤wz.heap.size:=by
  rw[←hwz]
  show _≤(w'.heap.setIfInBounds R.w.heap.size _).size
  rw[Array.size_setIfInBounds,hw'.size]
  rw[Zba]at g4
  exact Nat.le_trans (by omega) g4
 have hos:wz.os=R.w.os:=by rw[←hwz];exact hw'.os.trans g5
 have htape:wz.tape=R.w.tape:=by rw[←hwz];exact hw'.tape.trans g6
 have hout:wz.output=R.w.output:=by rw[←hwz];exact hw'.output.trans g7
 let R':RC:={R with w:=wz,ok:=fun b o n=>b<wz.heap.size∧Gof R₀ h₀ b o n∧ZfZ R h b o n}
 have hok:∀b o n,R.ok b o n→R'.ok b o n:=fun b o n k=>by
  obtain⟨h1,h2,h3⟩:=(hi.hr.okd _ _ _).1 k
  exact⟨by omega,h2,h3⟩
 have hkeep:∀b o n,R.ok b o n→∀j,j<n→R'.w.cell? ⟨b,o+j,none⟩=R.w.cell? ⟨b,o+j,none⟩:=fun b o n k j hj=>Zi2 (hheap b ((hi.hr.okd _ _ _).1 k).1) _
 have hle:R.le R':=⟨Nat.le_refl _,fun _ _=>rfl,fun _ _=>⟨Int.le_refl _,fun _=>rfl⟩,fun _ _=>.refl _,hok,hkeep,fun b k es clk e=>(hheap b ((hi.hr.okd _ _ _).1 k).1).trans e,rfl⟩
 have hH:HR (Gof R₀ h₀) R' h:=⟨hi.hr.len,fun _ _ _=>Iff.rfl,fun id blk hid=>(hi.hr.blk id blk hid).mono hle rfl rfl rfl rfl fun b hp=>hheap b (hi.hr.phys_lt hid hp),hi.hr.dis,hi.hr.cl,fun b o n hb=>hi.hr.fresh b o n (Nat.le_trans hsize hb),hi.hr.tokG,hi.hr.n0m⟩
 have hx:Xf R h R' h:=⟨rfl,hos,htape,hout,hsize,Nat.le_refl _,fun _ _=>rfl,hok,hkeep,fun b hb _=>hheap b hb,fun id blk b hid hp=>.inr ⟨id,blk,hid,hp,.inl rfl⟩⟩
 have hi':JG R₀ h₀ R' h:=hi.step hH hx hle
 obtain⟨e,s',h',R'',t',ds',a1,a2,a5,a6,a7,a8⟩:=rest.run hK R₀ h₀ hnb R' tz hi' (Ztu hszz hz12 hz13) b ds k cs (hd.ext hi.hr hx)
 refine⟨e,s',h',R'',t',ds',a1,a2,a5,a6,a7,?_⟩
 have hcx':R'.cx=none:=hcx
 rw[hcx']at a8
 rw[hcx]
 exact Arr.of_steps (Steps.trans S1 (Steps.trans S2 S3)) a8
end
end Go.Proofs.YtjgpiclllehgmaaGreat.Vm
namespace Go.Proofs.YtjgpiclllehgmaaGreat.Vm
open Go Go.Conc Go.Proofs Go.Proofs.YtjgpiclllehgmaaGreat.Conc1
def ZoO (ch:Nat) (L:List Bool) (e:Ex) (s:List AV) (h:List Zi) (c:Cd):Prop:=match e with
 |.exit _=>False
 |_=>chk c (∃h2,h= .gob (.chq ch fun _=>L)::h2)
theorem ZgP {ch:Nat} {L:List Bool} {e:Ex} {s:List AV} {h:List Zi} {c:Cd} (H:ZoO ch L e s h c):ZN c∧(∀id,e≠ .exit id)∧∃h2,h= .gob (.chq ch fun _=>L)::h2:=by
 cases e with
 |exit id=>exact H.elim
 |normal=>exact⟨(Z1 H).1,(fun _ h=>by cases h),(Z1 H).2⟩
 |ret=>exact⟨(Z1 H).1,(fun _ h=>by cases h),(Z1 H).2⟩
theorem Zhf {P:Program} {T:TypeId} {dr:ChanDir} {B:TypeId} {w:World} {a:Addr} {v:Value} (hU:P.underlying T=some (.chan dr B)) (hw:w.cell? a=some v):(Instr.loadAt T (.pointer (some a))).run P w= .ok v w:=by
 have h1:(isAgg T).run P w= .ok false w:=by
  unfold isAgg
  have:=Ze0 (w:=w) (es:= #[]) hU
  rw[Sem.runT_eq]at this
  have h:(underlying T).run P w= .ok (.chan dr B) w:=congrArg Prod.fst this
  rw[Sem.run_bind,h,Result.andThen_ok]
  rfl
 simp only[Instr.loadAt,Instr.sureAddr,Sem.run_bind,Sem.run_pure,Result.andThen_ok,loadVar,h1,Bool.false_eq_true,if_false]
 simp[load,Sem.run,hw]
theorem ZoM {p:Unit→Program} {fid:FuncId} {fn:Func} {i0:Nat} {o0:Array Oper} {x1:Code} {T:TypeId} {dr:ChanDir} {B:TypeId} {ts:Array TypeId} {L:List Bool} {ys:List AV} (hf:(p ()).funcs[fid]? =some fn) (hb:fn.body=some (.seq (.region i0 o0 false) x1)) (hs0:List.range o0.size=[0,1])
  (a0:Jd o0 0 (some 6) (.load T (.tmp 0))) (a1:Jd o0 1 none (.defer {callee:=.builtin .close,args:= #[.tmp 6],argTypes:=ts})) (hU:(p ()).underlying T=some (.chan dr B)) (hnt:6<fn.ntmps)
  (H:∀ch,HP false 1 p [.code x1] (ZoO ch L) ((entry fn.ntmps (.iptr [.cch ch] 0::ys)).set 6 (.cch ch)) [.gob (.chq ch fun _=>[])]):KC (p ()) fid (fun ch=>.iptr [.cch ch] 0::ys) L:=by
 refine⟨fun ch R vs HH hcx hn0 ha cs=>?_⟩
 obtain⟨ha1,ha2⟩:=ha
 have hfr:Frame.enter (p ()) fid vs .deferred=mkF ⟨fid,true,none,[]⟩ (vs++Array.replicate (fn.ntmps-vs.size) undef) [] [.code (.seq (.region i0 o0 false) x1)]:=by
  simp[Frame.enter,mkF,FB.kind,hf,hb]
 have hsl:SL R (entry fn.ntmps (.iptr [.cch ch] 0::ys)) (vs++Array.replicate (fn.ntmps-vs.size) undef):=by
  refine⟨by simp[entry,←ha1];omega,fun i a hi=>?_⟩
  rw[entry,List.getElem?_append]at hi
  split at hi
  ·rename_i hlt
   have:=ha2 i a hi
   rw[Array.getD_eq_getD_getElem?]at this⊢
   rw[Array.getElem?_append_left (by omega)]
   exact this
  ·rw[List.getElem?_replicate]at hi
   split at hi
   ·cases hi
    exact .undef _
   ·cases hi
 generalize ht:vs++Array.replicate (fn.ntmps-vs.size) undef=t at hfr hsl
 have hv0:∃a:Addr,t.getD 0 undef= .pointer (some a)∧R.w.cell? a=some (.chan (some ch)):=by
  have h0:=hsl.getD 0
  have h0:VR R (.iptr [.cch ch] 0) (t.getD 0 undef):=h0
  generalize t.getD 0 undef=v at h0
  cases h0 with
  |pure _ _ hp=>
   cases hp with
   |iptr _ _ b o us h1 h2 h3=>
    have e:=h1 0 _ rfl
    have e2:=h2 0 _ rfl
    refine⟨_,rfl,?_⟩
    cases hu:us 0 with
    |chan c=>
     rw[hu]at e2 e
     cases e2
     exact e
    |_=>rw[hu]at e2;cases e2
 obtain⟨a,hv0,hcell⟩:=hv0
 have hsz:6<t.size:=by
  have:=hsl.1
  rw[this]
  simp only[entry,List.length_append,List.length_replicate]
  omega
 have hno:(⟨fid,true,none,[]⟩:FB).roundOf=none:=rfl
 obtain⟨o,ho,hop,hdst,hg⟩:=a1.ok
 let t1:=ZZ t (some 6) (.chan (some ch))
 let D:=ZhQ ts o.type #[false] ch
 have S0:StepsC (p ()) (some ch) (ZB (mkF ⟨fid,true,none,[]⟩ t [] [.code (.seq (.region i0 o0 false) x1)]) cs R.w) (ZB (mkF ⟨fid,true,none,[]⟩ t1 [] [.inRegion o0 [1],.code x1]) cs R.w):=by
  refine .head Zg9 (.head ZbM ?_)
  rw[hs0]
  refine .one (ZeO (nv:=.value _) (v:=.chan (some ch)) (w':=R.w) a0 (fun _ h=>by cases h) (fun o ho=>?_) (fun o ho=>?_) (.inl rfl))
  ·unfold execOp
   simp only[ho]
   exact Zh (fun _=>Zd4) fun _ _=>Zl
  ·have e:Qv t (.tmp 0)= .pointer (some a):=hv0
   unfold execOp
   simp only[ho,e,Sem.run_bind,Zhf hU hcell,Result.andThen_ok,Sem.run_pure]
 have S1:One (p ()) (some ch) (ZB (mkF ⟨fid,true,none,[]⟩ t1 [] [.inRegion o0 [1],.code x1]) cs R.w) (ZB (mkF ⟨fid,true,none,[]⟩ t1 [D] [.inRegion o0 [],.code x1]) cs R.w):=by
  refine QZ fun main w=>?_
  have e6:Qv t1 (.tmp 6)= .chan (some ch):=Xg hsz
  have e:execOp (Qv t1) o=pure (.defer D):=by
   unfold execOp
   simp only[hop,resolve,List.map_toArray,List.map_cons,List.map_nil,e6]
   rfl
  have hop2:(mkF ⟨fid,true,none,[]⟩ t1 [] [.inRegion o0 [1],.code x1]).oper?=some o:=by simp[Frame.oper?,mkF,ho]
  have he:(mkF ⟨fid,true,none,[]⟩ t1 [] [.inRegion o0 [1],.code x1]).eval=Qv t1:=ZbR _
  have h2:stepG (p ()) main (G (mkF ⟨fid,true,none,[]⟩ t1 [] [.inRegion o0 [1],.code x1]) cs) w=stepG.oper (p ()) true (mkF ⟨fid,true,none,[]⟩ t1 [] [.inRegion o0 [1],.code x1]) cs none w:=by
   simp[stepG,stepG.exec,mkF,G,ho,Region.wanted,hg]
  rw[h2]
  unfold stepG.oper
  simp only[hop2,he,e]
  unfold stepG.apply
  have hk:(mkF ⟨fid,true,none,[]⟩ t1 [D] [.inRegion o0 [1],.code x1]).finish undef=mkF ⟨fid,true,none,[]⟩ t1 [D] [.inRegion o0 [],.code x1]:=by
   rw[Xa,ho]
   show mkF _ (ZZ t1 o.dst undef) _ _=_
   rw[hdst]
   rfl
  rw[←hk]
  simp[GStep.after,G,mkF,seen_none,FB.kind]
 have S2:One (p ()) (some ch) (ZB (mkF ⟨fid,true,none,[]⟩ t1 [D] [.inRegion o0 [],.code x1]) cs R.w) (ZB (mkF ⟨fid,true,none,[D]⟩ t1 [D] ([.code x1]++[])) cs R.w):=YI
 have hn0':([.gob (.chq ch fun _=>[])]:List Zi).length≤R.n0:=by rw[hn0];exact Nat.le_refl 1
 have hsl1:SL R ((entry fn.ntmps (.iptr [.cch ch] 0::ys)).set 6 (.cch ch)) t1:=hsl.set (.pure _ _ (.cch ch)) 6
 obtain⟨e,s',h',R',t',ds',⟨c,hk⟩,hi,hs,hd,_,hA⟩:=(H ch).run (fun e s h c hk=>(ZgP hk).1) R [.gob (.chq ch fun _=>[])] (by rw[hn0];exact Nat.le_refl 1) R t1 (JG.refl HH hn0') hsl1 ⟨⟨fid,true,none,[D]⟩,fun _=>rfl⟩ [D] [] cs ⟨[],rfl,List.nodup_nil,fun r hr=>by cases hr⟩
 obtain⟨hc,hne,h2,rfl⟩:=ZgP hk
 rw[hcx]at hA
 have hret:∃todo,Steps (p ()) (some ch) (ZB (mkF ⟨fid,true,none,[D]⟩ t1 [D] ([.code x1]++[])) cs R.w) (ZB {mkF ⟨fid,true,none,[D]⟩ t' ds' todo with mode:=.returning} cs R'.w):=by
  cases e with
  |exit id=>exact absurd rfl (hne id)
  |normal=>exact⟨[],Steps.trans hA (.one (ZnO rfl))⟩
  |ret=>
   obtain⟨todo,hA⟩:=hA
   exact⟨.code .ret::todo,Steps.trans hA (.one (ZnL rfl))⟩
 obtain⟨todo,hst⟩:=hret
 obtain⟨rs,rfl,hnd,hrs⟩:=hd
 obtain⟨R2,hi2,hle2,hst2⟩:=Zcl (P:=p ()) (b:=⟨fid,true,none,[D]⟩) (base:=[D]) (t:=t') (todo:=todo) (cs:=cs) rs R' hnd hi hrs
 have hcx2:R'.cx=some ch:=hi.le.cx.trans hcx
 rw[hcx2]at hst2
 obtain⟨ob,hob,_,hq,_,sN,rN,tmN,rfl⟩:=hi2.hr.blk 0 _ rfl
 have hα:(R2.α 0).b=(R.α 0).b:=by
  have:R2.α 0=R.α 0:=hi2.le.α 0 (by rw[←HH.len];exact Nat.zero_lt_one)
  rw[this]
 refine⟨t',todo,R2.w,sN,rN,tmN,ts,o.type, #[false],?_,?_,fun b hb hne=>?_,hi2.ext.size,hi2.ext.os,hi2.ext.tape,hi2.ext.output⟩
 ·rw[hfr]
  exact S0.trans (.head S1 (.head S2 (hst.trans hst2)))
 ·rw[←hq]
  exact hob
 ·refine hi2.ext.frame b hb fun id blk hid hp=>?_
  cases id with
  |zero=>
   cases hid
   have hp:(R.α 0).b=b:=hp
   rw[←hα,hq]at hp
   exact hne hp.symm
  |succ id=>simp at hid
attribute [local irreducible] Dn
open Go Go.Proofs Sp
set_option maxRecDepth 100000
set_option maxHeartbeats 4000000
def Zcg (t:Ze) (f r st:Int):Nat→List Bool
 |0=>[]
 |i+1=>Zcg t f r st i++[Y2 t f r st i]
theorem Zup (t:Ze) (f r st:Int) (hw:ZA t) (hc:ZdO t f r st):KC Tryz.prog 151 (fun ch=>.iptr [.cch ch] 0::[XM t,.iptr [.int .i64 fun _=>f,.int .i64 fun _=>Qc (Sp.Zo (callsOf t) f) st] 0,.iptr [.int .i64 fun _=>r,.int .i64 fun _=>Z7 (Sp.Zo (callsOf t) r) st] 0]) (Zcg t f r st (ZO t)):=by
 obtain⟨nt,hnt⟩:=Zs
 have k382:=ZlZ t
 have k435:=fun B0 B1 B2 B3 B4 B5 stop=>ZlY t hw B0 B1 B2 B3 B4 B5 stop
 have hl1:=fun x=> @Zaj t x _ _ hc.1
 have hl2:=fun x=> @Zaj t x _ _ hc.2
 have hkb:∀i,Y2 t f r st i=decide ((ZU t (Zj t i) f (Qc (Sp.Zo (callsOf t) f) st)).comes≤(ZU t (Zj t i) r (Z7 (Sp.Zo (callsOf t) r) st)).goes):=fun _=>rfl
 have hL0:Zcg t f r st 0=[]:=rfl
 have hLS:∀i,Zcg t f r st (i+1)=Zcg t f r st i++[Y2 t f r st i]:=fun _=>rfl
 generalize Zcg t f r st=KL at*
 generalize Y2 t f r st=KB at*
 generalize Qc (Sp.Zo (callsOf t) f) st=fo at*
 generalize Z7 (Sp.Zo (callsOf t) r) st=to at*
 generalize ZU t=HH at*
 generalize Zj t=TA at*
 generalize Qe t=HL at*
 refine ZoM (p:=fun _=>Tryz.prog) (dr:=.both) (B:=4) Tryz.func151 (show Tryz.f151.body=_ from rfl) rfl ⟨_,rfl,rfl,rfl,rfl⟩ ⟨_,rfl,rfl,rfl,rfl⟩ (by kernel_rfl) (by decide) fun ch=>?_
 unfold XM ZT at*
 simp only[Za hnt,Zb,ZE]at*
 refine Zd9 false false [] [] false ?_
 refine wS ?_
 refine ZS (k382) (by first|rfl|(simp only[Zd,Zc,Zf,Zb,Za hnt];rfl)) fun r h₂ hp=>?_
 (try simp only[Zd,Zc,Zf,Zb,Za hnt]at hp)
 obtain⟨rfl,rfl⟩:=hp
 refine wS ?_
 refine Zcn [0,2,3,8] [.tok 1 fun _=>0,.tok 1 fun _=>0,.tok 1 fun _=>0,.tok 1 fun _=>0] [(0,.gob (.chq ch fun _=>KL 0))] (fid:=135) (first:=[]) ?_ rfl ?_ ?_
 ·rw[hL0]
  (refine To.of [(1,false),(1,false),(1,false),(1,false)] ?_;cbv;(try simp only[nc]);(repeat' (first|exact trivial|exact ZD.refl _|exact ZL.refl _|refine⟨?_,?_⟩|refine ZL.cells ?_|refine ZD.agg ?_|refine ZD.tup ?_));(all_goals (first|exact X9|skip)))
 ·exact Xm
 refine SC.mono (k435 (fun i=>.gob (.chq ch fun _=>KL i)) (fun _=>_) (fun _=>_) (fun _=>_) (fun _=>_) (fun _=>_) (fun _=>false) ?_ ?_ ?_ ?_ ?_ ?_ ?_) ?_
 iterate 6 exact fun i=>Ql.of rfl
 ·intro i hi hno
  have e1:(((HL (TA i)).lookup [f,fo]).getD []).headD 0=(HH (TA i) f fo).comes:=by rw[hl1];rfl
  have e2:(((HL (TA i)).lookup [r,to]).getD []).tail.tail.headD 0=(HH (TA i) r to).goes:=by rw[hl2];rfl
  refine YC.less (Zat false false [] rfl rfl ?_)
  refine wS ?_
  simp only[e1,e2,←hkb,←hLS]
  refine⟨.bool fun _=>true,_,?_,rfl,rfl⟩
  exact ZI
 ·intro v h hh
  obtain⟨m,hm,rfl⟩:=hh
  have hmN:m=ZO t:=by
   rcases hm with h|⟨_,_,_,h,_⟩
   ·exact h.1
   ·cases h
  subst hmN
  refine wS ?_
  exact⟨_,rfl⟩
theorem ZkU {o:Option TypeInfo} {n:Nat} {z:Option Value} (h:o.map (fun i=>(i.size,i.zero))=some (n,z)):∃i,o=some i∧i.size=n∧i.zero=z:=by
 cases o with
 |none=>cases h
 |some i=>
  have h:some (i.size,i.zero)=some (n,z):=h
  simp only[Option.some.injEq,Prod.mk.injEq]at h
  exact⟨i,rfl,h.1,h.2⟩
theorem ZfI (w v:Bool):∀(l:List Bool) (n:Int),cnt w (l++[v]) n=if v=w then IntKind.i64.wrap (cnt w l n+1)else cnt w l n
 |[],_=>rfl
 |x::l,n=>ZfI w v l _
theorem ZeI {x:Int} (h:0≤x∧x<1000000):IntKind.i64.wrap x=x:=Za8 x ⟨by omega,by omega⟩
theorem ZkO {ds:List Qn} (h:∀d∈ds,d.by_.length≤3):∀m,m≤ds.length→X8 ds m≤3^ m
 |0,_=>Nat.le_refl _
 |m+1,hm=>by
  unfold X8
  rw[Nat.pow_succ]
  refine Nat.mul_le_mul (ZkO h m (by omega)) ?_
  unfold lenAt
  rw[List.getD_eq_getElem?_getD,List.getElem?_eq_getElem hm]
  exact h _ (List.getElem_mem hm)
theorem Zqj {t:Ze} (hw:ZA t):ZO t≤729:=by
 have h:=ZkO (fun d hd=>(hw.d d hd).2.1) t.delays.length (Nat.le_refl _)
 have h2:3^ t.delays.length≤3^ 6:=Nat.pow_le_pow_right (by omega) hw.dlen
 exact Nat.le_trans h (Nat.le_trans h2 (by decide))
theorem ZfG (p:Nat→Bool):∀n,0≤Qh p n∧Qh p n≤n
 |0=>⟨Int.le_refl _,Int.le_refl _⟩
 |n+1=>by
  have:=ZfG p n
  unfold Qh
  split<;>omega
theorem ZoK (t:Ze) (f r st:Int):∀n,n≤729→cnt true (Zcg t f r st n) 0=Qh (Y2 t f r st) n∧cnt false (Zcg t f r st n) 0=Qh (fun i=> !Y2 t f r st i) n
 |0,_=>⟨rfl,rfl⟩
 |n+1,h=>by
  have ih:=ZoK t f r st n (by omega)
  have b1:=ZfG (Y2 t f r st) n
  have b2:=ZfG (fun i=> !Y2 t f r st i) n
  unfold Zcg
  rw[ZfI,ZfI,ih.1,ih.2,ZeI (by omega),ZeI (by omega)]
  have e1:∀p,Qh p (n+1)=if p n then Qh p n+1 else Qh p n:=fun _=>rfl
  rw[e1,e1]
  cases Y2 t f r st n<;>exact⟨rfl,rfl⟩
theorem ZuO (t : Ze) (f r st : Int) (hw : ZA t) (hc : ZdO t f r st) : SC (fun _ => Tryz.prog) 97 [.iptr (ZT t) 0, .int .i64 fun _ => f, .int .i64 fun _ => r, .int .i64 fun _ => st] [.main] fun v h => v = .int .i64 (fun _ => Zfq t f r st) ∧ h = [.main] := by
  obtain ⟨nt, hnt⟩ := Zs
  have h1 := hc.1
  have h2 := hc.2
  have hro1 := (Jo hw.calls h1).2.2
  have hro2 := (Jo hw.calls h2).2.2
  unfold StopIn at h1 h2
  rw [JT hnt] at h1 h2 hro1 hro2
  have k395 := ZsF (nt (List Sp.Call) [] (callsOf t) f) st (by omega)
  have k396 := ZtV (nt (List Sp.Call) [] (callsOf t) r) st (by omega)
  have hcl := hw.calls.len
  have kc := Zup t f r st hw hc
  obtain ⟨hy, hn⟩ := ZoK t f r st (ZO t) (Zqj hw)
  have hV : Zfq t f r st = JJ (Qh (Y2 t f r st) (ZO t)) (Qh (fun i => !Y2 t f r st i) (ZO t)) := rfl
  have k416 := ZtS (Qh (Y2 t f r st) (ZO t)) (Qh (fun i => !Y2 t f r st i) (ZO t))
  rw [← hV] at k416
  rw [JT hnt, JT hnt] at kc
  generalize Zfq t f r st = V at *
  generalize Qh (Y2 t f r st) (ZO t) = CY at *
  generalize Qh (fun i => !Y2 t f r st i) (ZO t) = CN at *
  generalize Zcg t f r st (ZO t) = KL at *
  unfold XM at kc
  unfold ZT at *
  simp only [Za hnt, Zb, ZE] at *
  generalize Qc (nt (List Sp.Call) [] (callsOf t) f) st = fo at *
  generalize Z7 (nt (List Sp.Call) [] (callsOf t) r) st = to at *
  refine SC.less (Zsz false false [] [2] false 1 Tryz.func97 (body := Zk Tryz.f97) rfl (by decide +kernel) rfl ?_)
  refine vS ?_
  repeat' first
    | (with_reducible refine Zmc.mk ?_ ?_)
    | (with_reducible refine Chk.mk (Qa) ?_)
    | (refine ZS k395 (by first | rfl | (simp only [Zd, Zc, Zf, Zb, Za hnt]; rfl)) fun r h₂ hp => ?_
       obtain ⟨rfl, rfl⟩ := hp
       refine vS ?_)
    | (refine ZS k396 (by first | rfl | (simp only [Zd, Zc, Zf, Zb, Za hnt]; rfl)) fun r h₂ hp => ?_
       obtain ⟨rfl, rfl⟩ := hp
       refine vS ?_)
  all_goals
    refine Zqo (p := fun _ => Tryz.prog) (dr := .both) (B := 4) ⟨rfl, rfl, rfl, rfl, rfl, rfl, rfl, rfl, rfl, ⟨_, rfl, rfl, rfl, rfl⟩, ⟨_, rfl, rfl, rfl, rfl⟩, ⟨_, rfl, rfl, rfl, rfl⟩, ⟨_, rfl, rfl, rfl, rfl⟩, ⟨_, rfl, rfl, rfl, rfl⟩, ⟨_, rfl, rfl, rfl, rfl⟩, ⟨_, rfl, rfl, rfl, rfl⟩, ⟨_, rfl, rfl, rfl, rfl⟩, ⟨_, rfl, rfl, rfl, rfl⟩, ⟨_, rfl, rfl, rfl, rfl⟩, ⟨_, rfl, rfl, rfl, rfl⟩, ⟨_, rfl, rfl, rfl, rfl⟩, ⟨_, rfl, rfl, rfl, rfl⟩, ⟨_, rfl, rfl, rfl, rfl⟩, ⟨_, rfl, rfl, rfl, rfl⟩, ⟨_, rfl, rfl, rfl, rfl⟩, ⟨_, rfl, rfl, rfl, rfl⟩, ⟨_, rfl, rfl, rfl, rfl⟩, ⟨_, rfl, rfl, rfl, rfl⟩⟩ (by kernel_rfl) (ZkU (by kernel_rfl)) ((ZkU (n := 1) (z := some (.bool false)) (by kernel_rfl)).imp fun i h => ⟨h.1, h.2.2⟩)
      Tryz.func151 rfl (by decide +kernel) rfl rfl rfl rfl rfl rfl kc ?_
    rw [hy, hn]
    refine Zd9 false false [] [] false ?_
    refine wS ?_
    refine ZS (k416) (by first | rfl | (simp only [Zd, Zc, Zf, Zb, Za hnt]; rfl)) fun r h₂ hp => ?_
    (try simp only [Zd, Zc, Zf, Zb, Za hnt] at hp)
    obtain ⟨rfl, rfl⟩ := hp
    refine wS ?_
    refine ⟨_, _, ?_, rfl, rfl⟩
    exact ZI
theorem PR.nilw {w:World} {ok:Nat→Nat→Nat→Prop} {s s':Nat} {m m':Unit→Int} {f f':(Unit→Int)→List AV} {v:Value} (h:PR w ok (.isl s m f .nil) v) (hm:m' ()=0):PR w ok (.isl s' m' f' .none) v:=by
 cases h with
 |isl0 _ _ _ _ hz h1=>exact .isl0 _ _ _ _ hm rfl
 |islE _ _ _ _ a hz h1=>exact .islE _ _ _ _ a hm (.inl rfl)
 |isl _ _ _ _ b o len cap us hn hc h1=>rcases h1 with h|h<;>cases h
theorem Zt1 (m:Int):SC (fun _=>Tryz.prog) 69 [.int .i64 fun _=>m] [] fun v h=>v=Zf (Z5 m)∧h=[]:=by
 obtain⟨nt,hnt⟩:=Zs
 have k1:=Zkm 0 0 60
 have k2:=Zkm 1 100 110
 have k3:=Zkm 2 160 0
 have k4:=Zkm 1 0 120
 have k5:=Zkm 3 200 0
 have k6:=Zkm 1 0 180
 have k7:=Zkm 3 260 0
 refine SC.less (QP Tryz.func69 (body:=Zk Tryz.f69) rfl (by decide+kernel) ?_)
 refine wS ?_
 refine ZoQ (k1) ?_
 refine wS ?_
 refine ZoQ (k2) ?_
 refine wS ?_
 refine ZoQ (k3) ?_
 refine wS ?_
 refine ZoQ (k4) ?_
 refine wS ?_
 refine ZoQ (k5) ?_
 refine wS ?_
 refine ZoQ (k6) ?_
 refine wS ?_
 refine ZoQ (k7) ?_
 refine wS ?_
 refine⟨Zf (Z5 m),[],?_,rfl,rfl⟩
 unfold Zf
 simp only[Za hnt,encTrain,encZone,ZE]
 (refine To.of [] ?_;cbv;(try simp only[nc]);(repeat' (first|exact trivial|exact ZD.refl _|exact ZL.refl _|refine⟨?_,?_⟩|refine ZL.cells ?_|refine ZD.agg ?_|refine ZD.tup ?_));(all_goals (first|exact X9|skip)))
 ·refine ZjX hnt (fun z:Sp.Zone=>[.int .i64 fun _=>z.base,.isl 2 (fun _=>(z.chs.length:Int)) (fun e=>ZbA (nt Chg default z.chs (e ()))) .none]) default [⟨0,[]⟩] _ ?_ fun i hi=>?_
  ·rfl
  match i,hi with
  |0,_=>exact Y5.two fun w ok v h=>h.nilw rfl
 ·refine ZjX hnt (fun t:Sp.Train=>[.int .i64 fun _=>t.number,.int .i64 fun _=>t.days,.isl 4 (fun _=>(t.stops.length:Int)) (fun e=>Q0 (nt Stop default t.stops (e ()))) .none]) default (Z5 m).book.old _ ?_ fun i hi=>?_
  ·rfl
  match i,hi with
  |0,_=>
   refine Y5.three fun w ok v h=>h.wk rfl (fun j hj=>?_) (.inl rfl)
   match j,hj with
   |0,_=>(rw[hnt];rfl)
   |1,_=>(rw[hnt];rfl)
   |2,_=>(rw[hnt];rfl)
   |j+3,hj=>exact absurd hj (by show¬((j+3:Nat):Int)<3;omega)
  |1,_=>
   refine Y5.three fun w ok v h=>h.wk rfl (fun j hj=>?_) (.inl rfl)
   match j,hj with
   |0,_=>(rw[hnt];rfl)
   |1,_=>(rw[hnt];rfl)
   |j+2,hj=>exact absurd hj (by show¬((j+2:Nat):Int)<2;omega)
  |2,_=>
   refine Y5.three fun w ok v h=>h.wk rfl (fun j hj=>?_) (.inl rfl)
   match j,hj with
   |0,_=>(rw[hnt];rfl)
   |1,_=>(rw[hnt];rfl)
   |j+2,hj=>exact absurd hj (by show¬((j+2:Nat):Int)<2;omega)
 ·refine ZjX hnt (fun t:Sp.Qn=>[.int .i64 fun _=>t.run,.int .i64 fun _=>t.leg,.isl 1 (fun _=>(t.by_.length:Int)) (fun e=>XC (nt Int 0 t.by_ (e ()))) .none]) default (Z5 m).delays _ ?_ fun i hi=>?_
  ·rfl
  match i,hi with
  |0,_=>
   refine Y5.three fun w ok v h=>h.wk rfl (fun j hj=>?_) (.inl rfl)
   match j,hj with
   |0,_=>(rw[hnt];rfl)
   |1,_=>(rw[hnt];rfl)
   |2,_=>(rw[hnt];rfl)
   |j+3,hj=>exact absurd hj (by show¬((j+3:Nat):Int)<3;omega)
theorem ZuS (l:List Sp.Zes) (hlen:l.length≤100000):SC (fun _=>Tryz.prog) 26 [lst 2 Qz default l,lst 2 Qz default l] [] fun v h=>v= .bool (fun _=>true)∧h=[]:=by
 obtain⟨nt,hnt⟩:=Zs
 refine QP Tryz.func26 (body:=Zk Tryz.f26) rfl (by decide+kernel) ?_
 simp only[Za hnt]
 refine wS ?_
 refine Br.isF (by simp) ?_
 refine wS ?_
 refine ZV false false [] [0,1,5] [] (fun(i:Nat)=>[(5,.int .i64 fun _=>(i:Int))]) (fun _=>[]) (fun i=>i≤l.length) (fun i=>l.length-i+0) 0 (Nat.zero_le _) ?_ ?_
 ·exact ZI
 intro i hi
 refine wS ?_
 refine⟨fun hb=>?_,fun hb=>?_⟩
 ·simp only[decide_eq_true_eq]at hb
  refine wS ?_
  refine Br.isF (by simp) ?_
  refine wS ?_
  refine⟨i+1,by omega,by omega,?_⟩
  exact ZI
 ·(cbv;(try simp only[nc]at*);(try refine Chk.mk (Qa) ?_))
  (try first|exact⟨rfl,trivial⟩|exact⟨trivial,trivial⟩)
theorem Zbb (m:Int):Xi (Z5 m):=⟨⟨by show 1≤1000000;decide,by show 3≤1000000;decide,by show 0≤1000000;decide,fun z hz=>by simp only[Z5,List.mem_singleton]at hz;subst hz;decide,fun t ht=>by simp only[Z5,List.mem_cons,List.not_mem_nil,or_false]at ht;rcases ht with rfl|rfl|rfl<;>decide,fun t ht=>by cases ht⟩,by show 3≤1000000;decide,by show 1≤1000000;decide,by show 1≤1000000;decide,fun d hd=>by simp only[Z5,List.mem_singleton]at hd;subst hd;decide⟩
theorem Zu1:SC (fun _=>Tryz.prog) 17 [] [.main] fun v h=>v= .bool (fun _=>true)∧h=[.main]:=by
 obtain⟨nt,hnt⟩:=Zs
 have kt30:=Zt1 30
 have kt15:=Zt1 15
 have hw:∀t,Zr t=0→ZA t:=fun t h=>X0 h
 have k1:=ZuZ (Z5 30) 1 (Zbb 30) (hw _)
 have k2:=ZuU (Z5 15) 0 (Zbb 15) ZuO
 have k3:=ZsG (Z5 15) ZiM (Zbb 15) (by decide) (hw _)
 have k4:=ZuV (Z5 30) 0 (Zbb 30)
 have k5:=ZuW (Z5 15) ZlL 0 (Zbb 15) (by decide) (hw _)
 have hte:Jn (Z5 30) 1=0:=by
  unfold Jn
  rw[if_neg (fun h=>h Zsu.2)]
  rfl
 rw[hte,if_pos rfl,if_pos rfl,Zow]at k1
 rw[ZlO]at k2
 rw[Zj6]at k3
 rw[Zox.1]at k4
 rw[Zqv]at k5
 have kh:=Zt0
 have ki:=ZuR
 have ks:=ZuS [⟨120,140⟩,⟨200,220⟩] (by decide)
 have kz:=c39 [0,1] [0,1] (by decide)
 have kp1:=ZqJ 200 260
 have kp2:=ZqJ 120 140
 have kp3:=ZqJ 200 220
 generalize ZhP (Z5 30) 1=C at*
 generalize Z5 30=T30 at*
 generalize Z5 15=T15 at*
 generalize ZiM=H1 at*
 generalize ZlL=H2 at*
 unfold Zf ZQ Qz at*
 simp only[Za hnt,Zb,ZE,Q1]at*
 refine SC.less (QP Tryz.func17 (body:=Zk Tryz.f17) rfl (by decide+kernel) ?_)
 refine wS ?_
 refine ZoQ (kt30) ?_
 refine wS ?_
 refine ZoQ (k1) ?_
 refine wS ?_
 refine ZoQ (kt15) ?_
 refine wS ?_
 refine cL1 [0] (k2) fun r h₂ hp=>?_
 (try simp only[Zd,Zc,Zf,Zb,Za hnt]at hp)
 obtain⟨rfl,rfl⟩:=hp
 refine wS ?_
 refine ZoQ (kt15) ?_
 refine wS ?_
 refine ZoQ (kh) ?_
 refine wS ?_
 refine ZoQ (k3) ?_
 refine wS ?_
 refine ZoQ (kt30) ?_
 refine wS ?_
 refine ZoQ (k4) ?_
 refine wS ?_
 refine ZoQ (kt15) ?_
 refine wS ?_
 refine ZoQ (ki) ?_
 refine wS ?_
 refine ZoQ (k5) ?_
 refine vS ?_
 refine Chk.mk (by simp only[nc,QK,QJ,QU,QI,Cn.p,beq_self_eq_true,cond_true,imp_self,and_true,true_and];(repeat' (first|apply And.intro|intro _))<;>first|rfl|trivial|exact Or.inl rfl|decide|decide+kernel|(simp;done)) ?_
 repeat (first
  |(with_reducible refine Br.isT rfl ?_;refine vS ?_)
  |(with_reducible refine Chk.mk (by simp only[nc,QK,QJ,QU,QI,Cn.p,beq_self_eq_true,cond_true,imp_self,and_true,true_and];(repeat' (first|apply And.intro|intro _))<;>first|rfl|trivial|exact Or.inl rfl|decide|decide+kernel|(simp;done)) ?_))
 refine ZoQ (kp1) ?_
 refine vS ?_
 repeat (first
  |(with_reducible refine Br.isT rfl ?_;refine vS ?_)
  |(with_reducible refine Chk.mk (by simp only[nc,QK,QJ,QU,QI,Cn.p,beq_self_eq_true,cond_true,imp_self,and_true,true_and];(repeat' (first|apply And.intro|intro _))<;>first|rfl|trivial|exact Or.inl rfl|decide|decide+kernel|(simp;done)) ?_))
 refine ZoQ (kp2) ?_
 refine vS ?_
 repeat (first
  |(with_reducible refine Br.isT rfl ?_;refine vS ?_)
  |(with_reducible refine Chk.mk (by simp only[nc,QK,QJ,QU,QI,Cn.p,beq_self_eq_true,cond_true,imp_self,and_true,true_and];(repeat' (first|apply And.intro|intro _))<;>first|rfl|trivial|exact Or.inl rfl|decide|decide+kernel|(simp;done)) ?_))
 refine ZoQ (kp3) ?_
 refine vS ?_
 repeat (first
  |(with_reducible refine Br.isT rfl ?_;refine vS ?_)
  |(with_reducible refine Chk.mk (by simp only[nc,QK,QJ,QU,QI,Cn.p,beq_self_eq_true,cond_true,imp_self,and_true,true_and];(repeat' (first|apply And.intro|intro _))<;>first|rfl|trivial|exact Or.inl rfl|decide|decide+kernel|(simp;done)) ?_))
 refine J2 ks (by(refine To.of [] ?_;cbv;(try simp only[nc]);(repeat' (first|exact trivial|exact ZD.refl _|exact ZL.refl _|refine⟨?_,?_⟩|refine ZL.cells ?_|refine ZD.agg ?_|refine ZD.tup ?_));(all_goals (first|exact X9|skip)));all_goals exact lit_nt hnt Qz default _ _ rfl) (by first|rfl|(simp only[Zd,Zc,Zf,Zb,Za hnt];rfl)) fun r h₂ hp=>?_
 obtain⟨rfl,rfl⟩:=hp
 refine vS ?_
 repeat (first
  |(with_reducible refine Br.isT rfl ?_;refine vS ?_)
  |(with_reducible refine Chk.mk (by simp only[nc,QK,QJ,QU,QI,Cn.p,beq_self_eq_true,cond_true,imp_self,and_true,true_and];(repeat' (first|apply And.intro|intro _))<;>first|rfl|trivial|exact Or.inl rfl|decide|decide+kernel|(simp;done)) ?_))
 refine J2 (kz) (by(try simp only[Zd,Zc,Zf,Zb,Za hnt]);exact ZI) (by first|rfl|(simp only[Zd,Zc,Zf,Zb,Za hnt];rfl)) fun r h₂ hp=>?_
 (try simp only[Zd,Zc,Zf,Zb,Za hnt]at hp)
 obtain⟨rfl,rfl⟩:=hp
 refine vS ?_
 repeat (first
  |(with_reducible refine Br.isT rfl ?_;refine vS ?_)
  |(with_reducible refine Chk.mk (by simp only[nc,QK,QJ,QU,QI,Cn.p,beq_self_eq_true,cond_true,imp_self,and_true,true_and];(repeat' (first|apply And.intro|intro _))<;>first|rfl|trivial|exact Or.inl rfl|decide|decide+kernel|(simp;done)) ?_))
 refine⟨.bool fun _=>true,[.main],?_,rfl,rfl⟩
 (refine To.of [] ?_;cbv;(try simp only[nc]);(repeat' (first|exact trivial|exact ZD.refl _|exact ZL.refl _|refine⟨?_,?_⟩|refine ZL.cells ?_|refine ZD.agg ?_|refine ZD.tup ?_));(all_goals (first|exact X9|skip)))
 all_goals exact .bool rfl
end Go.Proofs.YtjgpiclllehgmaaGreat.Vm
namespace Go.Proofs.YtjgpiclllehgmaaGreat.Vm
open Go Go.Proofs Sp
set_option maxRecDepth 100000
set_option maxHeartbeats 1600000
set_option maxHeartbeats 8000000
theorem ZcD {t:Ze} (h:Zr t=0):Xi t:=by
 have hw:=X0 h
 obtain⟨h1,h2,h3,h4,h5,h6⟩:=JO h
 have hc:=ZbY h1
 have hr:=hw.calls.len
 have hl:(callsOf t).length=t.runs.length:=by unfold callsOf;rw[List.length_map]
 exact⟨⟨by have:=hc.zlen;omega,by have:=hc.olen;omega,by have:=hc.nlen;omega,fun z hz=>by have:=(ZbD (hc.zones z hz)).2.2.1;omega,⟨fun t ht=>by have:=(hc.old t ht).len;omega,fun t ht=>by have:=(hc.new t ht).len;omega⟩⟩,by omega,by omega,by omega,fun d hd=>by have:=(hw.d d hd).2.1;omega⟩
attribute [local irreducible] Dn
theorem Zvg {f:FuncId} {xs ys:List AV} {h:List Zi} {Post Q:AV→List Zi→Prop} {B:Prop} (H:SC (fun _=>Tryz.prog) f ys [] Q) (k:B) (t:SC (fun _=>Tryz.prog) f ys [] Q→HdW B→SC (fun _=>Tryz.prog) f xs h Post:=by intro hH hW;refine ZS hH (by first|rfl|(simp only[Zd,Zc,Zf,Zb,Qg,Zg,Za hnt];rfl)) fun r h₂ hp=>?_;(try simp only[Zd,Zc,Zf,Zb,Qg,Zg,Za hnt]at hp);obtain⟨rfl,rfl⟩:=hp;exact hW.out):SC (fun _=>Tryz.prog) f xs h Post:=t H ⟨k⟩
theorem ZuY (a:Int):SC (fun _=>Tryz.prog) 29 [.int .i64 fun _=>a] [] fun v h=>v= .agg (Qz ⟨a,a⟩)∧h=[]:=by
 have k:=ZqJ a a
 unfold Qz at*
 refine SC.less (QP Tryz.func29 (body:=Zk Tryz.f29) rfl (by decide+kernel) ?_)
 refine wS ?_
 refine Zvg (k) ?_
 refine wS ?_
 refine⟨_,[],?_,rfl,rfl⟩
 exact ZI
end Go.Proofs.YtjgpiclllehgmaaGreat.Vm
namespace Go.Proofs.YtjgpiclllehgmaaGreat.Sp
open Vm
end Go.Proofs.YtjgpiclllehgmaaGreat.Sp
namespace Go.Proofs.YtjgpiclllehgmaaGreat.Vm
attribute [local irreducible] Dn
open Go Go.Proofs Sp
set_option maxRecDepth 100000
set_option maxHeartbeats 4000000
set_option maxHeartbeats 1600000
set_option maxHeartbeats 4000000
end Go.Proofs.YtjgpiclllehgmaaGreat.Vm
namespace Go.Proofs.YtjgpiclllehgmaaGreat.Vm
open Go Go.Proofs Sp
set_option maxRecDepth 100000
set_option maxHeartbeats 8000000
attribute [local irreducible] Dn
end Go.Proofs.YtjgpiclllehgmaaGreat.Vm
namespace Go.Proofs.YtjgpiclllehgmaaGreat.Sp
open Vm
structure Zla (t:Ze):Prop where
 runs:1≤t.runs.length∧t.runs.length≤4
 call:∀r:Nat,r<t.runs.length→Qx t.book (t.runs.getD r default)=((callsOf t).getD r [],true)
 len:∀r:Nat,r<t.runs.length→2≤((callsOf t).getD r []).length∧((callsOf t).getD r []).length≤4
 st:∀r:Nat,r<t.runs.length→∀k:Nat,k<((callsOf t).getD r []).length→0≤(((callsOf t).getD r []).getD k default).station∧(((callsOf t).getD r []).getD k default).station≤9
 step:∀r:Nat,r<t.runs.length→∀a b:Nat,a<b→b<((callsOf t).getD r []).length→Yf (callsOf t) t.runs.length ⟨(r:Int),(((callsOf t).getD r []).getD a default).station,(((callsOf t).getD r []).getD b default).station⟩=0
theorem Zln {t:Ze} (he:Zr t=0) {k:Nat} (hk:k<t.runs.length):Q5 (J4 t.book (t.runs.getD k default).number (t.runs.getD k default).day).1=0:=by
 have h:=(JO he).2.1
 unfold QO at h
 split at h
 ·cases h
 split at h
 ·cases h
 have h2:=Qb h k (Nat.zero_le _) (by omega)
 unfold JS at h2
 split at h2
 ·rename_i g;exact absurd h2 g
 split at h2
 ·cases h2
 ·rename_i g;exact Decidable.of_not_not g
theorem ZnW {t:Ze} (hm:Zji t):Zla t:=by
 have he:=hm.begin
 have hc:=(X0 he).calls
 have hl:=ZlW t
 have hrow:∀r:Nat,r<t.runs.length→(callsOf t).getD r []∈callsOf t:=fun r hr=>ZjS (by omega)
 have h1:1≤t.runs.length:=by
  have h:=(JO he).2.1
  unfold QO at h
  split at h
  ·cases h
  ·omega
 have h4:=hc.len
 refine⟨by omega,fun r hr=>?_,fun r hr=>hc.row _ (hrow r hr),fun r hr k hk=>?_,fun r hr a b hab hb=>?_⟩
 ·have e:=Zln he hr
  have e2:=Zgr he hr
  unfold Qx
  rw[if_neg (fun h=>h e),decide_eq_true e2,ZnU hr]
 ·have h2:=Zsj (Zgr he hr)
  rw[←ZnU hr]at h2
  obtain⟨j,_,hj⟩:=hm.from_ r hr
  obtain⟨z,old,n,hb,_,hd⟩:=hm.book
  have ht:QT t.book (t.runs.getD r default).day=old:=by rw[hj,hb];rfl
  rw[ht]at h2
  have hp:(place old (t.runs.getD r default).number).toNat<old.length:=by
   have h3:=h2.2
   have h5:=(Xz (q:=fun x:Train=>decide (x.number=(t.runs.getD r default).number)) (l:=old) (i:=0) (Int.le_refl _)).1
   unfold place at*
   omega
  obtain⟨st,s1,s2,hD⟩:=hd.all _ hp
  generalize (old.getD (place old (t.runs.getD r default).number).toNat default)=T at*
  have e:((callsOf t).getD r []).map (·.station)=T.stops.map (·.station):=by rw[h2.1];exact ZcX _ _ _ _ _ _
  generalize (callsOf t).getD r []=R at*
  have hlen:R.length=T.stops.length:=by simpa using congrArg List.length e
  have hk2:k<T.stops.length:=by omega
  have e3:(R.getD k default).station=(T.stops.getD k default).station:=by
   have:=congrArg (fun l=>l[k]?) e
   simp only[List.getElem?_map,List.getElem?_eq_getElem hk,List.getElem?_eq_getElem hk2,Option.map_some,Option.some.injEq]at this
   rw[List.getD_eq_getElem?_getD,List.getD_eq_getElem?_getD,List.getElem?_eq_getElem hk,List.getElem?_eq_getElem hk2]
   exact this
  rw[e3]
  have:=(hD.made.stop _ (ZjS (d:=default) hk2)).1
  omega
 ·have hp:=(hm.row _ (hrow r hr)).st
  have ha:=Zev hp (f:=0) (i:=a) (Nat.zero_le _) (by omega)
  have hb2:=Zev hp (f:=a+1) (i:=b) (by omega) hb
  unfold Yf
  dsimp only
  rw[JU (by omega) (by omega),if_neg Bool.false_ne_true]
  rw[Int.toNat_natCast,show(0:Int)=((0:Nat):Int)from rfl,ha,show((a:Nat):Int)+1=((a+1:Nat):Int) by omega,hb2,if_neg (by omega)]
end Go.Proofs.YtjgpiclllehgmaaGreat.Sp
namespace Go.Proofs.YtjgpiclllehgmaaGreat.Vm
attribute [local irreducible] Dn
open Go Go.Proofs Sp
set_option maxRecDepth 100000
set_option maxHeartbeats 8000000
theorem cL3 (l:List Nat) {f:FuncId} {xs ys:List AV} {h hc:List Zi} {Post Q:AV→List Zi→Prop} (H:SC (fun _=>Tryz.prog) f ys hc Q) (hq:∀ r h₂,Q r h₂→Post (ren (YK l h.length) 5 r) (back l h h₂)) (hn:l.Nodup:=by decide) (hl:∀ i∈l,i<h.length:=by simp) (hx:xs.map (Qs false l h 5)=ys:=by first|rfl|(simp only[Zd,Zc,Zf,Zb,Zg,Za hnt];rfl)) (hh:sel false l h=hc:=by first|rfl|(simp only[Zd,Zc,Zf,Zb,Zg,Za hnt];rfl)):SC (fun _=>Tryz.prog) f xs h Post:=ZH l H hn hl hx hh hq
theorem ZuX (s:Int) (t:Ze) (most:Int) (hf:Xi t) (hr:Zla t) (hmost:0≤most∧most≤6):SC (fun _=>Tryz.prog) 31 [.ptr 0 0,Zf t,.int .i64 fun _=>most] [Xe s] fun v h=>∃(x:Zq) (s':Int),QB (callsOf t) t.runs.length x=0∧x.steps.length≤6∧v=ZQ x∧h=[Xe s']:=by
 obtain⟨nt,hnt⟩:=Zs
 have hrl:=hr.runs
 have k375:=fun(r:Int)=>ZqI t.book (nt Sp.Qq default t.runs r) hf.book
 have hcall:∀r:Int,0≤r→r<t.runs.length→Qx t.book (nt Sp.Qq default t.runs r)=(nt (List Sp.Call) [] (callsOf t) r,true):=fun r h0 h1=>by
  rw[hnt,hnt]
  exact hr.call r.toNat (by omega)
 have hlen:∀r:Int,0≤r→r<t.runs.length→2≤(nt (List Sp.Call) [] (callsOf t) r).length∧(nt (List Sp.Call) [] (callsOf t) r).length≤4:=fun r h0 h1=>by
  rw[hnt]
  exact hr.len r.toNat (by omega)
 have hst:∀r:Int,0≤r→r<t.runs.length→∀k:Int,0≤k→k<(nt (List Sp.Call) [] (callsOf t) r).length→0≤(nt Sp.Call default (nt (List Sp.Call) [] (callsOf t) r) k).station∧(nt Sp.Call default (nt (List Sp.Call) [] (callsOf t) r) k).station≤9:=fun r h0 h1 k h2 h3=>by
  simp only[hnt]at h3⊢
  exact hr.st r.toNat (by omega) k.toNat (by omega)
 have hstep:∀r:Int,0≤r→r<t.runs.length→∀a b:Int,0≤a→a<b→b<(nt (List Sp.Call) [] (callsOf t) r).length→Yf (callsOf t) t.runs.length ⟨r,(nt Sp.Call default (nt (List Sp.Call) [] (callsOf t) r) a).station,(nt Sp.Call default (nt (List Sp.Call) [] (callsOf t) r) b).station⟩=0:=fun r h0 h1 a b h2 h3 h4=>by
  simp only[hnt]at h4⊢
  have h:=hr.step r.toNat (by omega) a.toNat b.toNat (by omega) (by omega)
  rwa [show((r.toNat:Nat):Int)=r by omega]at h
 have hErr:∀q:Zq,(0≤q.from_∧q.from_≤9)→(0≤q.goal∧q.goal≤9)→(0≤q.since∧q.since≤43200)→q.steps.length≤6→(∀z∈q.steps,Yf (callsOf t) t.runs.length z=0)→QB (callsOf t) t.runs.length q=0:=fun q h1 h2 h3 h4 h5=>by
  unfold QB
  rw[JU h1.1 h1.2,JU h2.1 h2.2,JU h3.1 h3.2,if_neg (by decide),if_neg (by omega)]
  exact J1 fun j _ hj=>h5 _ (ZjS (by omega))
 generalize QB (callsOf t) t.runs.length=TE at*
 generalize Yf (callsOf t) t.runs.length=SE at*
 generalize callsOf t=c at*
 unfold Zf Zc ZQ at*
 simp only[Za hnt]at*
 refine SC.less (QP Tryz.func31 (body:=Zk Tryz.f31) rfl (by decide+kernel) ?_)
 refine wS ?_
 refine cL3 [0] (c17 s 200 (by omega)) fun r h₂ hp=>?_
 (try simp only[Zd,Zc,Zf,Zb,Zg,Za hnt]at hp)
 obtain⟨q,s1,hq,rfl,rfl⟩:=hp
 refine wS ?_
 refine cL3 [0] (ZfN s1 [0,q] (by simp)) fun r h₂ hp=>?_
 (try simp only[Zd,Zc,Zf,Zb,Zg,Za hnt]at hp)
 obtain⟨sn,s2,hsn,rfl,rfl⟩:=hp
 have hsn:0≤sn∧sn≤200:=by simp at hsn;omega
 refine wS ?_
 refine cL3 [0] (c17 s2 most (by omega)) fun r h₂ hp=>?_
 (try simp only[Zd,Zc,Zf,Zb,Zg,Za hnt]at hp)
 obtain⟨m,s3,hm,rfl,rfl⟩:=hp
 obtain⟨m,rfl⟩:∃k:Nat,m=k:=⟨m.toNat,by omega⟩
 have hm6:m≤6:=by omega
 refine wS ?_
 refine ZV false false [] [0,4,6,7,8,9,10] [.tok 3 fun _=>0] (fun(⟨i,at_,s,fr,go,st⟩:Nat×Int×Int×Int×Int×List Sp.Step)=>[(8,.int .i64 fun _=>at_),(9,.bool fun _=>decide (st.length=0)),(10,.int .i64 fun _=>(i:Int))])
  (fun⟨i,at_,s,fr,go,st⟩=>[(0,Xe s),(3,.cells [.int .i64 fun _=>fr,.int .i64 fun _=>sn,.int .i64 fun _=>go,.isl 3 (fun _=>(st.length:Int)) (fun e=>Q1 (nt Sp.Step default st (e ()))) (.own 4)]),(4,.tok 3 fun _=>(st.length:Int))])
  (fun⟨i,at_,s,fr,go,st⟩=>st.length+i=m∧(0≤fr∧fr≤9)∧(0≤go∧go≤9)∧∀z∈st,SE z=0) (fun q=>q.1+0) (m,-1,s3,0,0,[]) ⟨by simp,by omega,by omega,by simp⟩ ?_ ?_
 ·(refine To.of [(3,false)] ?_;cbv;(try simp only[nc]);(repeat' (first|exact trivial|exact ZD.refl _|exact ZL.refl _|refine⟨?_,?_⟩|refine ZL.cells ?_|refine ZD.agg ?_|refine ZD.tup ?_));(all_goals (first|exact X9|skip)))
 rintro⟨i,at_,s4,fr,go,st⟩ hinv
 have hi:st.length+i=m:=hinv.1
 have hfr:=hinv.2.1
 have hgo:=hinv.2.2.1
 have hse:=hinv.2.2.2
 clear hinv
 refine wS ?_
 refine⟨fun hb=>?_,fun hb=>?_⟩
 ·simp only[decide_eq_true_eq]at hb
  refine wS ?_
  refine cL3 [0] (c17 s4 ((t.runs.length:Int)-1) (by omega)) fun r h₂ hp=>?_
  (try simp only[Zd,Zc,Zf,Zb,Zg,Za hnt]at hp)
  obtain⟨r,s5,hrr,rfl,rfl⟩:=hp
  have hr0:0≤r∧r<t.runs.length:=by omega
  have k375:=k375 r
  rw[hcall r hr0.1 hr0.2]at k375
  have hlen:=hlen r hr0.1 hr0.2
  have hst:=hst r hr0.1 hr0.2
  have hstep:=hstep r hr0.1 hr0.2
  generalize nt (List Sp.Call) [] c r=C at*
  refine wS ?_
  refine ZS (k375) (by first|rfl|(simp only[Zd,Zc,Zf,Zb,Zg,Za hnt];rfl)) fun r h₂ hp=>?_
  (try simp only[Zd,Zc,Zf,Zb,Zg,Za hnt]at hp)
  obtain⟨rfl,rfl⟩:=hp
  refine wS ?_
  refine cL3 [0] (c17 s5 ((C.length:Int)-2) (by omega)) fun r h₂ hp=>?_
  (try simp only[Zd,Zc,Zf,Zb,Zg,Za hnt]at hp)
  obtain⟨a,s6,ha,rfl,rfl⟩:=hp
  refine wS ?_
  refine Zai fun Q hQ=>?_
  refine ZV false false [] [0,4,6,7,8,9,10,11,12,14,15] [] (fun(⟨k,a,s⟩:Nat×Int×Int)=>[(14,.int .i64 fun _=>a),(15,.int .i64 fun _=>(k:Int))]) (fun⟨k,a,s⟩=>[(0,Xe s)]) (fun⟨k,a,s⟩=>k+1≤C.length∧0≤a∧a+2≤C.length) (fun q=>C.length-q.1+0) (0,a,s6) ⟨by omega,by omega,by omega⟩ ?_ ?_
  ·exact ZI
  rintro⟨k,a,s7⟩ hinv
  have hk:k+1≤C.length:=hinv.1
  have ha0:=hinv.2.1
  have ha2:=hinv.2.2
  clear hinv
  refine wS ?_
  refine⟨fun hb2=>?_,fun hb2=>?_⟩
  ·simp only[decide_eq_true_eq]at hb2
   refine wS ?_
   refine⟨fun hb3=>?_,fun hb3=>?_⟩
   ·refine wS ?_
    refine cL3 [0] (c37 s7 4 5 (by omega)) fun r h₂ hp=>?_
    (try simp only[Zd,Zc,Zf,Zb,Zg,Za hnt]at hp)
    obtain⟨bb,s8,rfl,rfl⟩:=hp
    refine wS ?_
    refine⟨fun hb4=>?_,fun hb4=>?_⟩
    ·refine wS ?_
     refine⟨(k+1,(k:Int),s8),⟨by omega,by show(0:Int)≤(k:Int);omega,by show(k:Int)+2≤C.length;omega⟩,by show C.length-(k+1)+0<C.length-k+0;omega,?_⟩
     exact ZI
    ·refine wS ?_
     refine⟨(k+1,a,s8),⟨by omega,by omega,by omega⟩,by show C.length-(k+1)+0<C.length-k+0;omega,?_⟩
     exact ZI
   ·refine wS ?_
    refine Br.isF (by simp only[hb3]) ?_
    refine wS ?_
    refine⟨(k+1,a,s7),⟨by omega,by omega,by omega⟩,by show C.length-(k+1)+0<C.length-k+0;omega,?_⟩
    exact ZI
  ·simp only[decide_eq_false_iff_not]at hb2
   obtain⟨j,rfl⟩:∃j,i=j+1:=⟨i-1,by omega⟩
   refine wS ?_
   refine hQ _ _ _ ?_
   refine wS ?_
   refine⟨?_,?_⟩
   all_goals
    try refine wS ?_
    refine cL3 [0] (c22 s7 (a+1) ((C.length:Int)-1) (by omega) (by omega)) fun r h₂ hp=>?_
    (try simp only[Zd,Zc,Zf,Zb,Zg,Za hnt]at hp)
    obtain⟨b,s9,hbb,rfl,rfl⟩:=hp
    have hfs:=hst a (by omega) (by omega)
    have hts:=hst b (by omega) (by omega)
    have hnew:=hstep a b (by omega) (by omega) (by omega)
    have hse2:∀z∈st++[⟨r,(nt Sp.Call default C a).station,(nt Sp.Call default C b).station⟩],SE z=0:=fun z hz=>by
     rcases List.mem_append.1 hz with h|h
     ·exact hse z h
     ·rw[List.mem_singleton]at h;subst h;exact hnew
    refine wS ?_
    refine⟨fun hf=>?_,fun hf=>?_⟩
    ·refine wS ?_
     refine cL3 [0] (ZfN s9 [(nt Sp.Call default C b).station,(nt Sp.Call default C b).station,(nt Sp.Call default C a).station] (by simp)) fun r h₂ hp=>?_
     (try simp only[Zd,Zc,Zf,Zb,Zg,Za hnt]at hp)
     obtain⟨y,s10,hy,rfl,rfl⟩:=hp
     refine wS ?_
     refine⟨(j,y,s10,(nt Sp.Call default C a).station,(nt Sp.Call default C b).station,st++[⟨r,(nt Sp.Call default C a).station,(nt Sp.Call default C b).station⟩]),⟨by simp;omega,hfs,hts,hse2⟩,by show j+0<j+1+0;omega,?_⟩
     (refine To.of [] ?_;cbv;(try simp only[nc]);(repeat' (first|exact trivial|exact ZD.refl _|exact ZL.refl _|refine⟨?_,?_⟩|refine ZL.cells ?_|refine ZD.agg ?_|refine ZD.tup ?_));(all_goals (first|exact X9|skip)))
     all_goals first|exact .bool (by simp)|exact .snoc hnt rfl (by simp) rfl
    ·refine wS ?_
     refine cL3 [0] (ZfN s9 [(nt Sp.Call default C b).station,(nt Sp.Call default C b).station,(nt Sp.Call default C a).station] (by simp)) fun r h₂ hp=>?_
     (try simp only[Zd,Zc,Zf,Zb,Zg,Za hnt]at hp)
     obtain⟨y,s10,hy,rfl,rfl⟩:=hp
     refine wS ?_
     refine⟨(j,y,s10,fr,(nt Sp.Call default C b).station,st++[⟨r,(nt Sp.Call default C a).station,(nt Sp.Call default C b).station⟩]),⟨by simp;omega,hfr,hts,hse2⟩,by show j+0<j+1+0;omega,?_⟩
     (refine To.of [] ?_;cbv;(try simp only[nc]);(repeat' (first|exact trivial|exact ZD.refl _|exact ZL.refl _|refine⟨?_,?_⟩|refine ZL.cells ?_|refine ZD.agg ?_|refine ZD.tup ?_));(all_goals (first|exact X9|skip)))
     all_goals first|exact .bool (by rw[show decide (st.length=0)=false from hf];simp)|exact .snoc hnt rfl (by simp) rfl
 ·simp only[decide_eq_false_iff_not]at hb
  refine wS ?_
  refine⟨fun hf=>?_,fun hf=>?_⟩
  ·refine wS ?_
   refine cL3 [0] (c17 s4 3 (by omega)) fun r h₂ hp=>?_
   (try simp only[Zd,Zc,Zf,Zb,Zg,Za hnt]at hp)
   obtain⟨x1,s5,hx1,rfl,rfl⟩:=hp
   refine wS ?_
   refine cL3 [0] (c17 s5 3 (by omega)) fun r h₂ hp=>?_
   (try simp only[Zd,Zc,Zf,Zb,Zg,Za hnt]at hp)
   obtain⟨x2,s6,hx2,rfl,rfl⟩:=hp
   refine wS ?_
   refine⟨_,_,?_,⟨x1,sn,x2,st⟩,s6,hErr _ (by dsimp only;omega) (by dsimp only;omega) (by dsimp only;omega) (by dsimp only;omega) hse,by dsimp only;omega,rfl,rfl⟩
   exact ZI
  ·refine wS ?_
   refine⟨_,_,?_,⟨fr,sn,go,st⟩,s4,hErr _ hfr hgo (by dsimp only;omega) (by dsimp only;omega) hse,by dsimp only;omega,rfl,rfl⟩
   exact ZI
end Go.Proofs.YtjgpiclllehgmaaGreat.Vm
namespace Go.Proofs.YtjgpiclllehgmaaGreat.Sp
open Vm
end Go.Proofs.YtjgpiclllehgmaaGreat.Sp
namespace Go.Proofs.YtjgpiclllehgmaaGreat.Vm
open Go Go.Proofs Sp
end Go.Proofs.YtjgpiclllehgmaaGreat.Vm
namespace Go.Proofs.YtjgpiclllehgmaaGreat.Sp
open Vm
theorem ZdC {t:Ze} (hf:ZA t) (x:List Int) {r b:Int} (hs:StopIn (callsOf t) r b) (hb:0<b):goes t x r (b-1)≤(ZU t x r b).comes∧(ZU t x r b).comes≤goes t x r b:=by
 have h1:=hf.asc r b hs hb
 have h4:=ZeD hf x r (b-1)
 rw[ZkY hf x hs,Zfw hf x hs]
 generalize hG:goes t x=G at*
 unfold ZaO ZhF
 simp only[if_neg (show¬b=0 by omega),if_pos hb]
 refine⟨by unfold XI;omega,?_⟩
 generalize XI t x G r b=cm
 unfold Ze4 Zea
 by_cases hl:b=((Zo (callsOf t) r).length:Int)-1
 ·simp only[if_pos hl];omega
 ·simp only[if_neg hl]
  have hw:=Zcz hf (cm:=XI t x G) (r:=r) (call:=Zy (callsOf t) r b) (M:=max (max (Zy (callsOf t) r b).depart cm) ((Zy (callsOf t) r b).depart+60)) (by omega) t.waits (max (Zy (callsOf t) r b).depart cm) (fun w hw=>hw) (by omega)
  omega
theorem ZkX {t:Ze} (hf:ZA t) (x:List Int) {r a:Int} (ha:0≤a):∀n:Nat,StopIn (callsOf t) r (a+n+1)→goes t x r a≤(ZU t x r (a+n+1)).comes
 |0,hs=>by
  have h:=(ZdC hf x hs (by omega)).1
  rwa [show a+((0:Nat):Int)+1-1=a by omega]at h
 |n+1,hs=>by
  have hp:StopIn (callsOf t) r (a+n+1):=by
   have:=hs.prev (by omega)
   rwa [show a+((n+1:Nat):Int)+1-1=a+n+1 by omega]at this
  have h1:=ZkX hf x ha n hp
  have h2:=(ZdC hf x hp (by omega)).2
  have h3:=(ZdC hf x hs (by omega)).1
  rw[show a+((n+1:Nat):Int)+1-1=a+n+1 by omega]at h3
  omega
theorem Zgx {t:Ze} {x:List Int} {a:Zq} {l:List Int} {at_ now:Int}:∀(n i k:Nat),Xl t x a l at_ now i n=some k→(i≤k∧k<i+n)∧ZbX t x a l at_ now k=true
 |0,i,k,h=>by unfold Xl at h;cases h
 |n+1,i,k,h=>by
  unfold Xl at h
  split at h
  ·simp only[Option.some.injEq]at h
   subst h
   exact⟨⟨Nat.le_refl _,by omega⟩,by assumption⟩
  ·have:=Zgx n (i+1) k h
   exact⟨⟨by omega,by omega⟩,this.2⟩
theorem ZeL {t:Ze} (hf:ZA t) {a:Zq} (ht:QB (callsOf t) t.runs.length a=0) (x:List Int):∀(f:Nat) (l:List Int) (at_ now:Int),(Yh t x a f l at_ now).2.2=true→now≤(Yh t x a f l at_ now).2.1
 |0,l,at_,now,h=>by unfold Yh at h;cases h
 |f+1,l,at_,now,h=>by
  unfold Yh at h⊢
  by_cases hg:at_=a.goal
  ·rw[if_pos hg];exact Int.le_refl _
  ·rw[if_neg hg]at h⊢
   cases hn:Xl t x a l at_ now 0 a.steps.length with
   |none=>rw[hn]at h;cases h
   |some i=>
    rw[hn]at h
    obtain⟨⟨_,hi⟩,hc⟩:=Zgx _ _ _ hn
    have hs:=ZkC hf ht (i:=i) (by omega)
    unfold ZbX at hc
    simp only[Bool.and_eq_true,decide_eq_true_eq]at hc
    have hlt:=(Je (Zo (callsOf t) (ZW a i).run) (XG t (ZW a i)+1) (ZW a i).to_).2
    have h0:=hs.2.2.2.2.1
    have hle:XG t (ZW a i)+1≤Zck t (ZW a i):=by
     unfold Zck at*
     omega
    have hup:=ZkX hf x hs.2.1.2.2.1 (Zck t (ZW a i)-XG t (ZW a i)-1).toNat (by rw[show XG t (ZW a i)+((Zck t (ZW a i)-XG t (ZW a i)-1).toNat:Int)+1=Zck t (ZW a i) by omega];exact hs.2.2)
    rw[show XG t (ZW a i)+((Zck t (ZW a i)-XG t (ZW a i)-1).toNat:Int)+1=Zck t (ZW a i) by omega]at hup
    have ih:=ZeL hf ht x f (l++[(i:Int)]) (ZW a i).to_ _ h
    have h2:=hc.2.2
    unfold goes at hup
    show now≤_
    refine Int.le_trans (Int.le_trans h2 hup) ih
theorem ZqV {f:Nat→Int} {c:Int}:∀n:Nat,(∀i,i<n→c≤f i)→0<n→c≤(JF f n).fr∧(JF f n).fr≤(JF f n).to_∧(JF f n).some_=true
 |0,_,h=>by omega
 |n+1,h,_=>by
  have h0:=h n (by omega)
  show c≤((JF f n).add (f n)).fr∧((JF f n).add (f n)).fr≤((JF f n).add (f n)).to_∧((JF f n).add (f n)).some_=true
  unfold Wd.add
  by_cases hn:n=0
  ·subst hn
   exact⟨h0,Int.le_refl _,rfl⟩
  ·have ih:=ZqV n (fun i hi=>h i (by omega)) (by omega)
   rw[if_pos ih.2.2]
   exact⟨by show c≤min _ _;omega,by show min _ _≤max _ _;omega,rfl⟩
theorem Zh9 {f:Nat→Int} {c:Int} (h:∀i,f i=c):∀n:Nat,JF f (n+1)=⟨c,c,true⟩
 |0=>by show(⟨f 0,f 0,true⟩:Wd)=_;rw[h]
 |n+1=>by
  show(JF f (n+1)).add (f (n+1))=_
  rw[Zh9 h n,h]
  unfold Wd.add
  rw[if_pos rfl]
  simp
theorem ZgO {t:Ze} {a:Zq}:ZhO t a=1↔QH t a=true:=by
 unfold ZhO JJ QH
 have h:=ZfF (p:=fun i=> !XR t a i) (ZO t)
 rw[List.all_eq_true]
 constructor
 ·intro h1 i hi
  split at h1
  ·rename_i h2
   have:=h.1 h2 i (List.mem_range.1 hi)
   simpa using this
  ·split at h1<;>omega
 ·intro h1
  rw[if_pos (h.2 fun i hi=>by rw[h1 i (List.mem_range.2 hi)];rfl)]
end Go.Proofs.YtjgpiclllehgmaaGreat.Sp
namespace Go.Proofs.YtjgpiclllehgmaaGreat.Vm
open Go Go.Proofs Sp
structure ZsQ (t:Ze) (x:Zq) (V:Int) (Y:Zes) (E:Int):Prop where
 kC:SC (fun _=>Tryz.prog) 51 [Zf t,ZQ x] [] fun v h=>v= .tup [.int .i64 fun _=>V,.int .i64 fun _=>0]∧h=[]
 kA:SC (fun _=>Tryz.prog) 50 [Zf t,ZQ x] [] fun v h=>v= .tup [.agg (Qz Y),.int .i64 fun _=>E]∧h=[]
 is:(E=0∧V=1∧x.since≤Y.fr∧Y.fr≤Y.to_)∨(E=11∧V≠1)
 kP:SC (fun _=>Tryz.prog) 54 [Zf t,ZQ {x with goal:=x.from_}] [] fun v h=>v= .tup [lst 1 Qg [] [[]],.int .i64 fun _=>0]∧h=[]
 kB:SC (fun _=>Tryz.prog) 50 [Zf t,ZQ {x with goal:=x.from_}] [] fun v h=>v= .tup [.agg (Qz ⟨x.since,x.since⟩),.int .i64 fun _=>0]∧h=[]
theorem ZqE {t:Ze} (he:Zr t=0) {x:Zq} (hx:QB (callsOf t) t.runs.length x=0) (hl:x.steps.length≤6):∃V Y E,ZsQ t x V Y E:=by
 have hw:=X0 he
 have ha:Qt t x=0:=by unfold Qt;rw[if_neg (fun h=>h he)];exact hx
 have hx2:QB (callsOf t) t.runs.length {x with goal:=x.from_}=0:=by
  unfold QB at hx⊢
  split at hx
  ·cases hx
  rename_i h1
  rw[if_neg (fun h=>h1 (by
   simp only[Bool.or_eq_true]at h⊢
   rcases h with h|h|h
   ·exact .inl h
   ·exact .inl h
   ·exact .inr (.inr h)))]
  exact hx
 have ha2:Qt t {x with goal:=x.from_}=0:=by unfold Qt;rw[if_neg (fun h=>h he)];exact hx2
 have kC:=ZuT t x (ZcD he) (by omega) (fun h=>X0 h)
 have kA:=ZsG t x (ZcD he) (by omega) (fun h=>X0 h)
 have kB:=ZsG t {x with goal:=x.from_} (ZcD he) (by show x.steps.length≤_;omega) (fun h=>X0 h)
 have kP:=Zt2 t {x with goal:=x.from_} (ZcD he) (by show x.steps.length≤_;omega) hw ha2 rfl
 have hA:∀u,Qt t u=0→YY t u=if QH t u=true then(QR t u,0)else(⟨0,0⟩,11):=fun u h=>by
  unfold YY
  rw[if_neg (fun h'=>h' h)]
 have hCV:ZaZ t x=(ZhO t x,0):=by
  unfold ZaZ
  rw[if_neg (fun h=>h ha)]
 have hmany:=ZcQ hw
 have hci:∀i,XR t {x with goal:=x.from_} i=true:=fun i=>by unfold XR;rw[Zg7 rfl]
 have hca:∀i,ZaS t {x with goal:=x.from_} i=x.since:=fun i=>by unfold ZaS;rw[Zg7 rfl]
 have hall2:QH t {x with goal:=x.from_}=true:=List.all_eq_true.2 fun i _=>hci i
 have hS2:QR t {x with goal:=x.from_}=⟨x.since,x.since⟩:=by
  obtain⟨n,hn⟩:∃n,ZO t=n+1:=⟨ZO t-1,by omega⟩
  unfold QR
  rw[if_pos hall2,hn,Zh9 hca]
 rw[hCV]at kC
 rw[hA x ha]at kA
 rw[hA _ ha2,if_pos hall2,hS2]at kB
 refine⟨_,_,_,kC,kA,?_,kP,kB⟩
 by_cases hc:QH t x=true
 ·rw[if_pos hc]
  have h:=ZqV (f:=ZaS t x) (c:=x.since) (ZO t) (fun i hi=>ZeL hw hx _ _ _ _ _ (List.all_eq_true.1 hc i (List.mem_range.2 hi))) (by omega)
  refine .inl ⟨rfl,ZgO.2 hc,?_⟩
  unfold QR
  rw[if_pos hc]
  exact⟨h.1,h.2.1⟩
 ·rw[if_neg hc]
  exact .inr ⟨rfl,fun e=>hc (ZgO.1 e)⟩
attribute [local irreducible] Dn
set_option maxRecDepth 100000
set_option maxHeartbeats 8000000
theorem Zl1 {f:FuncId} {xs ys:List AV} {h:List Zi} {Post Q:AV→List Zi→Prop} {B:Prop} (H:SC (fun _=>Tryz.prog) f ys [] Q) (k:B) (t:SC (fun _=>Tryz.prog) f ys [] Q→HdW B→SC (fun _=>Tryz.prog) f xs h Post:=by intro hH hW;refine ZS hH (by first|rfl|(simp only[Zd,Zc,Zf,ZQ,Zb,Qg,Zg,Qz,Za hnt];rfl)) fun r h₂ hp=>?_;(try simp only[Zd,Zc,Zf,ZQ,Zb,Qg,Zg,Qz,Za hnt]at hp);obtain⟨rfl,rfl⟩:=hp;exact hW.out):SC (fun _=>Tryz.prog) f xs h Post:=t H ⟨k⟩
theorem Zt3:SC (fun _=>Tryz.prog) 56 [lst 1 Qg [] [[]],Zcq 1 [[.isl 0 (fun _=>0) (fun _=>[]) .nil]]] [] fun v h=>v= .bool (fun _=>true)∧h=[]:=by
 obtain⟨nt,hnt⟩:=Zs
 have e0:nt (List Int) [] [[]] ((0:Nat):Int)=[]:=by rw[hnt];rfl
 have k:=c39 [] [] (by simp)
 rw[decide_eq_true rfl]at k
 simp only[Za hnt,Qg]at*
 refine SC.less (QP Tryz.func56 (body:=Zk Tryz.f56) rfl (by decide+kernel) ?_)
 refine wS ?_
 refine Br.isF rfl ?_
 refine wS ?_
 refine ZV false false [] [0,1,5] [] (fun(i:Nat)=>[(5,.int .i64 fun _=>(i:Int))]) (fun _=>[]) (fun i=>i≤1) (fun i=>1-i+0) 0 (Nat.zero_le _) ?_ ?_
 ·exact ZI
 intro i hi
 have hi:i≤1:=hi
 refine wS ?_
 refine⟨fun h=>?_,fun h=>?_⟩
 ·have h:=of_decide_eq_true h
  obtain rfl:i=0:=by simp at h;omega
  refine wS ?_
  simp only[e0]
  refine J2 (k) (by(try simp only[Zd,Zc,Zf,ZQ,Zb,Qg,Zg,Qz,Za hnt]);exact ZI) (by first|rfl|(simp only[Zd,Zc,Zf,ZQ,Zb,Qg,Zg,Qz,Za hnt];rfl)) fun r h₂ hp=>?_
  (try simp only[Zd,Zc,Zf,ZQ,Zb,Qg,Zg,Qz,Za hnt]at hp)
  obtain⟨rfl,rfl⟩:=hp
  refine wS ?_
  refine Br.isF rfl ?_
  refine wS ?_
  refine⟨1,by show 1≤1;omega,by show 1-1+0<1-0+0;omega,?_⟩
  exact ZI
 ·refine wS ?_
  refine⟨_,_,?_,rfl,rfl⟩
  exact ZI
theorem cL4 (l:List Nat) {f:FuncId} {xs ys:List AV} {h hc:List Zi} {Post Q:AV→List Zi→Prop} (H:SC (fun _=>Tryz.prog) f ys hc Q) (hq:∀ r h₂,Q r h₂→Post (ren (YK l h.length) 5 r) (back l h h₂)) (hn:l.Nodup:=by decide) (hl:∀ i∈l,i<h.length:=by simp) (hx:xs.map (Qs false l h 5)=ys:=by first|rfl|(simp only[Zd,Zc,Zf,ZQ,Zb,Qg,Zg,Qz,Za hnt];rfl)) (hh:sel false l h=hc:=by first|rfl|(simp only[Zd,Zc,Zf,ZQ,Zb,Qg,Zg,Qz,Za hnt];rfl)):SC (fun _=>Tryz.prog) f xs h Post:=ZH l H hn hl hx hh hq
theorem Zu2 (l:List Int) (hl:(l.length:Int)≤9223372036854775807):SC (fun _=>Tryz.prog) 13 [lst 1 XC 0 l] [.main] fun r _=>r= .bool fun _=>true:=by
 obtain⟨nt,hnt⟩:=Zs
 refine QP Tryz.func13 (body:=Zk Tryz.f13) rfl (by decide+kernel) ?_
 refine wS ?_
 refine ZS (c14 l hl) (by first|rfl|(simp only[Zd,Zc,Zf,ZQ,Zb,Qg,Zg,Qz,Za hnt];rfl)) fun r h₂ hp=>?_
 (try simp only[Zd,Zc,Zf,ZQ,Zb,Qg,Zg,Qz,Za hnt]at hp)
 obtain⟨s,rfl,rfl⟩:=hp
 refine wS ?_
 refine cL4 [1] (Zu0 s 4 3 3 (by omega) (by omega) (by omega)) fun r h₂ hp=>?_
 (try simp only[Zd,Zc,Zf,ZQ,Zb,Qg,Zg,Qz,Za hnt]at hp)
 obtain⟨t,s',ht,rfl,rfl⟩:=hp
 have hm:=ht.1
 have he:=hm.begin
 have hci:=fun x (h1:QB (callsOf t) t.runs.length x=0) (h2:x.steps.length≤6)=>ZqE he h1 h2
 have k331:=fun s=>ZuX s t 5 (ZcD he) (ZnW hm) ⟨by omega,by omega⟩
 refine wS ?_
 refine cL4 [1] (k331 s') fun r h₂ hp=>?_
 (try simp only[Zd,Zc,Zf,ZQ,Zb,Qg,Zg,Qz,Za hnt]at hp)
 obtain⟨x,s2,hx1,hx2,rfl,rfl⟩:=hp
 obtain⟨V,Y,E,hC⟩:=hci x hx1 hx2
 have kC:=hC.kC
 have kA:=hC.kA
 have his:=hC.is
 have kP:=hC.kP
 have kB:=hC.kB
 have kZ:=Zt3
 have k329:=ZuY x.since
 clear hC hci k331
 have q2:(E=0∧V=1∧decide (Y.fr<x.since)=false∧decide (Y.to_<Y.fr)=false)∨(E=11∧(V==1)=false):=by
  rcases his with⟨h1,h2,h3,h4⟩|⟨h1,h2⟩
  ·exact .inl ⟨h1,h2,decide_eq_false (by omega),decide_eq_false (by omega)⟩
  ·exact .inr ⟨h1,beq_eq_false_iff_ne.2 h2⟩
 clear his
 refine wS ?_
 refine Zl1 (kC) ?_
 refine wS ?_
 refine Zl1 (kA) ?_
 refine vS ?_
 refine Chk.mk (by rcases q2 with⟨h1,h2,h3,h4⟩|⟨h1,h2⟩<;>simp[nc,QK,QJ,QU,QI,Cn.p,h1,h2, *]) ?_
 refine Br.isF (by rcases q2 with⟨h1,h2,h3,h4⟩|⟨h1,h2⟩<;>simp[h1,h2, *]) ?_
 refine wS ?_
 refine Zl1 (kP) ?_
 refine wS ?_
 refine Zl1 (kB) ?_
 clear q2 kC kA
 refine wS ?_
 refine Br.isT rfl ?_
 refine wS ?_
 refine Zl1 (k329) ?_
 refine vS ?_
 refine Chk.mk (by(simp only[nc,QK,QJ,QU,QI,Cn.p,and_true,true_and,imp_self,cond_false,cond_true,Bool.not_false,Bool.not_true,decide_eq_true_eq,beq_self_eq_true,Bool.and_self,Bool.and_true]);all_goals ((repeat' (first|apply And.intro|intro _))<;>first|omega|rfl|trivial|assumption|contradiction|exact Or.inl rfl|decide+kernel|(simp;done))) ?_
 refine Br.isT (by simp) ?_
 refine vS ?_
 refine Chk.mk (by simp[nc,QK,QJ,QU,QI,Cn.p]) ?_
 refine Zl1 (kZ) ?_
 refine vS ?_
 refine Br.isT (by simp) ?_
 refine vS ?_
 try refine Chk.mk (by simp[nc,QK,QJ,QU,QI,Cn.p]) ?_
 refine cL4 [0] (Zu1) fun r h₂ hp=>?_
 (try simp only[Zd,Zc,Zf,ZQ,Zb,Qg,Zg,Qz,Za hnt]at hp)
 obtain⟨rfl,rfl⟩:=hp
 refine vS ?_
 try refine Chk.mk (by simp[nc,QK,QJ,QU,QI,Cn.p]) ?_
 simp
end Go.Proofs.YtjgpiclllehgmaaGreat.Vm
