/- kept's channel, its goroutine and the answers: by hand, as one piece. -/
import Derived.Test.YtjgpiclllehgmaaB5
import Derived.Test.YtjgpiclllehgmaaB3
import Derived.Test.YtjgpiclllehgmaaB4
set_option linter.all false
namespace Go.Proofs.Ytjgpiclllehgmaa.Vm
open Go Go.Conc Go.Proofs Go.Proofs.Ytjgpiclllehgmaa.Conc1
section
variable {P:Program} {b:FB} {ds:List Deferred} {k:List Item} {cs:List Frame} {t:Array Value}
theorem ZeQ {cx:Option Nat} {ops:Array Oper} {i:Nat} {rest:List Nat} {d:Option Tmp} {op:Op} {v:Value} {nv:Next} {w w':World} (H:Jh ops i d op) (hd:∀c,op≠ .defer c) (hm:∀o:Oper,o.op=op→Zs P (fun _=>False) (execOp (Qv t) o))
  (hr:∀o:Oper,o.op=op→(execOp (Qv t) o).run P w= .ok nv w') (hnv:nv= .value v∨(nv= .skip∧v=undef)):
  One P cx (Zz (mkF b t ds (.inRegion ops (i::rest)::k)) cs w) (Zz (mkF b (Z0 t d v) ds (.inRegion ops rest::k)) cs w'):=by
 obtain⟨o,ho,hop,hdst,hg⟩:=H.ok
 rw[←hdst]
 exact J8 ho (by simp[Region.wanted,hg]) (fun c=>by rw[hop];exact hd c) (hm o hop) (hr o hop) hnv
theorem Zic {ops:Array Oper} {rest:List Nat} {i d:Nat} {T:TypeId} {dr:ChanDir} {B:TypeId} {w:World} (H:Jh ops i (some d) (.makeChan T (.const (.int .i64 0)))) (hU:P.underlying T=some (.chan dr B)) (hB:∃i,P.info? B=some i):
  One P none (Zz (mkF b t ds (.inRegion ops (i::rest)::k)) cs w) (Zz (mkF b (Z0 t (some d) (.chan (some w.heap.size))) ds (.inRegion ops rest::k)) cs {w with heap:=w.heap.push (.chan 0 #[] false 0 0 false)}):=by
 obtain⟨o,ho,hop,hdst,hg⟩:=H.ok
 obtain⟨iB,hi⟩:=hB
 have hr:∀w:World,(execOp (Qv t) o).runT P w #[]=(.ok (.value (.chan (some w.heap.size))) {w with heap:=w.heap.push (.chan 0 #[] false 0 0 false)}, #[]):=fun w=>by
  have e:execOp (Qv t) o=(Instr.makeChan T (.int .i64 0)>>=fun x=>pure (.value x)):=by
   unfold execOp
   simp only[hop]
   rfl
  rw[e]
  unfold Instr.makeChan
  show(Sem.bind (Sem.bind (underlying T) _) _).runT P w #[]=_
  rw[Sem.runT_bind',Sem.runT_bind',Ze3 hU]
  dsimp only
  rw[show∀f:TypeInfo→Sem Value,(typeInfo B>>=f)=Sem.bind (typeInfo B) f from fun _=>rfl,Sem.runT_bind',Zc9 hi]
  dsimp only
  rw[if_neg (by simp[IntKind.max];decide)]
  rfl
 refine StepsC.main ?_
 refine .one (.head (.own ⟨Nat,Sem.new (.chan 0 #[] false 0 0 false) Sem.pure,fun n=>(mkF b (Z0 t (some d) (.chan (some n))) ds (.inRegion ops rest::k),cs),w.heap.size, #[],fun main w w' x es h=>?_,rfl,rfl,fun e he=>by simp at he⟩) (.refl _))
 have h:((.ok w.heap.size {w with heap:=w.heap.push (.chan 0 #[] false 0 0 false)}:Result Nat),(#[]:Array Event))=(.ok x w',es):=h
 simp only[Prod.mk.injEq,Result.ok.injEq]at h
 obtain⟨⟨rfl,rfl⟩,rfl⟩:=h
 have:=ZdG (P:=P) (b:=b) (ds:=ds) (k:=k) (cs:=cs) (rest:=rest) ho hg (fun c=>by rw[hop];intro h;cases h) (hr w) main
 rw[hdst]at this
 exact this
theorem ZkM {α:Type} {A:Array α} {x y:α} {j:Nat} (h:j≠A.size):(A.push x)[j]? =(A.push y)[j]? :=by
 rw[Array.getElem?_push,Array.getElem?_push,if_neg h,if_neg h]
theorem VR.setCx {R:RC} {a:AV} {v:Value} (c:Option Nat) (h:VR R a v):VR {R with cx:=c} a v:=by
 induction h with
 |pure a v h=>exact .pure a v h
 |undef v=>exact .undef v
 |ptr id off h=>exact .ptr (R:={R with cx:=c}) id off h
 |own s n f id v h hp hn he=>exact .own s n f id v h hp hn he
 |aptr id s e off i h he=>exact .aptr (R:={R with cx:=c}) id s e off i h he
 |msl id s lo n c i len cap h hlo hn hc hle=>exact .msl (R:={R with cx:=_}) id s lo n c i len cap h hlo hn hc hle
 |gsl id n a l c h hn he hl=>exact .gsl id n a l c h hn he hl
 |gptr id s n e off a h hn he=>exact .gptr id s n e off a h hn he
 |lit s cs b o us hs h1 h2 h3 ih=>exact .lit s cs b o us hs h1 ih h3
 |map id h=>exact .map (R:={R with cx:=c}) id h
 |mit id h h0=>exact .mit (R:={R with cx:=c}) id h h0
 |fn f xs bs us vs ha hb h1 h2 ih1 ih2=>exact .fn f xs bs us vs ha hb ih1 ih2
 |yld id h=>exact .yld (R:={R with cx:=c}) id h
 |agg cs us ha h ih=>exact .agg cs us ha ih
 |tup cs us ha h ih=>exact .tup cs us ha ih
 |gd g a v h ih=>exact .gd g a v ih
 |ob g b v h1 h2=>exact .ob g b v h1 h2
structure KC (P:Program) (fid:FuncId) (xs:Nat→List AV) (L:List Bool):Prop where
 run:∀(ch:Nat) (R:RC) (vs:Array Value),HR (fun _ _ _=>True) R [.gob (.chq ch fun _=>[])]→R.cx=some ch→R.n0=1→XW R (xs ch) vs→∀cs,∃t todo w' s r tm ts ty c,
  StepsC P (some ch) ⟨Frame.enter P fid vs .deferred,cs,R.w⟩ ⟨{mkF ⟨fid,true,none,[]⟩ t [ZhS ts ty c ch] todo with mode:=.returning},cs,w'⟩∧w'.heap[ch]? =some (.chan 0 (L.map Value.bool).toArray false s r tm)∧
  (∀b,b<R.w.heap.size→b≠ch→w'.heap[b]? =R.w.heap[b]?)∧R.w.heap.size≤w'.heap.size∧w'.os=R.w.os∧w'.tape=R.w.tape∧w'.output=R.w.output
def wCh (w:World) (v:Value) (T:TypeId) (f:Nat×Nat):World:={w with heap:=(w.heap.push (.chan 0 #[] false 0 0 false)).push (.cells #[v] T f)}
theorem Zjt {w:World} {v:Value} {T:TypeId} {f:Nat×Nat} {b:Nat} (h:b<w.heap.size):(wCh w v T f).heap[b]? =w.heap[b]? :=by
 show((w.heap.push _).push _)[b]? =_
 rw[Array.getElem?_push,if_neg (by simp;omega),Array.getElem?_push,if_neg (by omega)]
theorem Zmq {w:World} {v:Value} {T:TypeId} {f:Nat×Nat}:(wCh w v T f).heap[w.heap.size]? =some (.chan 0 #[] false 0 0 false):=by
 show((w.heap.push _).push _)[w.heap.size]? =_
 rw[Array.getElem?_push,if_neg (by simp),Array.getElem?_push,if_pos rfl]
theorem Zcy {w:World} {v:Value} {T:TypeId} {f:Nat×Nat}:(wCh w v T f).heap[w.heap.size+1]? =some (.cells #[v] T f):=by
 show((w.heap.push _).push _)[w.heap.size+1]? =_
 rw[Array.getElem?_push,if_pos (by simp)]
theorem Zbd {w:World} {v:Value} {T:TypeId} {f:Nat×Nat}:(wCh w v T f).heap.size=w.heap.size+2:=by
 show((w.heap.push _).push _).size=_
 simp
theorem Zc7 {w:World} {v:Value} {T:TypeId} {f:Nat×Nat}:(wCh w v T f).cell? ⟨w.heap.size+1,0,none⟩=some v:=by
 unfold World.cell?
 rw[Zcy]
 rfl
theorem Zi3 {w w':World} {b:Nat} (h:w'.heap[b]? =w.heap[b]?) (i:Nat):w'.cell? ⟨b,i,none⟩=w.cell? ⟨b,i,none⟩:=by
 unfold World.cell?
 simp only[h]
end
theorem Zom {G:Nat→Nat→Nat→Prop} {R:RC} {h:List Zh} (H:HR G R h) (T:TypeId):∃R₃:RC,R₃.w=wCh R.w (.chan (some R.w.heap.size)) T (0,1)∧R₃.cx=some R.w.heap.size∧R₃.n0=1∧HR (fun _ _ _=>True) R₃ [.gob (.chq R.w.heap.size fun _=>[])]∧
  (∀k a v,VR R a v→VR R₃ (Qr true [] h k a) v)∧VR R₃ (.iptr [.cch R.w.heap.size] 0) (.pointer (some ⟨R.w.heap.size+1,0,none⟩)):=by
 obtain⟨R₂,acx,a0,a1,a2,a3,a4,a5,a6,a7,a8⟩:=H.sel (fz:=true) (ι:=[]) (fun _ _ _=>True) (fun _ _ _ _=>trivial) (fun _ _ _ _ _ _ _ _=>trivial) (fun _ _ _ _=>trivial) (fun _ _ _ _ _ _ _ _ _=>trivial) List.nodup_nil (fun i hi=>by cases hi) (fun _ _ _ _ _ _ _ _ _=>trivial) 0 (Nat.zero_le _) (fun _=>Nat.zero_le _)
 let n:=R.w.heap.size
 let R₃:RC:={R₂ with w:=wCh R.w (.chan (some n)) T (0,1),cx:=some n,m:=1,n0:=1,α:=fun _=>⟨n,0⟩,ok:=fun b _ _=>b<n+2∧b≠n}
 have hs:R₃.w.heap.size=n+2:=Zbd
 have hle:({R₂ with cx:=some n}:RC).le R₃:=by
  refine⟨by show R₂.m≤1;rw[a2];exact Nat.zero_le _,fun id hi=>?_,fun id hi=>?_,fun id hi=>?_,fun b o m hk=>?_,fun b o m hk j hj=>?_,fun b hk es clk e=>?_,rfl⟩
  ·have hi:id<R₂.m:=hi
   rw[a2]at hi
   exact absurd hi (Nat.not_lt_zero _)
  ·have hi:id<R₂.m:=hi
   rw[a2]at hi
   exact absurd hi (Nat.not_lt_zero _)
  ·have hi:id<R₂.m:=hi
   rw[a2]at hi
   exact absurd hi (Nat.not_lt_zero _)
  ·have:=((a6.okd b o m).1 hk).1
   rw[a1]at this
   exact⟨by show b<R.w.heap.size+2;omega,by show b≠R.w.heap.size;omega⟩
  ·have:=((a6.okd b o m).1 hk).1
   rw[a1]at this
   show(wCh R.w _ T (0,1)).cell? _=R₂.w.cell? _
   rw[a1]
   exact Zi3 (Zjt this) _
  ·have:=((a6.okd b 0 1).1 hk).1
   rw[a1]at this
   show(wCh R.w _ T (0,1)).heap[b]? =_
   rw[Zjt this,←a1]
   exact e
 refine⟨R₃,rfl,rfl,rfl,⟨rfl,fun b o m=>?_,fun id blk hi=>?_,fun i j bi bj b hij hi hj=>?_,fun _ _ _ _ _ _ _ _=>trivial,fun _ _ _ _=>trivial,fun _ _ _ _ _ _ _ _=>trivial,Nat.le_refl 1⟩,fun k a v hv=>((a8 k a v hv).setCx (some n)).mono hle,.pure _ _ (.iptr _ _ _ _ (fun _=>.chan (some n)) (fun j c hj=>?_) (fun j c hj=>?_) ?_)⟩
 ·rw[hs]
  refine⟨fun hk=>⟨hk.1,trivial,fun id blk hi=>?_⟩,fun hk=>⟨hk.1,fun e=>?_⟩⟩
  ·cases id with
   |zero=>
    cases hi
    show¬n=b
    exact fun e=>hk.2 e.symm
   |succ id=>simp at hi
  ·exact hk.2.2 0 _ rfl (show n=b from e.symm)
 ·cases id with
  |zero=>
   cases hi
   exact⟨.chan 0 #[] false 0 0 false,Zmq,rfl,rfl,rfl,0,0,false,rfl⟩
  |succ id=>simp at hi
 ·cases i with
  |zero=>
   cases j with
   |zero=>exact absurd rfl hij
   |succ j=>simp at hj
  |succ i=>simp at hi
 ·cases j with
  |zero=>
   cases hj
   exact Zc7
  |succ j=>simp at hj
 ·cases j with
  |zero=>
   cases hj
   exact .cch n
  |succ j=>simp at hj
 ·exact⟨by show n+1<n+2;omega,by show n+1≠n;omega⟩
section
variable {P:Program} {b:FB} {ds:List Deferred} {k:List Item} {cs:List Frame} {t:Array Value}
variable {T I I':TypeId} {fid:FuncId} {o2 o3 o4 o5 o6 o7 o8 o9 o10:Array Oper}
theorem ZlI {i2 i3:Nat} {X:Code} (HO:ZaZ T I I' fid o2 o3 o4 o5 o6 o7 o8 o9 o10) {dr:ChanDir} {B:TypeId} (hU:P.underlying T=some (.chan dr B)) (hT:∃i,P.info? T=some i∧i.size=1∧i.zero=some (.chan none)) (hB:∃i,P.info? B=some i) (hsz:t.size=51) (w:World):
  Steps P none (Zz (mkF b t ds (.code (.region i2 o2 false):: .code (.seq (.region i3 o3 false) X)::k)) cs w)
   (Zz (mkF b (Z0 (Z0 (Z0 t (some 37) (.chan (some w.heap.size))) (some 11) (.pointer (some ⟨w.heap.size+1,0,none⟩))) (some 38) (.func (.func fid) #[] #[.pointer (some ⟨w.heap.size+1,0,none⟩),t.getD 4 undef,t.getD 9 undef,t.getD 10 undef])) ds (.inRegion o3 [1]:: .code X::k)) cs (wCh w (.chan (some w.heap.size)) T (0,0))):=by
 obtain⟨iT,hi,hs,hz⟩:=hT
 refine .head ZbK ?_
 rw[HO.s2]
 refine .head (Zic HO.a20 hU hB) ?_
 refine .head (ZeQ (nv:=.value (.pointer (some ⟨w.heap.size+1,0,none⟩))) (w':=wCh w (.chan none) T (0,0)) HO.a21 (fun _ h=>by cases h) (fun o ho=>?_) (fun o ho=>?_) (.inl rfl)) ?_
 ·unfold execOp
  simp only[ho]
  exact Zf (fun _=>Zfk) fun _ _=>Zl
 ·have hzr:(zeroValue T).run P {w with heap:=w.heap.push (.chan 0 #[] false 0 0 false)}= .ok (.chan none) {w with heap:=w.heap.push (.chan 0 #[] false 0 0 false)}:=by
   have:=Ze2 (w:={w with heap:=w.heap.push (.chan 0 #[] false 0 0 false)}) (es:= #[]) hi hz
   rw[Sem.runT_eq]at this
   exact congrArg Prod.fst this
  unfold execOp
  simp only[ho]
  simp only[Instr.alloc,Sem.run_bind,hzr,Result.andThen_ok,newVar,newRow,newObj,Value.cells]
  simp[Sem.run,wCh]
 refine .head (ZeQ (nv:=.skip) (v:=undef) (w':=wCh w (.chan (some w.heap.size)) T (0,0)) HO.a22 (fun _ h=>by cases h) (fun o ho=>?_) (fun o ho=>?_) (.inr ⟨rfl,rfl⟩)) ?_
 ·unfold execOp
  simp only[ho]
  exact Zf (fun _=>ZcL) fun _ _=>Zl
 ·have e1:Qv (Z0 (Z0 t (some 37) (.chan (some w.heap.size))) (some 11) (.pointer (some ⟨w.heap.size+1,0,none⟩))) (.tmp 11)= .pointer (some ⟨w.heap.size+1,0,none⟩):=Xa (by simp only[Z4];omega)
  have e2:Qv (Z0 (Z0 t (some 37) (.chan (some w.heap.size))) (some 11) (.pointer (some ⟨w.heap.size+1,0,none⟩))) (.tmp 37)= .chan (some w.heap.size):=(Yr (by decide)).trans (Xa (by omega))
  unfold execOp
  simp only[ho,e1,e2]
  have hsr:(sizeOf T).run P (wCh w (.chan none) T (0,0))= .ok 1 (wCh w (.chan none) T (0,0)):=by
   have:=Zc9 (w:=wCh w (.chan none) T (0,0)) (es:= #[]) hi
   rw[Sem.runT_eq]at this
   have h:=congrArg Prod.fst this
   unfold sizeOf
   have h:(typeInfo T).run P (wCh w (.chan none) T (0,0))= .ok iT (wCh w (.chan none) T (0,0)):=h
   rw[Sem.run_bind,h,Result.andThen_ok,hs]
   rfl
  simp only[Instr.storeAt,Instr.sureAddr,Sem.run_bind,Sem.run_pure,Result.andThen_ok,storeVar,hsr]
  rw[if_neg (by simp[Value.cells])]
  have hc:(wCh w (.chan none) T (0,0)).cell? (Addr.add ⟨w.heap.size+1,0,none⟩ 0)=some (.chan none):=Zc7
  have hfz:(wCh w (.chan none) T (0,0)).frozen? (Addr.add ⟨w.heap.size+1,0,none⟩ 0)=false:=by
   unfold World.frozen?
   rw[show(Addr.add ⟨w.heap.size+1,0,none⟩ 0).block=w.heap.size+1 from rfl,Zcy]
   simp
  have hset:(wCh w (.chan none) T (0,0)).setCell (Addr.add ⟨w.heap.size+1,0,none⟩ 0) (.chan (some w.heap.size))=wCh w (.chan (some w.heap.size)) T (0,0):=by
   unfold World.setCell wCh
   simp only[World.mk.injEq,and_true]
   apply Array.ext_getElem?
   intro j
   show(((w.heap.push _).push _).modify (w.heap.size+1) _)[j]? =_
   rw[Array.getElem?_modify]
   by_cases hj:w.heap.size+1=j
   ·subst hj
    rw[if_pos rfl,Array.getElem?_push,if_pos (by simp),Array.getElem?_push,if_pos (by simp)]
    rfl
   ·rw[if_neg hj]
    exact ZkM (by simpa using Ne.symm hj)
  simp[Value.cells,storeCells,store,Sem.run_bind,Sem.run,hc,hfz,hset]
 refine .head YI (.head Zhb (.head ZbK ?_))
 rw[HO.s3]
 refine .head (ZeQ (nv:=.value _) (v:=.func (.func fid) #[] #[.pointer (some ⟨w.heap.size+1,0,none⟩),t.getD 4 undef,t.getD 9 undef,t.getD 10 undef]) (w':=wCh w (.chan (some w.heap.size)) T (0,0)) HO.a30 (fun _ h=>by cases h) (fun o ho=>?_) (fun o ho=>?_) (.inl rfl)) (.refl _)
 ·unfold execOp
  simp only[ho]
  trivial
 ·have e1:(Qv (Z0 (Z0 t (some 37) (.chan (some w.heap.size))) (some 11) (.pointer (some ⟨w.heap.size+1,0,none⟩)))) (.tmp 11)= .pointer (some ⟨w.heap.size+1,0,none⟩):=Xa (by simp only[Z4];omega)
  have e2:(Qv (Z0 (Z0 t (some 37) (.chan (some w.heap.size))) (some 11) (.pointer (some ⟨w.heap.size+1,0,none⟩)))) (.tmp 4)=t.getD 4 undef:=(Yr (by decide)).trans (Yr (by decide))
  have e3:(Qv (Z0 (Z0 t (some 37) (.chan (some w.heap.size))) (some 11) (.pointer (some ⟨w.heap.size+1,0,none⟩)))) (.tmp 9)=t.getD 9 undef:=(Yr (by decide)).trans (Yr (by decide))
  have e4:(Qv (Z0 (Z0 t (some 37) (.chan (some w.heap.size))) (some 11) (.pointer (some ⟨w.heap.size+1,0,none⟩)))) (.tmp 10)=t.getD 10 undef:=(Yr (by decide)).trans (Yr (by decide))
  unfold execOp
  have e0:∀u:Array Value,Z0 u none undef=u:=fun _=>rfl
  simp only[ho,Instr.makeFunc,List.map_toArray,List.map_cons,List.map_nil,e0,e1,e2,e3,e4]
  rfl
theorem Zj3 {fn:Func} {body:Code} (hf:P.funcs[fid]? =some fn) (hb:fn.body=some body) (hn:(fn.name== "runtime.NumGoroutine")=false) (vs:Array Value) (main:Bool) (w:World):
  stepG P main (G (Zad P.funcs.size [{target:=.fn (.func fid) vs,args:= #[]}]) []) w= .go (G (Frame.enter P fid vs .deferred) [Zad P.funcs.size []]) w:=by
 have hr:(invoke (.fn (.func fid) vs) #[]).run P w= .ok (.enter fid vs) w:=by
  have hn:¬fn.name= "runtime.NumGoroutine" :=by simpa using hn
  simp[invoke,callFunc,Sem.run_bind,program,Sem.run,hf,hb,hn]
 have he:(invoke (.fn (.func fid) vs) #[]).events P w #[]= #[]:=by
  have hn:¬fn.name= "runtime.NumGoroutine" :=by simpa using hn
  unfold invoke callFunc Sem.events
  simp only
  show((Sem.bind program _).runT P w #[]).2=_
  rw[Sem.runT_bind',show program.runT P w #[]=(.ok P w, #[])from rfl]
  simp only[hf,hb]
  simp[hn]
 simp[G,stepG,unwind,Zad,callDeferred,hr,he,GStep.after,seen_none]
theorem Zqf {vs:Array Value} {X:Code} (HO:ZaZ T I I' fid o2 o3 o4 o5 o6 o7 o8 o9 o10) (h38:Qv t (.tmp 38)= .func (.func fid) #[] vs):
  Zmc P (mkF b t ds (.inRegion o3 [1]:: .code X::k)) cs (mkF b t ds (.inRegion o3 []:: .code X::k)) (Zad P.funcs.size [{target:=.fn (.func fid) vs,args:= #[]}]):=by
 obtain⟨o,ho,hop,hd,hg⟩:=HO.a31.ok
 intro w
 refine⟨#[],?_,fun e he=>by simp at he⟩
 have hf:(mkF b t ds (.inRegion o3 [1]:: .code X::k)).finish undef=mkF b t ds (.inRegion o3 []:: .code X::k):=by
  rw[Q4,ho]
  show mkF b (Z0 t o.dst undef) ds _=_
  rw[hd]
  rfl
 have e:execOp (Qv t) o=pure (.spawn {target:=.fn (.func fid) vs,args:= #[]}):=by
  unfold execOp
  simp only[hop,resolve,h38,Deferred.ofValue]
  simp
 rw[Zcj ho (by simp[Region.wanted,hg]) (fun c=>by rw[hop];intro h;cases h),e,←hf]
 unfold stepG.apply
 have hk:=b.not_early
 simp[GStep.after,G,mkF,seen_none,hk,Zad]
end
section
variable {P:Program} {T I I':TypeId} {fid:FuncId} {o2 o3 o4 o5 o6 o7 o8 o9 o10:Array Oper}
theorem ZnT {b:FB} {ds:List Deferred} {k:List Item} {cs:List Frame} {t:Array Value} {w:World} {i6 i7 i8 i9 i10 b0 b1:Nat} (HO:ZaZ T I I' fid o2 o3 o4 o5 o6 o7 o8 o9 o10) (hsz:t.size=51):
  Steps P none (Zz (got (mkF b t ds (atR i6 i7 i8 i9 i10 b0 b1 o6 o7 o8 o9 o10 k [0,1]),cs) false false).1 (got (mkF b t ds (atR i6 i7 i8 i9 i10 b0 b1 o6 o7 o8 o9 o10 k [0,1]),cs) false false).2 w)
   (Zz (mkF b (Z0 (Z0 t (some 40) (.tuple #[.bool false,.bool false])) (some 41) (.bool false)) ds k) cs w):=by
 obtain⟨o,ho,hop,hd,hg⟩:=HO.a60.ok
 have e:got (mkF b t ds (atR i6 i7 i8 i9 i10 b0 b1 o6 o7 o8 o9 o10 k [0,1]),cs) false false=(mkF b (Z0 t (some 40) (.tuple #[.bool false,.bool false])) ds (atR i6 i7 i8 i9 i10 b0 b1 o6 o7 o8 o9 o10 k [1]),cs):=by
  unfold got atR
  rw[Q4,ho]
  show(mkF b (Z0 _ o.dst _) ds _,cs)=_
  rw[hd]
 rw[e]
 have e40:Qv (Z0 t (some 40) (.tuple #[.bool false,.bool false])) (.tmp 40)= .tuple #[.bool false,.bool false]:=Xa (by omega)
 unfold atR
 refine .head (ZeQ (nv:=.value _) (v:=.bool false) (w':=w) HO.a61 (fun _ h=>by cases h) (fun o ho=>?_) (fun o ho=>?_) (.inl rfl)) ?_
 ·rw[Jp e40 rfl o ho]
  trivial
 ·rw[Jp (v:=.bool false) e40 rfl o ho]
  rfl
 refine .head YI (.head Zhb (.head (ZkF (v:=false) ?_) (.head (ZkE ?_) (.refl _))))
 ·rw[ZbP]
  exact Xa (by simp only[Z4];omega)
 ·simp[exitTo]
theorem Zs7 {R:RC} {t:Array Value} {y n:Int} (hsz:t.size=51) (h12:t.getD 12 undef= .int .i64 y) (h13:t.getD 13 undef= .int .i64 n):SL R (mkS 51 [(12,.int .i64 fun _=>y),(13,.int .i64 fun _=>n)]) t:=by
 refine⟨by rw[hsz];rfl,fun i a hi=>?_⟩
 by_cases e13:i=13
 ·subst e13
  have hi:some (AV.int .i64 fun _=>n)=some a:=hi
  cases hi
  rw[h13]
  exact .pure _ _ (.int _ _)
 by_cases e12:i=12
 ·subst e12
  have hi:some (AV.int .i64 fun _=>y)=some a:=hi
  cases hi
  rw[h12]
  exact .pure _ _ (.int _ _)
 have hi:(((List.replicate 51 AV.undef).set 12 (.int .i64 fun _=>y)).set 13 (.int .i64 fun _=>n))[i]? =some a:=hi
 rw[List.getElem?_set_ne (Ne.symm e13),List.getElem?_set_ne (Ne.symm e12),List.getElem?_replicate]at hi
 split at hi
 ·cases hi
  exact .undef _
 ·cases hi
theorem Zqe {p:Unit→Program} {nb:Nat} {K:Ex→List AV→List Zh→Cd→Prop} {s:List AV} {h:List Zh} {i2 i3 i4 i5 i6 i7 i8 i9 i10 b0 b1:Nat} {x11:Code} (HO:ZaZ T I I' fid o2 o3 o4 o5 o6 o7 o8 o9 o10) {dr:ChanDir} {B:TypeId}
  (hU:(p ()).underlying T=some (.chan dr B)) (hT:∃i,(p ()).info? T=some i∧i.size=1∧i.zero=some (.chan none)) (hB:∃i,(p ()).info? B=some i∧i.zero=some (.bool false))
  {fn:Func} {body:Code} (hf:(p ()).funcs[fid]? =some fn) (hb:fn.body=some body) (hn:(fn.name== "runtime.NumGoroutine")=false) (hr:fn.results= #[]) (hlen:s.length=51) (hmain:h[0]? =some .main)
  {x4 x9 x10:AV} (h4:Qr true [] h 5 (s.getD 4 .undef)=x4) (h9:Qr true [] h 5 (s.getD 9 .undef)=x9) (h10:Qr true [] h 5 (s.getD 10 .undef)=x10) {L:List Bool} (child:KC (p ()) fid (fun ch=>[.iptr [.cch ch] 0,x4,x9,x10]) L)
  (rest:HP false nb p [.code x11] K (mkS 51 [(12,.int .i64 fun _=>cnt true L 0),(13,.int .i64 fun _=>cnt false L 0)]) h):
  HP false nb p [.code (.region i2 o2 false),.code (.seq (.region i3 o3 false) (.seq (.region i4 o4 false) (.seq (.seq (.region i5 o5 false) (.block b0 (.loop (lpB i6 i7 i8 i9 i10 b0 b1 o6 o7 o8 o9 o10)))) x11)))] K s h:=by
 refine⟨fun hK R₀ h₀ hnb R t hi hs b ds k cs hd=>?_⟩
 have hcx:R.cx=none:=hi.hr.blk 0 .main hmain
 have hsz:t.size=51:=hs.1.trans hlen
 have S1:=ZlI (P:=p ()) (b:=b.1) (ds:=ds) (k:=k) (cs:=cs) (t:=t) (i2:=i2) (i3:=i3) (X:=.seq (.region i4 o4 false) (.seq (.seq (.region i5 o5 false) (.block b0 (.loop (lpB i6 i7 i8 i9 i10 b0 b1 o6 o7 o8 o9 o10)))) x11)) HO hU hT (hB.imp fun _ h=>h.1) hsz R.w
 generalize hvs:(#[.pointer (some ⟨R.w.heap.size+1,0,none⟩),t.getD 4 undef,t.getD 9 undef,t.getD 10 undef]:Array Value)=vs at S1
 generalize ht3:Z0 (Z0 (Z0 t (some 37) (.chan (some R.w.heap.size))) (some 11) (.pointer (some ⟨R.w.heap.size+1,0,none⟩))) (some 38) (.func (.func fid) #[] vs)=t3 at S1
 have hsz3:t3.size=51:=by rw[←ht3];simp only[Z4];exact hsz
 have h38:Qv t3 (.tmp 38)= .func (.func fid) #[] vs:=by rw[←ht3];exact Xa (by simp only[Z4];omega)
 have h11:t3.getD 11 undef= .pointer (some ⟨R.w.heap.size+1,0,none⟩):=by rw[←ht3];exact(QC (by decide)).trans (Yj (by simp only[Z4];omega))
 have h37:t3.getD 37 undef= .chan (some R.w.heap.size):=by rw[←ht3];exact(QC (by decide)).trans ((QC (by decide)).trans (Yj (by omega)))
 have hgo:=Zqf (P:=p ()) (b:=b.1) (ds:=ds) (k:=k) (cs:=cs) (X:=.seq (.region i4 o4 false) (.seq (.seq (.region i5 o5 false) (.block b0 (.loop (lpB i6 i7 i8 i9 i10 b0 b1 o6 o7 o8 o9 o10)))) x11)) HO h38
 obtain⟨hkf,hE⟩:=ZlJ (P:=p ()) (ch:=R.w.heap.size) (cell:=R.w.heap.size+1) (b:=b.1) (ds:=ds) (k:=k) (cs:=cs) HO hU hB (t:=t3) (by omega) h11 h37 rfl hgo
 obtain⟨R₃,r1,r2,r3,r4,r5,r6⟩:=Zom hi.hr T
 have hrow:XW R₃ [.iptr [.cch R.w.heap.size] 0,x4,x9,x10] vs:=by
  subst hvs
  refine⟨rfl,fun j c hj=>?_⟩
  match j,hj with
  |0,hj=>cases hj;exact r6
  |1,hj=>
   cases hj
   rw[←h4]
   exact r5 5 _ _ (hs.getD 4)
  |2,hj=>
   cases hj
   rw[←h9]
   exact r5 5 _ _ (hs.getD 9)
  |3,hj=>
   cases hj
   rw[←h10]
   exact r5 5 _ _ (hs.getD 10)
  |j+4,hj=>simp at hj
 obtain⟨tc,todo,wc,sc,rc,tmc,ts,ty,c,g1,g2,g3,g4,g5,g6,g7⟩:=child.run R.w.heap.size R₃ vs r4 r2 r3 hrow [Zad (p ()).funcs.size []]
 rw[r1]at g1 g3 g4 g5 g6 g7
 have hFz:Fz (R.w.heap.size+1) (wCh R.w (.chan (some R.w.heap.size)) T (0,1)) (wCh R.w (.chan (some R.w.heap.size)) T (0,0)):=by
  refine⟨rfl,rfl,rfl,rfl,by rw[Zbd,Zbd],fun j hj=>?_,_,T,(0,0),Zcy,Zcy⟩
  exact ZkM (by simpa using hj)
 obtain⟨w',hw',S2⟩:=ZnY (P:=p ()) hkf hgo hE Zmq Zc7 (by omega) (fun main w=>Zj3 hf hb hn vs main w) hFz g1 g2 (Zor hf hr)
 have S3:=ZnT (P:=p ()) (b:=b.1) (ds:=ds) (k:=.code x11::k) (cs:=cs) (t:=L.foldl stp (st0 R.w.heap.size t3)) (w:=w'.setChan R.w.heap.size 0 #[] true sc sc tmc) (i6:=i6) (i7:=i7) (i8:=i8) (i9:=i9) (i10:=i10) (b0:=b0) (b1:=b1) HO ((ZhH (by omega) h11 L).size.trans hsz3)
 have hst:=ZhH (ch:=R.w.heap.size) (cell:=R.w.heap.size+1) (t:=t3) (by omega) h11 L
 generalize htz:Z0 (Z0 (L.foldl stp (st0 R.w.heap.size t3)) (some 40) (.tuple #[.bool false,.bool false])) (some 41) (.bool false)=tz at S3
 have hszz:tz.size=51:=by rw[←htz];simp only[Z4];exact hst.size.trans hsz3
 have hz12:tz.getD 12 undef= .int .i64 (cnt true L 0):=by rw[←htz];exact(QC (by decide)).trans ((QC (by decide)).trans hst.c12)
 have hz13:tz.getD 13 undef= .int .i64 (cnt false L 0):=by rw[←htz];exact(QC (by decide)).trans ((QC (by decide)).trans hst.c13)
 generalize hwz:w'.setChan R.w.heap.size 0 #[] true sc sc tmc=wz at S2 S3
 have hheap:∀b,b<R.w.heap.size→wz.heap[b]? =R.w.heap[b]? :=fun b hb=>by
  rw[←hwz]
  show(w'.heap.setIfInBounds R.w.heap.size _)[b]? =_
  rw[Array.getElem?_setIfInBounds_ne (by omega),hw'.ne b (by omega)]
  exact(g3 b (by rw[Zbd];omega) (by omega)).trans (Zjt hb)
 have hsize:R.w.heap.size≤wz.heap.size:=by
  rw[←hwz]
  show _≤(w'.heap.setIfInBounds R.w.heap.size _).size
  rw[Array.size_setIfInBounds,hw'.size]
  rw[Zbd]at g4
  exact Nat.le_trans (by omega) g4
 have hos:wz.os=R.w.os:=by rw[←hwz];exact hw'.os.trans g5
 have htape:wz.tape=R.w.tape:=by rw[←hwz];exact hw'.tape.trans g6
 have hout:wz.output=R.w.output:=by rw[←hwz];exact hw'.output.trans g7
 let R':RC:={R with w:=wz,ok:=fun b o n=>b<wz.heap.size∧Gof R₀ h₀ b o n∧Zf1 R h b o n}
 have hok:∀b o n,R.ok b o n→R'.ok b o n:=fun b o n k=>by
  obtain⟨h1,h2,h3⟩:=(hi.hr.okd _ _ _).1 k
  exact⟨by omega,h2,h3⟩
 have hkeep:∀b o n,R.ok b o n→∀j,j<n→R'.w.cell? ⟨b,o+j,none⟩=R.w.cell? ⟨b,o+j,none⟩:=fun b o n k j hj=>Zi3 (hheap b ((hi.hr.okd _ _ _).1 k).1) _
 have hle:R.le R':=⟨Nat.le_refl _,fun _ _=>rfl,fun _ _=>⟨Int.le_refl _,fun _=>rfl⟩,fun _ _=>.refl _,hok,hkeep,fun b k es clk e=>(hheap b ((hi.hr.okd _ _ _).1 k).1).trans e,rfl⟩
 have hH:HR (Gof R₀ h₀) R' h:=⟨hi.hr.len,fun _ _ _=>Iff.rfl,fun id blk hid=>(hi.hr.blk id blk hid).mono hle rfl rfl rfl rfl fun b hp=>hheap b (hi.hr.phys_lt hid hp),hi.hr.dis,hi.hr.cl,fun b o n hb=>hi.hr.fresh b o n (Nat.le_trans hsize hb),hi.hr.tokG,hi.hr.n0m⟩
 have hx:Q9 R h R' h:=⟨rfl,hos,htape,hout,hsize,Nat.le_refl _,fun _ _=>rfl,hok,hkeep,fun b hb _=>hheap b hb,fun id blk b hid hp=>.inr ⟨id,blk,hid,hp,.inl rfl⟩⟩
 have hi':JI R₀ h₀ R' h:=hi.step hH hx hle
 obtain⟨e,s',h',R'',t',ds',a1,a2,a5,a6,a7,a8⟩:=rest.run hK R₀ h₀ hnb R' tz hi' (Zs7 hszz hz12 hz13) b ds k cs (hd.ext hi.hr hx)
 refine⟨e,s',h',R'',t',ds',a1,a2,a5,a6,a7,?_⟩
 have hcx':R'.cx=none:=hcx
 rw[hcx']at a8
 rw[hcx]
 exact Arr.of_steps (Steps.trans S1 (Steps.trans S2 S3)) a8
end
end Go.Proofs.Ytjgpiclllehgmaa.Vm
namespace Go.Proofs.Ytjgpiclllehgmaa.Vm
open Go Go.Conc Go.Proofs Go.Proofs.Ytjgpiclllehgmaa.Conc1
def Zon (ch:Nat) (L:List Bool) (e:Ex) (s:List AV) (h:List Zh) (c:Cd):Prop:=match e with
 |.exit _=>False
 |_=>chk c (∃h2,h= .gob (.chq ch fun _=>L)::h2)
theorem ZgR {ch:Nat} {L:List Bool} {e:Ex} {s:List AV} {h:List Zh} {c:Cd} (H:Zon ch L e s h c):ZN c∧(∀id,e≠ .exit id)∧∃h2,h= .gob (.chq ch fun _=>L)::h2:=by
 cases e with
 |exit id=>exact H.elim
 |normal=>exact⟨(Z2 H).1,(fun _ h=>by cases h),(Z2 H).2⟩
 |ret=>exact⟨(Z2 H).1,(fun _ h=>by cases h),(Z2 H).2⟩
theorem Zhi {P:Program} {T:TypeId} {dr:ChanDir} {B:TypeId} {w:World} {a:Addr} {v:Value} (hU:P.underlying T=some (.chan dr B)) (hw:w.cell? a=some v):(Instr.loadAt T (.pointer (some a))).run P w= .ok v w:=by
 have h1:(isAgg T).run P w= .ok false w:=by
  unfold isAgg
  have:=Ze3 (w:=w) (es:= #[]) hU
  rw[Sem.runT_eq]at this
  have h:(underlying T).run P w= .ok (.chan dr B) w:=congrArg Prod.fst this
  rw[Sem.run_bind,h,Result.andThen_ok]
  rfl
 simp only[Instr.loadAt,Instr.sureAddr,Sem.run_bind,Sem.run_pure,Result.andThen_ok,loadVar,h1,Bool.false_eq_true,if_false]
 simp[load,Sem.run,hw]
theorem Zol {p:Unit→Program} {fid:FuncId} {fn:Func} {i0:Nat} {o0:Array Oper} {x1:Code} {T:TypeId} {dr:ChanDir} {B:TypeId} {ts:Array TypeId} {L:List Bool} {ys:List AV} (hf:(p ()).funcs[fid]? =some fn) (hb:fn.body=some (.seq (.region i0 o0 false) x1)) (hs0:List.range o0.size=[0,1])
  (a0:Jh o0 0 (some 6) (.load T (.tmp 0))) (a1:Jh o0 1 none (.defer {callee:=.builtin .close,args:= #[.tmp 6],argTypes:=ts})) (hU:(p ()).underlying T=some (.chan dr B)) (hnt:6<fn.ntmps)
  (H:∀ch,HP false 1 p [.code x1] (Zon ch L) ((entry fn.ntmps (.iptr [.cch ch] 0::ys)).set 6 (.cch ch)) [.gob (.chq ch fun _=>[])]):KC (p ()) fid (fun ch=>.iptr [.cch ch] 0::ys) L:=by
 refine⟨fun ch R vs HH hcx hn0 ha cs=>?_⟩
 obtain⟨ha1,ha2⟩:=ha
 have hfr:Frame.enter (p ()) fid vs .deferred=mkF ⟨fid,true,none,[]⟩ (vs++Array.replicate (fn.ntmps-vs.size) undef) [] [.code (.seq (.region i0 o0 false) x1)]:=by
  simp[Frame.enter,mkF,FB.kind,hf,hb]
 have hsl:SL R (entry fn.ntmps (.iptr [.cch ch] 0::ys)) (vs++Array.replicate (fn.ntmps-vs.size) undef):=by
  refine⟨by simp[entry,←ha1];omega,fun i a hi=>?_⟩
  rw[entry,List.getElem?_append]at hi
  split at hi
  ·rename_i hlt
   have:=ha2 i a hi
   rw[Array.getD_eq_getD_getElem?]at this⊢
   rw[Array.getElem?_append_left (by omega)]
   exact this
  ·rw[List.getElem?_replicate]at hi
   split at hi
   ·cases hi
    exact .undef _
   ·cases hi
 generalize ht:vs++Array.replicate (fn.ntmps-vs.size) undef=t at hfr hsl
 have hv0:∃a:Addr,t.getD 0 undef= .pointer (some a)∧R.w.cell? a=some (.chan (some ch)):=by
  have h0:=hsl.getD 0
  have h0:VR R (.iptr [.cch ch] 0) (t.getD 0 undef):=h0
  generalize t.getD 0 undef=v at h0
  cases h0 with
  |pure _ _ hp=>
   cases hp with
   |iptr _ _ b o us h1 h2 h3=>
    have e:=h1 0 _ rfl
    have e2:=h2 0 _ rfl
    refine⟨_,rfl,?_⟩
    cases hu:us 0 with
    |chan c=>
     rw[hu]at e2 e
     cases e2
     exact e
    |_=>rw[hu]at e2;cases e2
 obtain⟨a,hv0,hcell⟩:=hv0
 have hsz:6<t.size:=by
  have:=hsl.1
  rw[this]
  simp only[entry,List.length_append,List.length_replicate]
  omega
 have hno:(⟨fid,true,none,[]⟩:FB).roundOf=none:=rfl
 obtain⟨o,ho,hop,hdst,hg⟩:=a1.ok
 let t1:=Z0 t (some 6) (.chan (some ch))
 let D:=ZhS ts o.type #[false] ch
 have S0:StepsC (p ()) (some ch) (Zz (mkF ⟨fid,true,none,[]⟩ t [] [.code (.seq (.region i0 o0 false) x1)]) cs R.w) (Zz (mkF ⟨fid,true,none,[]⟩ t1 [] [.inRegion o0 [1],.code x1]) cs R.w):=by
  refine .head Zhb (.head ZbK ?_)
  rw[hs0]
  refine .one (ZeQ (nv:=.value _) (v:=.chan (some ch)) (w':=R.w) a0 (fun _ h=>by cases h) (fun o ho=>?_) (fun o ho=>?_) (.inl rfl))
  ·unfold execOp
   simp only[ho]
   exact Zf (fun _=>Zd6) fun _ _=>Zl
  ·have e:Qv t (.tmp 0)= .pointer (some a):=hv0
   unfold execOp
   simp only[ho,e,Sem.run_bind,Zhi hU hcell,Result.andThen_ok,Sem.run_pure]
 have S1:One (p ()) (some ch) (Zz (mkF ⟨fid,true,none,[]⟩ t1 [] [.inRegion o0 [1],.code x1]) cs R.w) (Zz (mkF ⟨fid,true,none,[]⟩ t1 [D] [.inRegion o0 [],.code x1]) cs R.w):=by
  refine QS fun main w=>?_
  have e6:Qv t1 (.tmp 6)= .chan (some ch):=Xa hsz
  have e:execOp (Qv t1) o=pure (.defer D):=by
   unfold execOp
   simp only[hop,resolve,List.map_toArray,List.map_cons,List.map_nil,e6]
   rfl
  have hop2:(mkF ⟨fid,true,none,[]⟩ t1 [] [.inRegion o0 [1],.code x1]).oper?=some o:=by simp[Frame.oper?,mkF,ho]
  have he:(mkF ⟨fid,true,none,[]⟩ t1 [] [.inRegion o0 [1],.code x1]).eval=Qv t1:=ZbP _
  have h2:stepG (p ()) main (G (mkF ⟨fid,true,none,[]⟩ t1 [] [.inRegion o0 [1],.code x1]) cs) w=stepG.oper (p ()) true (mkF ⟨fid,true,none,[]⟩ t1 [] [.inRegion o0 [1],.code x1]) cs none w:=by
   simp[stepG,stepG.exec,mkF,G,ho,Region.wanted,hg]
  rw[h2]
  unfold stepG.oper
  simp only[hop2,he,e]
  unfold stepG.apply
  have hk:(mkF ⟨fid,true,none,[]⟩ t1 [D] [.inRegion o0 [1],.code x1]).finish undef=mkF ⟨fid,true,none,[]⟩ t1 [D] [.inRegion o0 [],.code x1]:=by
   rw[Q4,ho]
   show mkF _ (Z0 t1 o.dst undef) _ _=_
   rw[hdst]
   rfl
  rw[←hk]
  simp[GStep.after,G,mkF,seen_none,FB.kind]
 have S2:One (p ()) (some ch) (Zz (mkF ⟨fid,true,none,[]⟩ t1 [D] [.inRegion o0 [],.code x1]) cs R.w) (Zz (mkF ⟨fid,true,none,[D]⟩ t1 [D] ([.code x1]++[])) cs R.w):=YI
 have hn0':([.gob (.chq ch fun _=>[])]:List Zh).length≤R.n0:=by rw[hn0];exact Nat.le_refl 1
 have hsl1:SL R ((entry fn.ntmps (.iptr [.cch ch] 0::ys)).set 6 (.cch ch)) t1:=hsl.set (.pure _ _ (.cch ch)) 6
 obtain⟨e,s',h',R',t',ds',⟨c,hk⟩,hi,hs,hd,_,hA⟩:=(H ch).run (fun e s h c hk=>(ZgR hk).1) R [.gob (.chq ch fun _=>[])] (by rw[hn0];exact Nat.le_refl 1) R t1 (JI.refl HH hn0') hsl1 ⟨⟨fid,true,none,[D]⟩,fun _=>rfl⟩ [D] [] cs ⟨[],rfl,List.nodup_nil,fun r hr=>by cases hr⟩
 obtain⟨hc,hne,h2,rfl⟩:=ZgR hk
 rw[hcx]at hA
 have hret:∃todo,Steps (p ()) (some ch) (Zz (mkF ⟨fid,true,none,[D]⟩ t1 [D] ([.code x1]++[])) cs R.w) (Zz {mkF ⟨fid,true,none,[D]⟩ t' ds' todo with mode:=.returning} cs R'.w):=by
  cases e with
  |exit id=>exact absurd rfl (hne id)
  |normal=>exact⟨[],Steps.trans hA (.one (Znk rfl))⟩
  |ret=>
   obtain⟨todo,hA⟩:=hA
   exact⟨.code .ret::todo,Steps.trans hA (.one (Znh rfl))⟩
 obtain⟨todo,hst⟩:=hret
 obtain⟨rs,rfl,hnd,hrs⟩:=hd
 obtain⟨R2,hi2,hle2,hst2⟩:=Zci (P:=p ()) (b:=⟨fid,true,none,[D]⟩) (base:=[D]) (t:=t') (todo:=todo) (cs:=cs) rs R' hnd hi hrs
 have hcx2:R'.cx=some ch:=hi.le.cx.trans hcx
 rw[hcx2]at hst2
 obtain⟨ob,hob,_,hq,_,sN,rN,tmN,rfl⟩:=hi2.hr.blk 0 _ rfl
 have hα:(R2.α 0).b=(R.α 0).b:=by
  have:R2.α 0=R.α 0:=hi2.le.α 0 (by rw[←HH.len];exact Nat.zero_lt_one)
  rw[this]
 refine⟨t',todo,R2.w,sN,rN,tmN,ts,o.type, #[false],?_,?_,fun b hb hne=>?_,hi2.ext.size,hi2.ext.os,hi2.ext.tape,hi2.ext.output⟩
 ·rw[hfr]
  exact S0.trans (.head S1 (.head S2 (hst.trans hst2)))
 ·rw[←hq]
  exact hob
 ·refine hi2.ext.frame b hb fun id blk hid hp=>?_
  cases id with
  |zero=>
   cases hid
   have hp:(R.α 0).b=b:=hp
   rw[←hα,hq]at hp
   exact hne hp.symm
  |succ id=>simp at hid
end Go.Proofs.Ytjgpiclllehgmaa.Vm
namespace Go.Proofs.Ytjgpiclllehgmaa.Vm
attribute [local irreducible] Dn
open Go Go.Proofs Sp
set_option maxRecDepth 100000
set_option maxHeartbeats 4000000
def Zcc (t:Zd) (f r st:Int):Nat→List Bool
 |0=>[]
 |i+1=>Zcc t f r st i++[Y6 t f r st i]
theorem ZtY (t:Zd) (f r st:Int) (hw:ZF t) (hc:ZdM t f r st):KC Try.prog 75 (fun ch=>.iptr [.cch ch] 0::[XY t,.iptr [.int .i64 fun _=>f,.int .i64 fun _=>ZV (Sp.Zm (callsOf t) f) st] 0,.iptr [.int .i64 fun _=>r,.int .i64 fun _=>ZY (Sp.Zm (callsOf t) r) st] 0]) (Zcc t f r st (Z6 t)):=by
 obtain⟨nt,hnt⟩:=Zr
 have k382:=Zqx t
 have k435:=fun B0 B1 B2 B3 B4 B5 stop=>Zqw t hw B0 B1 B2 B3 B4 B5 stop
 have hl1:=fun x=> @Zaj t x _ _ hc.1
 have hl2:=fun x=> @Zaj t x _ _ hc.2
 have hkb:∀i,Y6 t f r st i=decide ((ZS t (Zj t i) f (ZV (Sp.Zm (callsOf t) f) st)).comes≤(ZS t (Zj t i) r (ZY (Sp.Zm (callsOf t) r) st)).goes):=fun _=>rfl
 have hL0:Zcc t f r st 0=[]:=rfl
 have hLS:∀i,Zcc t f r st (i+1)=Zcc t f r st i++[Y6 t f r st i]:=fun _=>rfl
 generalize Zcc t f r st=KL at*
 generalize Y6 t f r st=KB at*
 generalize ZV (Sp.Zm (callsOf t) f) st=fo at*
 generalize ZY (Sp.Zm (callsOf t) r) st=to at*
 generalize ZS t=HH at*
 generalize Zj t=TA at*
 generalize Qf t=HL at*
 refine Zol (p:=fun _=>Try.prog) (dr:=.both) (B:=4) Try.func75 (show Try.f75.body=_ from rfl) rfl ⟨_,rfl,rfl,rfl,rfl⟩ ⟨_,rfl,rfl,rfl,rfl⟩ (by kernel_rfl) (by decide) fun ch=>?_
 unfold XY ZX at*
 simp only[Za hnt,Zb,Zx]at*
 refine Zeb false false [] [] false ?_
 refine wS ?_
 refine ZU (k382) (by first|rfl|(simp only[Ze,Zc,Zg,Zb,Za hnt];rfl)) fun r h₂ hp=>?_
 (try simp only[Ze,Zc,Zg,Zb,Za hnt]at hp)
 obtain⟨rfl,rfl⟩:=hp
 refine wS ?_
 refine Ze5 [0,2,3,8] [.tok 1 fun _=>0,.tok 1 fun _=>0,.tok 1 fun _=>0,.tok 1 fun _=>0] [(0,.gob (.chq ch fun _=>KL 0))] (fid:=42) (first:=[]) ?_ rfl ?_ ?_
 ·rw[hL0]
  (refine To.of [(1,false),(1,false),(1,false),(1,false)] ?_;cbv;(try simp only[nc]);(repeat' (first|exact trivial|exact ZB.refl _|exact ZJ.refl _|refine⟨?_,?_⟩|refine ZJ.cells ?_|refine ZB.agg ?_|refine ZB.tup ?_));(all_goals (first|exact X3|skip)))
 ·exact XJ
 refine SC.mono (k435 (fun i=>.gob (.chq ch fun _=>KL i)) (fun _=>_) (fun _=>_) (fun _=>_) (fun _=>_) (fun _=>_) (fun _=>false) ?_ ?_ ?_ ?_ ?_ ?_ ?_) ?_
 iterate 6 exact fun i=>Qs.of rfl
 ·intro i hi hno
  have e1:(((HL (TA i)).lookup [f,fo]).getD []).headD 0=(HH (TA i) f fo).comes:=by rw[hl1];rfl
  have e2:(((HL (TA i)).lookup [r,to]).getD []).tail.tail.headD 0=(HH (TA i) r to).goes:=by rw[hl2];rfl
  refine YC.less (Zch false false [] rfl rfl ?_)
  refine wS ?_
  simp only[e1,e2,←hkb,←hLS]
  refine⟨.bool fun _=>true,_,?_,rfl,rfl⟩
  exact ZL
 ·intro v h hh
  obtain⟨m,hm,rfl⟩:=hh
  have hmN:m=Z6 t:=by
   rcases hm with h|⟨_,_,_,h,_⟩
   ·exact h.1
   ·cases h
  subst hmN
  refine wS ?_
  exact⟨_,rfl⟩
end Go.Proofs.Ytjgpiclllehgmaa.Vm
namespace Go.Proofs.Ytjgpiclllehgmaa.Vm
attribute [local irreducible] Dn
open Go Go.Proofs Sp
set_option maxRecDepth 100000
set_option maxHeartbeats 4000000
theorem ZkW {o:Option TypeInfo} {n:Nat} {z:Option Value} (h:o.map (fun i=>(i.size,i.zero))=some (n,z)):∃i,o=some i∧i.size=n∧i.zero=z:=by
 cases o with
 |none=>cases h
 |some i=>
  have h:some (i.size,i.zero)=some (n,z):=h
  simp only[Option.some.injEq,Prod.mk.injEq]at h
  exact⟨i,rfl,h.1,h.2⟩
theorem ZfI (w v:Bool):∀(l:List Bool) (n:Int),cnt w (l++[v]) n=if v=w then IntKind.i64.wrap (cnt w l n+1)else cnt w l n
 |[],_=>rfl
 |x::l,n=>ZfI w v l _
theorem ZeL {x:Int} (h:0≤x∧x<1000000):IntKind.i64.wrap x=x:=Zba x ⟨by omega,by omega⟩
theorem ZkN {ds:List ZK} (h:∀d∈ds,d.by_.length≤3):∀m,m≤ds.length→XE ds m≤3^ m
 |0,_=>Nat.le_refl _
 |m+1,hm=>by
  unfold XE
  rw[Nat.pow_succ]
  refine Nat.mul_le_mul (ZkN h m (by omega)) ?_
  unfold lenAt
  rw[List.getD_eq_getElem?_getD,List.getElem?_eq_getElem hm]
  exact h _ (List.getElem_mem hm)
theorem Zp9 {t:Zd} (hw:ZF t):Z6 t≤729:=by
 have h:=ZkN (fun d hd=>(hw.d d hd).2.1) t.delays.length (Nat.le_refl _)
 have h2:3^ t.delays.length≤3^ 6:=Nat.pow_le_pow_right (by omega) hw.dlen
 exact Nat.le_trans h (Nat.le_trans h2 (by decide))
theorem ZfG (p:Nat→Bool):∀n,0≤Xx p n∧Xx p n≤n
 |0=>⟨Int.le_refl _,Int.le_refl _⟩
 |n+1=>by
  have:=ZfG p n
  unfold Xx
  split<;>omega
theorem Zoj (t:Zd) (f r st:Int):∀n,n≤729→cnt true (Zcc t f r st n) 0=Xx (Y6 t f r st) n∧cnt false (Zcc t f r st n) 0=Xx (fun i=> !Y6 t f r st i) n
 |0,_=>⟨rfl,rfl⟩
 |n+1,h=>by
  have ih:=Zoj t f r st n (by omega)
  have b1:=ZfG (Y6 t f r st) n
  have b2:=ZfG (fun i=> !Y6 t f r st i) n
  unfold Zcc
  rw[ZfI,ZfI,ih.1,ih.2,ZeL (by omega),ZeL (by omega)]
  have e1:∀p,Xx p (n+1)=if p n then Xx p n+1 else Xx p n:=fun _=>rfl
  rw[e1,e1]
  cases Y6 t f r st n<;>exact⟨rfl,rfl⟩
theorem Zus (t : Zd) (f r st : Int) (hw : ZF t) (hc : ZdM t f r st) : SC (fun _ => Try.prog) 50 [.iptr (ZX t) 0, .int .i64 fun _ => f, .int .i64 fun _ => r, .int .i64 fun _ => st] [.main] fun v h => v = .int .i64 (fun _ => Zfr t f r st) ∧ h = [.main] := by
  obtain ⟨nt, hnt⟩ := Zr
  have h1 := hc.1
  have h2 := hc.2
  have hro1 := (Js hw.calls h1).2.2
  have hro2 := (Js hw.calls h2).2.2
  unfold StopIn at h1 h2
  rw [JX hnt] at h1 h2 hro1 hro2
  have k395 := Zr6 (nt (List Sp.Call) [] (callsOf t) f) st (by omega)
  have k396 := Ztu (nt (List Sp.Call) [] (callsOf t) r) st (by omega)
  have hcl := hw.calls.len
  have kc := ZtY t f r st hw hc
  obtain ⟨hy, hn⟩ := Zoj t f r st (Z6 t) (Zp9 hw)
  have hV : Zfr t f r st = Zez (Xx (Y6 t f r st) (Z6 t)) (Xx (fun i => !Y6 t f r st i) (Z6 t)) := rfl
  have k416 := Zum (Xx (Y6 t f r st) (Z6 t)) (Xx (fun i => !Y6 t f r st i) (Z6 t))
  rw [← hV] at k416
  rw [JX hnt, JX hnt] at kc
  generalize Zfr t f r st = V at *
  generalize Xx (Y6 t f r st) (Z6 t) = CY at *
  generalize Xx (fun i => !Y6 t f r st i) (Z6 t) = CN at *
  generalize Zcc t f r st (Z6 t) = KL at *
  unfold XY at kc
  unfold ZX at *
  simp only [Za hnt, Zb, Zx] at *
  generalize ZV (nt (List Sp.Call) [] (callsOf t) f) st = fo at *
  generalize ZY (nt (List Sp.Call) [] (callsOf t) r) st = to at *
  refine SC.less (Zr1 false false [] [2] false 1 Try.func50 (body := Zk Try.f50) rfl (by decide +kernel) rfl ?_)
  refine vS ?_
  repeat' first
    | (with_reducible refine Zmb.mk ?_ ?_)
    | (with_reducible refine Chk.mk (Z7) ?_)
    | (refine ZU k395 (by first | rfl | (simp only [Ze, Zc, Zg, Zb, Za hnt]; rfl)) fun r h₂ hp => ?_
       obtain ⟨rfl, rfl⟩ := hp
       refine vS ?_)
    | (refine ZU k396 (by first | rfl | (simp only [Ze, Zc, Zg, Zb, Za hnt]; rfl)) fun r h₂ hp => ?_
       obtain ⟨rfl, rfl⟩ := hp
       refine vS ?_)
  all_goals
    refine Zqe (p := fun _ => Try.prog) (dr := .both) (B := 4) ⟨rfl, rfl, rfl, rfl, rfl, rfl, rfl, rfl, rfl, ⟨_, rfl, rfl, rfl, rfl⟩, ⟨_, rfl, rfl, rfl, rfl⟩, ⟨_, rfl, rfl, rfl, rfl⟩, ⟨_, rfl, rfl, rfl, rfl⟩, ⟨_, rfl, rfl, rfl, rfl⟩, ⟨_, rfl, rfl, rfl, rfl⟩, ⟨_, rfl, rfl, rfl, rfl⟩, ⟨_, rfl, rfl, rfl, rfl⟩, ⟨_, rfl, rfl, rfl, rfl⟩, ⟨_, rfl, rfl, rfl, rfl⟩, ⟨_, rfl, rfl, rfl, rfl⟩, ⟨_, rfl, rfl, rfl, rfl⟩, ⟨_, rfl, rfl, rfl, rfl⟩, ⟨_, rfl, rfl, rfl, rfl⟩, ⟨_, rfl, rfl, rfl, rfl⟩, ⟨_, rfl, rfl, rfl, rfl⟩, ⟨_, rfl, rfl, rfl, rfl⟩, ⟨_, rfl, rfl, rfl, rfl⟩, ⟨_, rfl, rfl, rfl, rfl⟩⟩ (by kernel_rfl) (ZkW (by kernel_rfl)) ((ZkW (n := 1) (z := some (.bool false)) (by kernel_rfl)).imp fun i h => ⟨h.1, h.2.2⟩)
      Try.func75 rfl (by decide +kernel) rfl rfl rfl rfl rfl rfl kc ?_
    rw [hy, hn]
    refine Zeb false false [] [] false ?_
    refine wS ?_
    refine ZU (k416) (by first | rfl | (simp only [Ze, Zc, Zg, Zb, Za hnt]; rfl)) fun r h₂ hp => ?_
    (try simp only [Ze, Zc, Zg, Zb, Za hnt] at hp)
    obtain ⟨rfl, rfl⟩ := hp
    refine wS ?_
    refine ⟨_, _, ?_, rfl, rfl⟩
    exact ZL
end Go.Proofs.Ytjgpiclllehgmaa.Vm
namespace Go.Proofs.Ytjgpiclllehgmaa.Vm
attribute [local irreducible] Dn
open Go Go.Proofs Sp
set_option maxRecDepth 100000
set_option maxHeartbeats 4000000
theorem J5 {f:FuncId} {xs ys:List AV} {h:List Zh} {Post Q:AV→List Zh→Prop} {B:Prop} (H:SC (fun _=>Try.prog) f ys [] Q) (k:B) (t:SC (fun _=>Try.prog) f ys [] Q→HdW B→SC (fun _=>Try.prog) f xs h Post:=by intro hH hW;refine ZU hH (by first|rfl|(simp only[Ze,Zc,Zg,Zb,Za hnt];rfl)) fun r h₂ hp=>?_;(try simp only[Ze,Zc,Zg,Zb,Za hnt]at hp);obtain⟨rfl,rfl⟩:=hp;exact hW.out):SC (fun _=>Try.prog) f xs h Post:=t H ⟨k⟩
theorem PR.nilw {w:World} {ok:Nat→Nat→Nat→Prop} {s s':Nat} {m m':Unit→Int} {f f':(Unit→Int)→List AV} {v:Value} (h:PR w ok (.isl s m f .nil) v) (hm:m' ()=0):PR w ok (.isl s' m' f' .none) v:=by
 cases h with
 |isl0 _ _ _ _ hz h1=>exact .isl0 _ _ _ _ hm (fun id e=>by cases e)
 |islE _ _ _ _ a hz h1=>exact .islE _ _ _ _ a hm (.inl rfl)
 |isl _ _ _ _ b o len cap us hn hc h1=>rcases h1 with h|h<;>cases h
theorem ZtA (m:Int):SC (fun _=>Try.prog) 25 [.int .i64 fun _=>m] [] fun v h=>v=Zg (Z8 m)∧h=[]:=by
 obtain⟨nt,hnt⟩:=Zr
 have k1:=Zkl 0 0 60
 have k2:=Zkl 1 100 110
 have k3:=Zkl 2 160 0
 have k4:=Zkl 1 0 120
 have k5:=Zkl 3 200 0
 have k6:=Zkl 1 0 180
 have k7:=Zkl 3 260 0
 refine SC.less (Q2 Try.func25 (body:=Zk Try.f25) rfl (by decide+kernel) ?_)
 refine wS ?_
 refine J5 (k1) ?_
 refine wS ?_
 refine J5 (k2) ?_
 refine wS ?_
 refine J5 (k3) ?_
 refine wS ?_
 refine J5 (k4) ?_
 refine wS ?_
 refine J5 (k5) ?_
 refine wS ?_
 refine J5 (k6) ?_
 refine wS ?_
 refine J5 (k7) ?_
 refine wS ?_
 refine⟨Zg (Z8 m),[],?_,rfl,rfl⟩
 unfold Zg
 simp only[Za hnt,encTrain,encZone,Zx]
 (refine To.of [] ?_;cbv;(try simp only[nc]);(repeat' (first|exact trivial|exact ZB.refl _|exact ZJ.refl _|refine⟨?_,?_⟩|refine ZJ.cells ?_|refine ZB.agg ?_|refine ZB.tup ?_));(all_goals (first|exact X3|skip)))
 ·refine Zj0 hnt (fun z:Sp.Zone=>[.int .i64 fun _=>z.base,.isl 2 (fun _=>(z.chs.length:Int)) (fun e=>Zbz (nt Chg default z.chs (e ()))) .none]) default [⟨0,[]⟩] _ ?_ fun i hi=>?_
  ·rfl
  match i,hi with
  |0,_=>exact X8.two fun w ok v h=>h.nilw rfl
 ·refine Zj0 hnt (fun t:Sp.Train=>[.int .i64 fun _=>t.number,.int .i64 fun _=>t.days,.isl 4 (fun _=>(t.stops.length:Int)) (fun e=>QT (nt Stop default t.stops (e ()))) .none]) default (Z8 m).book.old _ ?_ fun i hi=>?_
  ·rfl
  match i,hi with
  |0,_=>
   refine X8.three fun w ok v h=>h.wk rfl (fun j hj=>?_) (.inl rfl)
   match j,hj with
   |0,_=>(rw[hnt];rfl)
   |1,_=>(rw[hnt];rfl)
   |2,_=>(rw[hnt];rfl)
   |j+3,hj=>exact absurd hj (by show¬((j+3:Nat):Int)<3;omega)
  |1,_=>
   refine X8.three fun w ok v h=>h.wk rfl (fun j hj=>?_) (.inl rfl)
   match j,hj with
   |0,_=>(rw[hnt];rfl)
   |1,_=>(rw[hnt];rfl)
   |j+2,hj=>exact absurd hj (by show¬((j+2:Nat):Int)<2;omega)
  |2,_=>
   refine X8.three fun w ok v h=>h.wk rfl (fun j hj=>?_) (.inl rfl)
   match j,hj with
   |0,_=>(rw[hnt];rfl)
   |1,_=>(rw[hnt];rfl)
   |j+2,hj=>exact absurd hj (by show¬((j+2:Nat):Int)<2;omega)
 ·refine Zj0 hnt (fun t:Sp.ZK=>[.int .i64 fun _=>t.run,.int .i64 fun _=>t.leg,.isl 1 (fun _=>(t.by_.length:Int)) (fun e=>XV (nt Int 0 t.by_ (e ()))) .none]) default (Z8 m).delays _ ?_ fun i hi=>?_
  ·rfl
  match i,hi with
  |0,_=>
   refine X8.three fun w ok v h=>h.wk rfl (fun j hj=>?_) (.inl rfl)
   match j,hj with
   |0,_=>(rw[hnt];rfl)
   |1,_=>(rw[hnt];rfl)
   |2,_=>(rw[hnt];rfl)
   |j+3,hj=>exact absurd hj (by show¬((j+3:Nat):Int)<3;omega)
theorem Zr9 (l:List Sp.ZfX) (hlen:l.length≤100000):SC (fun _=>Try.prog) 13 [lst 2 YH default l,lst 2 YH default l] [] fun v h=>v= .bool (fun _=>true)∧h=[]:=by
 obtain⟨nt,hnt⟩:=Zr
 refine Q2 Try.func13 (body:=Zk Try.f13) rfl (by decide+kernel) ?_
 simp only[Za hnt]
 refine wS ?_
 refine Br.isF (by simp) ?_
 refine wS ?_
 refine ZT false false [] [0,1,5] [] (fun(i:Nat)=>[(5,.int .i64 fun _=>(i:Int))]) (fun _=>[]) (fun i=>i≤l.length) (fun i=>l.length-i+0) 0 (Nat.zero_le _) ?_ ?_
 ·exact ZL
 intro i hi
 refine wS ?_
 refine⟨fun hb=>?_,fun hb=>?_⟩
 ·simp only[decide_eq_true_eq]at hb
  refine wS ?_
  refine Br.isF (by simp) ?_
  refine wS ?_
  refine⟨i+1,by omega,by omega,?_⟩
  exact ZL
 ·(cbv;(try simp only[nc]at*);(try refine Chk.mk (Z7) ?_))
  (try first|exact⟨rfl,trivial⟩|exact⟨trivial,trivial⟩)
theorem Zbe (m:Int):Xz (Z8 m):=⟨⟨by show 1≤1000000;decide,by show 3≤1000000;decide,by show 0≤1000000;decide,fun z hz=>by simp only[Z8,List.mem_singleton]at hz;subst hz;decide,fun t ht=>by simp only[Z8,List.mem_cons,List.not_mem_nil,or_false]at ht;rcases ht with rfl|rfl|rfl<;>decide,fun t ht=>by cases ht⟩,by show 3≤1000000;decide,by show 1≤1000000;decide,by show 1≤1000000;decide,fun d hd=>by simp only[Z8,List.mem_singleton]at hd;subst hd;decide⟩
theorem ZuD:SC (fun _=>Try.prog) 9 [] [.main] fun v h=>v= .bool (fun _=>true)∧h=[.main]:=by
 obtain⟨nt,hnt⟩:=Zr
 have kt30:=ZtA 30
 have kt15:=ZtA 15
 have hw:∀t,Zn t=0→ZF t:=fun t h=>XX h
 have k1:=ZtB (Z8 30) 1 (Zbe 30) (hw _)
 have k2:=Zuy (Z8 15) 0 (Zbe 15) Zus
 have k3:=Zux (Z8 15) ZiN (Zbe 15) (by decide) (hw _)
 have k4:=Zuz (Z8 30) 0 (Zbe 30)
 have k5:=ZuA (Z8 15) ZlL 0 (Zbe 15) (by decide) (hw _)
 have hte:Yy (Z8 30) 1=0:=by
  unfold Yy
  rw[if_neg (fun h=>h ZrX.2)]
  rfl
 rw[hte,if_pos rfl,if_pos rfl,Zn4]at k1
 rw[ZlO]at k2
 rw[Zj9]at k3
 rw[Zn5.1]at k4
 rw[Zqm]at k5
 have kh:=Ztz
 have ki:=Zuw
 have ks:=Zr9 [⟨120,140⟩,⟨200,220⟩] (by decide)
 have kz:=c39 [0,1] [0,1] (by decide)
 have kp1:=Zr8 200 260
 have kp2:=Zr8 120 140
 have kp3:=Zr8 200 220
 generalize Je (Z8 30) 1=C at*
 generalize Z8 30=T30 at*
 generalize Z8 15=T15 at*
 generalize ZiN=H1 at*
 generalize ZlL=H2 at*
 unfold Zg XU YH at*
 simp only[Za hnt,Zb,Zx,XR]at*
 refine SC.less (Q2 Try.func9 (body:=Zk Try.f9) rfl (by decide+kernel) ?_)
 refine wS ?_
 refine J5 (kt30) ?_
 refine wS ?_
 refine J5 (k1) ?_
 refine wS ?_
 refine J5 (kt15) ?_
 refine wS ?_
 refine ZQ [0] (k2) (by decide) (by simp) (by first|rfl|(simp only[Ze,Zc,Zg,Zb,Za hnt];rfl)) (by first|rfl|(simp only[Ze,Zc,Zg,Zb,Za hnt];rfl)) fun r h₂ hp=>?_
 (try simp only[Ze,Zc,Zg,Zb,Za hnt]at hp)
 obtain⟨rfl,rfl⟩:=hp
 refine wS ?_
 refine J5 (kt15) ?_
 refine wS ?_
 refine J5 (kh) ?_
 refine wS ?_
 refine J5 (k3) ?_
 refine wS ?_
 refine J5 (kt30) ?_
 refine wS ?_
 refine J5 (k4) ?_
 refine wS ?_
 refine J5 (kt15) ?_
 refine wS ?_
 refine J5 (ki) ?_
 refine wS ?_
 refine J5 (k5) ?_
 refine vS ?_
 refine Chk.mk (by simp only[nc,Xg,Xf,Xt,Xe,Cn.p,beq_self_eq_true,cond_true,imp_self,and_true,true_and];(repeat' (first|apply And.intro|intro _))<;>first|rfl|trivial|exact Or.inl rfl|decide|decide+kernel|(simp;done)) ?_
 repeat (first
  |(with_reducible refine Br.isT rfl ?_;refine vS ?_)
  |(with_reducible refine Chk.mk (by simp only[nc,Xg,Xf,Xt,Xe,Cn.p,beq_self_eq_true,cond_true,imp_self,and_true,true_and];(repeat' (first|apply And.intro|intro _))<;>first|rfl|trivial|exact Or.inl rfl|decide|decide+kernel|(simp;done)) ?_))
 refine J5 (kp1) ?_
 refine vS ?_
 repeat (first
  |(with_reducible refine Br.isT rfl ?_;refine vS ?_)
  |(with_reducible refine Chk.mk (by simp only[nc,Xg,Xf,Xt,Xe,Cn.p,beq_self_eq_true,cond_true,imp_self,and_true,true_and];(repeat' (first|apply And.intro|intro _))<;>first|rfl|trivial|exact Or.inl rfl|decide|decide+kernel|(simp;done)) ?_))
 refine J5 (kp2) ?_
 refine vS ?_
 repeat (first
  |(with_reducible refine Br.isT rfl ?_;refine vS ?_)
  |(with_reducible refine Chk.mk (by simp only[nc,Xg,Xf,Xt,Xe,Cn.p,beq_self_eq_true,cond_true,imp_self,and_true,true_and];(repeat' (first|apply And.intro|intro _))<;>first|rfl|trivial|exact Or.inl rfl|decide|decide+kernel|(simp;done)) ?_))
 refine J5 (kp3) ?_
 refine vS ?_
 repeat (first
  |(with_reducible refine Br.isT rfl ?_;refine vS ?_)
  |(with_reducible refine Chk.mk (by simp only[nc,Xg,Xf,Xt,Xe,Cn.p,beq_self_eq_true,cond_true,imp_self,and_true,true_and];(repeat' (first|apply And.intro|intro _))<;>first|rfl|trivial|exact Or.inl rfl|decide|decide+kernel|(simp;done)) ?_))
 refine ZbB ks (by(refine To.of [] ?_;cbv;(try simp only[nc]);(repeat' (first|exact trivial|exact ZB.refl _|exact ZJ.refl _|refine⟨?_,?_⟩|refine ZJ.cells ?_|refine ZB.agg ?_|refine ZB.tup ?_));(all_goals (first|exact X3|skip)));all_goals exact lit_nt hnt YH default _ _ rfl) (by first|rfl|(simp only[Ze,Zc,Zg,Zb,Za hnt];rfl)) fun r h₂ hp=>?_
 obtain⟨rfl,rfl⟩:=hp
 refine vS ?_
 repeat (first
  |(with_reducible refine Br.isT rfl ?_;refine vS ?_)
  |(with_reducible refine Chk.mk (by simp only[nc,Xg,Xf,Xt,Xe,Cn.p,beq_self_eq_true,cond_true,imp_self,and_true,true_and];(repeat' (first|apply And.intro|intro _))<;>first|rfl|trivial|exact Or.inl rfl|decide|decide+kernel|(simp;done)) ?_))
 refine ZbB (kz) (by(try simp only[Ze,Zc,Zg,Zb,Za hnt]);(refine To.of [] ?_;cbv;(try simp only[nc]);(repeat' (first|exact trivial|exact ZB.refl _|exact ZJ.refl _|refine⟨?_,?_⟩|refine ZJ.cells ?_|refine ZB.agg ?_|refine ZB.tup ?_));(all_goals (first|exact X3|skip)))) (by first|rfl|(simp only[Ze,Zc,Zg,Zb,Za hnt];rfl)) fun r h₂ hp=>?_
 (try simp only[Ze,Zc,Zg,Zb,Za hnt]at hp)
 obtain⟨rfl,rfl⟩:=hp
 refine vS ?_
 repeat (first
  |(with_reducible refine Br.isT rfl ?_;refine vS ?_)
  |(with_reducible refine Chk.mk (by simp only[nc,Xg,Xf,Xt,Xe,Cn.p,beq_self_eq_true,cond_true,imp_self,and_true,true_and];(repeat' (first|apply And.intro|intro _))<;>first|rfl|trivial|exact Or.inl rfl|decide|decide+kernel|(simp;done)) ?_))
 refine⟨.bool fun _=>true,[.main],?_,rfl,rfl⟩
 (refine To.of [] ?_;cbv;(try simp only[nc]);(repeat' (first|exact trivial|exact ZB.refl _|exact ZJ.refl _|refine⟨?_,?_⟩|refine ZJ.cells ?_|refine ZB.agg ?_|refine ZB.tup ?_));(all_goals (first|exact X3|skip)))
 all_goals exact .bool rfl
end Go.Proofs.Ytjgpiclllehgmaa.Vm
namespace Go.Proofs.Ytjgpiclllehgmaa.Vm
open Go Go.Proofs Sp
set_option maxRecDepth 100000
set_option maxHeartbeats 1600000
end Go.Proofs.Ytjgpiclllehgmaa.Vm
namespace Go.Proofs.Ytjgpiclllehgmaa.Vm
attribute [local irreducible] Dn
open Go Go.Proofs Sp
set_option maxRecDepth 100000
set_option maxHeartbeats 8000000
theorem ZkB {t:Zd} (h:Zn t=0):Xz t:=by
 have hw:=XX h
 obtain⟨h1,h2,h3,h4,h5,h6⟩:=ZbC h
 have hc:=ZbV h1
 have hr:=hw.calls.len
 have hl:(callsOf t).length=t.runs.length:=by unfold callsOf;rw[List.length_map]
 exact⟨⟨by have:=hc.zlen;omega,by have:=hc.olen;omega,by have:=hc.nlen;omega,fun z hz=>by have:=(ZbE (hc.zones z hz)).2.2.1;omega,⟨fun t ht=>by have:=(hc.old t ht).len;omega,fun t ht=>by have:=(hc.new t ht).len;omega⟩⟩,by omega,by omega,by omega,fun d hd=>by have:=(hw.d d hd).2.1;omega⟩
theorem ZjW (kp rs:Bool) (cs:List Nat) {x:Code} {Q:Ex→List AV→List Zh→Prop} {s:List AV} {h:List Zh} {α β:Type} (L:List Nat) (ex:List Zh) (ch:α×β→List (Nat×AV)) (hc:α×β→List (Nat×Zh)) (inv:α×β→Prop) (μ:α×β→Nat) (i:α×β)
  (hi:inv i) (hto:To (Vm.keep L s) h (Y3 (Vm.keep L s) (ch i)) (X2 (h++ex) (hc i)))
  (step:∀a b,inv (a,b)→Dn (tbX kp rs cs) (fun _=>Try.prog) (Zet L (fun i=>Y3 (Vm.keep L s) (ch i)) (fun i=>X2 (h++ex) (hc i)) inv μ (a,b) (h++ex).length Q) 100 .none [.code x] (Y3 (Vm.keep L s) (ch (a,b))) (X2 (h++ex) (hc (a,b))) []):LP false (fun _=>Try.prog) x Q s h:=
 ZT kp rs cs L ex ch hc inv μ i hi hto fun⟨a,b⟩ h=>step a b h
end Go.Proofs.Ytjgpiclllehgmaa.Vm
namespace Go.Proofs.Ytjgpiclllehgmaa.Vm
attribute [local irreducible] Dn
open Go Go.Proofs Sp
set_option maxRecDepth 100000
set_option maxHeartbeats 8000000
theorem Zoo {f:FuncId} {xs ys:List AV} {h:List Zh} {Post Q:AV→List Zh→Prop} {B:Prop} (H:SC (fun _=>Try.prog) f ys [] Q) (k:B) (t:SC (fun _=>Try.prog) f ys [] Q→HdW B→SC (fun _=>Try.prog) f xs h Post:=by intro hH hW;refine ZU hH (by first|rfl|(simp only[Ze,Zc,Zg,Zb,Zi,Za hnt];rfl)) fun r h₂ hp=>?_;(try simp only[Ze,Zc,Zg,Zb,Zi,Za hnt]at hp);obtain⟨rfl,rfl⟩:=hp;exact hW.out):SC (fun _=>Try.prog) f xs h Post:=t H ⟨k⟩
theorem Zia {t:Zd} (h:Zn t=0) {r:Int} (h0:0≤r) (h1:r<t.runs.length):SC (fun _=>Try.prog) 12 [Zg t,.int .i64 fun _=>r] [] fun v h=>v= .tup [lst 2 YH default (Je t r),lst 2 YH default (Za4 t r),.int .i64 fun _=>0]∧h=[]:=by
 have k:=ZtB t r (ZkB h) (fun _=>XX h)
 have e:Yy t r=0:=by
  unfold Yy
  rw[if_neg (fun hn=>hn h),YL h0 (by omega),if_neg Bool.false_ne_true]
 rw[e,if_pos rfl,if_pos rfl]at k
 exact k
theorem Zli {t:Zd} (h:Zn t=0) {r:Int} (h0:0≤r) (h1:r<t.runs.length):(Je t r).length≤100000∧(Za4 t r).length≤100000:=by
 have hw:=XX h
 have hl:=hw.calls.row (Sp.Zm (callsOf t) r) (Zck ⟨h0,by rw[Yu];exact h1⟩)
 unfold Je Za4
 rw[List.length_map,List.length_range,List.length_map,List.length_range]
 omega
theorem ZjB {nt:(α:Type)→α→List α→Int→α} (hnt:∀(α:Type) (d:α) (l:List α) (i:Int),nt α d l i=l.getD i.toNat d) {α:Type} {d v:α} {l:List α} {j:Int} {x:Nat} (hj:0≤j∧j<l.length):nt α d (l.set j.toNat v) (x:Int)=if(x:Int)=j then v else nt α d l (x:Int):=by
 rw[hnt,hnt,Int.toNat_natCast]
 by_cases h:(x:Int)=j
 ·rw[if_pos h]
  have e:j.toNat=x:=by omega
  rw[e]
  exact Yq _ _ _ _ (by omega)
 ·rw[if_neg h]
  exact XG _ _ _ _ _ (by omega)
theorem ZnI {α β:Type} [Inhabited α] [Inhabited β] {f:α→β} {l:List α} {m:List β} (hl:m.length=l.length) (h:∀k,k<l.length→m.getD k default=f (l.getD k default)):m=l.map f:=by
 refine List.ext_getElem (by rw[List.length_map];exact hl) fun k h1 h2=>?_
 have:=h k (by omega)
 rw[List.getD_eq_getElem?_getD,List.getElem?_eq_getElem h1,List.getD_eq_getElem?_getD,List.getElem?_eq_getElem (by omega)]at this
 rw[List.getElem_map]
 exact this
theorem Zuc (l:List Int) (hl:(l.length:Int)≤9223372036854775807):SC (fun _=>Try.prog) 4 [lst 1 XV 0 l] [.main] fun r _=>r= .bool fun _=>true:=by
 obtain⟨nt,hnt⟩:=Zr
 refine Q2 Try.func4 (body:=Zk Try.f4) rfl (by decide+kernel) ?_
 refine wS ?_
 refine ZU (c14 l hl) (by first|rfl|(simp only[Ze,Zc,Zg,Zb,Zi,Za hnt];rfl)) fun r h₂ hp=>?_
 (try simp only[Ze,Zc,Zg,Zb,Zi,Za hnt]at hp)
 obtain⟨s,rfl,rfl⟩:=hp
 refine wS ?_
 refine ZQ [1] (ZuC s 4 3 3 (by omega) (by omega) (by omega)) (by decide) (by simp) (by first|rfl|(simp only[Ze,Zc,Zg,Zb,Zi,Za hnt];rfl)) (by first|rfl|(simp only[Ze,Zc,Zg,Zb,Zi,Za hnt];rfl)) fun r h₂ hp=>?_
 (try simp only[Ze,Zc,Zg,Zb,Zi,Za hnt]at hp)
 obtain⟨t,s',ht,rfl,rfl⟩:=hp
 have he:=ht.1.begin
 have hr4:=ht.2.1
 have hw4:=ht.2.2.1
 have hd4:=ht.2.2.2
 have hfit:=ZkB he
 have hwt:=Zgo he
 have hdt:=ZfF he
 have k320:=ZuB hnt t hfit
 refine wS ?_
 refine ZQ [1] (ZtD s' t.runs.length (by omega)) (by decide) (by simp) (by first|rfl|(simp only[Ze,Zc,Zg,Zb,Zi,Za hnt];rfl)) (by first|rfl|(simp only[Ze,Zc,Zg,Zb,Zi,Za hnt];rfl)) fun r h₂ hp=>?_
 (try simp only[Ze,Zc,Zg,Zb,Zi,Za hnt]at hp)
 obtain⟨o,s2,ho,rfl,rfl⟩:=hp
 refine wS ?_
 refine Zoo (k320) ?_
 have hol:=ho.len
 have hnw:∀j:Int,0≤j→j<t.runs.length→0≤nt Int 0 o j∧nt Int 0 o j<t.runs.length:=fun j h0 h1=>by rw[hnt];exact ho.bd _ (by omega)
 refine wS ?_
 refine ZjW false false [] [4,5,6,7] [] (fun(⟨i,X⟩:Nat×List Sp.ZO)=>[(7,.int .i64 fun _=>i)]) (fun⟨i,X⟩=>[(3,.gar 2 (fun _=>(t.runs.length:Int)) (fun e=>Zi (nt Sp.ZO default X (e ()))))])
  (fun⟨i,X⟩=>i≤t.runs.length∧X.length=t.runs.length∧∀k,k<i→X.getD (o.getD k 0).toNat default=t.runs.getD k default) (fun q=>t.runs.length-q.1+0) (0,t.runs) ⟨Nat.zero_le _,rfl,fun k hk=>by omega⟩ ?_ ?_
 ·exact ZL
 intro i X hq
 have hi:i≤t.runs.length:=hq.1
 have hXl:X.length=t.runs.length:=hq.2.1
 have hX:=hq.2.2
 clear hq
 refine wS ?_
 refine⟨fun h1=>?_,fun h1=>?_⟩
 ·simp only[decide_eq_true_eq]at h1
  have hoi:=hnw i (by omega) (by omega)
  refine wS ?_
  refine⟨(i+1,X.set (nt Int 0 o (i:Int)).toNat (nt Sp.ZO default t.runs (i:Int))),⟨by omega,by rw[List.length_set];exact hXl,fun k hk=>?_⟩,by show t.runs.length-(i+1)+0<t.runs.length-i+0;omega,?_⟩
  ·simp only[hnt,Int.toNat_natCast]
   by_cases hki:k=i
   ·subst hki
    exact Yq _ _ _ _ (by have:=ho.bd k (by omega);omega)
   ·rw[XG _ _ _ _ _ (fun e=>hki (ho.inj k i (by omega) (by omega) (by have:=ho.bd k (by omega);have:=ho.bd i (by omega);omega)))]
    exact hX k (by omega)
  (refine To.of [] ?_;cbv;(try simp only[nc]);(repeat' (first|exact trivial|exact ZB.refl _|exact ZJ.refl _|refine⟨?_,?_⟩|refine ZJ.cells ?_|refine ZB.agg ?_|refine ZB.tup ?_));(all_goals (first|exact X3|skip)))
  refine .gar rfl fun x hx=>?_
  show Zi ⟨bif decide ((x:Int)=nt Int 0 o (i:Int))then(nt Sp.ZO default t.runs (i:Int)).number else(nt Sp.ZO default X (x:Int)).number,bif decide ((x:Int)=nt Int 0 o (i:Int))then(nt Sp.ZO default t.runs (i:Int)).day else(nt Sp.ZO default X (x:Int)).day⟩=Zi (nt Sp.ZO default (X.set (nt Int 0 o (i:Int)).toNat (nt Sp.ZO default t.runs (i:Int))) (x:Int))
  refine congrArg Zi ?_
  rw[ZjB hnt ⟨hoi.1,by rw[hXl];exact hoi.2⟩]
  by_cases h:(x:Int)=nt Int 0 o (i:Int)
  ·rw[if_pos h,decide_eq_true h];rfl
  ·rw[if_neg h,decide_eq_false h];rfl
 ·simp only[decide_eq_false_iff_not]at h1
  have hX:∀k,k<t.runs.length→X.getD (o.getD k 0).toNat default=t.runs.getD k default:=fun k hk=>hX k (by omega)
  refine wS ?_
  refine ZjW false false [] [4,5,6,8] [] (fun(⟨i,W⟩:Nat×List Sp.Qj)=>[(8,.int .i64 fun _=>i)]) (fun⟨i,W⟩=>[(4,.gar 4 (fun _=>(t.waits.length:Int)) (fun e=>Qp (nt Sp.Qj default W (e ()))))])
   (fun⟨i,W⟩=>i≤t.waits.length∧W.length=t.waits.length∧∀k,W.getD k default=if k<i then Zem o (t.waits.getD k default)else t.waits.getD k default) (fun q=>t.waits.length-q.1+0) (0,t.waits) ⟨Nat.zero_le _,rfl,fun k=>by rw[if_neg (by omega)]⟩ ?_ ?_
  ·exact ZL
  intro i W hq
  have hi2:i≤t.waits.length:=hq.1
  have hWl:W.length=t.waits.length:=hq.2.1
  have hW:=hq.2.2
  clear hq
  refine wS ?_
  refine⟨fun h2=>?_,fun h2=>?_⟩
  ·simp only[decide_eq_true_eq]at h2
   have hwr:=hwt _ (QQ (d:=default) hnt (l:=t.waits) (i:=i) (by omega))
   have hWi:nt Sp.Qj default W (i:Int)=nt Sp.Qj default t.waits (i:Int):=by rw[hnt,hnt,Int.toNat_natCast,hW i,if_neg (by omega)]
   have hpi:Zem o (nt Sp.Qj default t.waits (i:Int))=⟨nt Int 0 o (nt Sp.Qj default t.waits (i:Int)).feeder,nt Int 0 o (nt Sp.Qj default t.waits (i:Int)).train,(nt Sp.Qj default t.waits (i:Int)).station,(nt Sp.Qj default t.waits (i:Int)).minutes⟩:=by
    unfold Zem sg
    simp only[hnt]
   refine wS ?_
   refine⟨(i+1,W.set (i:Int).toNat (Zem o (nt Sp.Qj default t.waits (i:Int)))),⟨by omega,by rw[List.length_set];exact hWl,fun k=>?_⟩,by show t.waits.length-(i+1)+0<t.waits.length-i+0;omega,?_⟩
   ·by_cases hki:k=i
    ·subst hki
     rw[Int.toNat_natCast,Yq _ _ _ _ (by omega),if_pos (by omega),hnt,Int.toNat_natCast]
    ·rw[Int.toNat_natCast,XG _ _ _ _ _ (by omega),hW k]
     by_cases hlt:k<i
     ·rw[if_pos hlt,if_pos (by omega)]
     ·rw[if_neg hlt,if_neg (by omega)]
   (refine To.of [] ?_;cbv;(try simp only[nc]);(repeat' (first|exact trivial|exact ZB.refl _|exact ZJ.refl _|refine⟨?_,?_⟩|refine ZJ.cells ?_|refine ZB.agg ?_|refine ZB.tup ?_));(all_goals (first|exact X3|skip)))
   refine .gar rfl fun x hx=>?_
   show Qp ⟨bif decide ((x:Int)=(i:Int))then nt Int 0 o (nt Sp.Qj default t.waits (i:Int)).feeder else(nt Sp.Qj default W (x:Int)).feeder,bif decide ((x:Int)=(i:Int))then nt Int 0 o (nt Sp.Qj default t.waits (i:Int)).train else(nt Sp.Qj default W (x:Int)).train,(nt Sp.Qj default W (x:Int)).station,(nt Sp.Qj default W (x:Int)).minutes⟩=Qp (nt Sp.Qj default (W.set (i:Int).toNat (Zem o (nt Sp.Qj default t.waits (i:Int)))) (x:Int))
   refine congrArg Qp ?_
   rw[ZjB hnt ⟨by omega,by rw[hWl];exact h2⟩]
   by_cases h:(x:Int)=(i:Int)
   ·rw[if_pos h,decide_eq_true h,h,hWi,hpi];rfl
   ·rw[if_neg h,decide_eq_false h];rfl
  ·simp only[decide_eq_false_iff_not]at h2
   have hWe:W=t.waits.map (Zem o):=ZnI hWl fun k hk=>by rw[hW k,if_pos (by omega)]
   refine wS ?_
   refine ZjW false false [] [4,5,6,9] [] (fun(⟨i,D⟩:Nat×List Sp.ZK)=>[(9,.int .i64 fun _=>i)]) (fun⟨i,D⟩=>[(5,.gar 3 (fun _=>(t.delays.length:Int)) (fun e=>Zx (nt Sp.ZK default D (e ()))))])
    (fun⟨i,D⟩=>i≤t.delays.length∧D.length=t.delays.length∧∀k,D.getD k default=if k<i then ZaC o (t.delays.getD k default)else t.delays.getD k default) (fun q=>t.delays.length-q.1+0) (0,t.delays) ⟨Nat.zero_le _,rfl,fun k=>by rw[if_neg (by omega)]⟩ ?_ ?_
   ·exact ZL
   intro i D hq
   have hi3:i≤t.delays.length:=hq.1
   have hDl:D.length=t.delays.length:=hq.2.1
   have hD:=hq.2.2
   clear hq
   refine wS ?_
   refine⟨fun h3=>?_,fun h3=>?_⟩
   ·simp only[decide_eq_true_eq]at h3
    have hdr:=hdt _ (QQ (d:=default) hnt (l:=t.delays) (i:=i) (by omega))
    have hDi:nt Sp.ZK default D (i:Int)=nt Sp.ZK default t.delays (i:Int):=by rw[hnt,hnt,Int.toNat_natCast,hD i,if_neg (by omega)]
    have hpi:ZaC o (nt Sp.ZK default t.delays (i:Int))=⟨nt Int 0 o (nt Sp.ZK default t.delays (i:Int)).run,(nt Sp.ZK default t.delays (i:Int)).leg,(nt Sp.ZK default t.delays (i:Int)).by_⟩:=by
     unfold ZaC sg
     simp only[hnt]
    refine wS ?_
    refine⟨(i+1,D.set (i:Int).toNat (ZaC o (nt Sp.ZK default t.delays (i:Int)))),⟨by omega,by rw[List.length_set];exact hDl,fun k=>?_⟩,by show t.delays.length-(i+1)+0<t.delays.length-i+0;omega,?_⟩
    ·by_cases hki:k=i
     ·subst hki
      rw[Int.toNat_natCast,Yq _ _ _ _ (by omega),if_pos (by omega),hnt,Int.toNat_natCast]
     ·rw[Int.toNat_natCast,XG _ _ _ _ _ (by omega),hD k]
      by_cases hlt:k<i
      ·rw[if_pos hlt,if_pos (by omega)]
      ·rw[if_neg hlt,if_neg (by omega)]
    (refine To.of [] ?_;cbv;(try simp only[nc]);(repeat' (first|exact trivial|exact ZB.refl _|exact ZJ.refl _|refine⟨?_,?_⟩|refine ZJ.cells ?_|refine ZB.agg ?_|refine ZB.tup ?_));(all_goals (first|exact X3|skip)))
    refine .gar rfl fun x hx=>?_
    show Zx ⟨bif decide ((x:Int)=(i:Int))then nt Int 0 o (nt Sp.ZK default t.delays (i:Int)).run else(nt Sp.ZK default D (x:Int)).run,(nt Sp.ZK default D (x:Int)).leg,(nt Sp.ZK default D (x:Int)).by_⟩=Zx (nt Sp.ZK default (D.set (i:Int).toNat (ZaC o (nt Sp.ZK default t.delays (i:Int)))) (x:Int))
    refine congrArg Zx ?_
    rw[ZjB hnt ⟨by omega,by rw[hDl];exact h3⟩]
    by_cases h:(x:Int)=(i:Int)
    ·rw[if_pos h,decide_eq_true h,h,hDi,hpi];rfl
    ·rw[if_neg h,decide_eq_false h];rfl
   ·simp only[decide_eq_false_iff_not]at h3
    have hDe:D=t.delays.map (ZaC o):=ZnI hDl fun k hk=>by rw[hD k,if_pos (by omega)]
    have hP:Per t o X:=⟨ho,by omega,hX⟩
    have hxe:QM t o X=⟨t.book,X,W,D⟩:=by unfold QM;rw[hWe,hDe]
    have hbx:=Zgx hP he
    have hpt:=fun(r:Int) (h0:0≤r) (h1:r<t.runs.length)=>Zlu hP he h0 h1
    have kt:=fun(r:Int) (h0:0≤r) (h1:r<t.runs.length)=>Zia he h0 h1
    have kx:=fun(r:Int) (h0:0≤r) (h1:r<t.runs.length)=>Zia hbx (ZeU hP h0 h1).1 (by show _<(X.length:Int);have:=(ZeU hP h0 h1).2;omega)
    have hln:=fun(r:Int) (h0:0≤r) (h1:r<t.runs.length)=>Zli he h0 h1
    have hsg:∀j:Nat,sg o (j:Int)=nt Int 0 o (j:Int):=fun j=>by unfold sg;rw[hnt]
    simp only[hxe]at kx hpt
    clear hxe hbx hP hWe hDe hX hW hD
    refine wS ?_
    refine ZT false false [] [4,5,6,10] [] (fun(i:Nat)=>[(10,.int .i64 fun _=>(i:Int))])
     (fun _=>[(3,.dead),(4,.dead),(5,.dead),(6,.cells [.isl 2 (fun _=>(t.book.zones.length:Int)) (fun e=>encZone (nt Zone default t.book.zones (e ()))) .none,.isl 3 (fun _=>(t.book.old.length:Int)) (fun e=>encTrain (nt Train default t.book.old (e ()))) .none,.isl 3 (fun _=>(t.book.new.length:Int)) (fun e=>encTrain (nt Train default t.book.new (e ()))) .none,.int .i64 fun _=>t.book.night,.int .i64 fun _=>t.book.last,.isl 2 (fun _=>(X.length:Int)) (fun e=>Zi (nt Sp.ZO default X (e ()))) .none,.isl 4 (fun _=>(W.length:Int)) (fun e=>Qp (nt Sp.Qj default W (e ()))) .none,.isl 3 (fun _=>(D.length:Int)) (fun e=>Zx (nt Sp.ZK default D (e ()))) .none])])
     (fun i=>i≤t.runs.length) (fun i=>t.runs.length-i+0) 0 (Nat.zero_le _) ?_ ?_
    ·refine(To.froze (id:=3) rfl).trans ((To.froze (id:=4) rfl).trans ((To.froze (id:=5) rfl).trans ((To.rsvC (id:=6) rfl).trans ?_)))
     (refine To.of [] ?_;cbv;(try simp only[nc]);(repeat' (first|exact trivial|exact ZB.refl _|exact ZJ.refl _|refine⟨?_,?_⟩|refine ZJ.cells ?_|refine ZB.agg ?_|refine ZB.tup ?_));(all_goals (first|exact X3|skip)))
     ·exact .deadF
     ·exact .deadF
     ·exact .deadF
     ·exact .gd rfl (.none (by show(t.runs.length:Int)=X.length;rw[hXl]) fun _ _=>rfl)
     ·exact .gd rfl (.none (by show(t.waits.length:Int)=W.length;rw[hWl]) fun _ _=>rfl)
     ·exact .gd rfl (.none (by show(t.delays.length:Int)=D.length;rw[hDl]) fun _ _=>rfl)
    intro i hi4
    have hi4:i≤t.runs.length:=hi4
    refine wS ?_
    refine⟨fun h4=>?_,fun h4=>?_⟩
    ·simp only[decide_eq_true_eq]at h4
     have hr0:(0:Int)≤(i:Int)∧(i:Int)<t.runs.length:=by omega
     have k1:=kt i hr0.1 hr0.2
     have k2:=kx i hr0.1 hr0.2
     have hp:=hpt i hr0.1 hr0.2
     have hln:=hln i hr0.1 hr0.2
     rw[hsg i]at k2 hp
     rw[hp.1,hp.2]at k2
     have ks1:=Zr9 (Je t i) hln.1
     have ks2:=Zr9 (Za4 t i) hln.2
     have hoi:=hnw i hr0.1 hr0.2
     generalize Je t i=A at*
     generalize Za4 t i=B at*
     clear hp
     refine wS ?_
     refine Zoo (k1) ?_
     refine wS ?_
     refine Zoo (k2) ?_
     refine vS ?_
     refine Chk.mk (Z7) ?_
     refine Br.isT rfl ?_
     refine wS ?_
     refine Zoo (ks1) ?_
     refine vS ?_
     refine Chk.mk (Z7) ?_
     refine Br.isT rfl ?_
     refine wS ?_
     refine Zoo (ks2) ?_
     refine vS ?_
     refine Chk.mk (Z7) ?_
     refine Br.isF rfl ?_
     refine wS ?_
     refine⟨i+1,by show i+1≤_;omega,by show t.runs.length-(i+1)+0<t.runs.length-i+0;omega,?_⟩
     exact ZL
    ·refine wS ?_
     refine ZQ [0] (ZuD) (by decide) (by simp) (by first|rfl|(simp only[Ze,Zc,Zg,Zb,Zi,Za hnt];rfl)) (by first|rfl|(simp only[Ze,Zc,Zg,Zb,Zi,Za hnt];rfl)) fun r h₂ hp=>?_
     (try simp only[Ze,Zc,Zg,Zb,Zi,Za hnt]at hp)
     obtain⟨rfl,rfl⟩:=hp
     exact wZ
end Go.Proofs.Ytjgpiclllehgmaa.Vm
