/- kept's channel, its goroutine and the answers: by hand, as one piece. -/
import Derived.Test.YtjgpiclllehgmaaGreatB5
import Derived.Test.YtjgpiclllehgmaaGreatB3
import Derived.Test.YtjgpiclllehgmaaGreatB4
import Derived.Test.YtjgpiclllehgmaaGreatB1
import Derived.Test.YtjgpiclllehgmaaGreatB2
set_option linter.all false
namespace Go.Proofs.YtjgpiclllehgmaaGreat.Vm
open Go Go.Conc Go.Proofs Go.Proofs.YtjgpiclllehgmaaGreat.Conc1
section
variable {P:Program} {b:FB} {ds:List Deferred} {k:List Item} {cs:List Frame} {t:Array Value}
theorem ZeL {cx:Option Nat} {ops:Array Oper} {i:Nat} {rest:List Nat} {d:Option Tmp} {op:Op} {v:Value} {nv:Next} {w w':World} (H:Je ops i d op) (hd:∀c,op≠ .defer c) (hm:∀o:Oper,o.op=op→Zu P (fun _=>False) (execOp (QB t) o))
  (hr:∀o:Oper,o.op=op→(execOp (QB t) o).run P w= .ok nv w') (hnv:nv= .value v∨(nv= .skip∧v=undef)):
  One P cx (ZB (mkF b t ds (.inRegion ops (i::rest)::k)) cs w) (ZB (mkF b (Z1 t d v) ds (.inRegion ops rest::k)) cs w'):=by
 obtain⟨o,ho,hop,hdst,hg⟩:=H.ok
 rw[←hdst]
 exact J5 ho (by simp[Region.wanted,hg]) (fun c=>by rw[hop];exact hd c) (hm o hop) (hr o hop) hnv
theorem Zh7 {ops:Array Oper} {rest:List Nat} {i d:Nat} {T:TypeId} {dr:ChanDir} {B:TypeId} {w:World} (H:Je ops i (some d) (.makeChan T (.const (.int .i64 0)))) (hU:P.underlying T=some (.chan dr B)) (hB:∃i,P.info? B=some i):
  One P none (ZB (mkF b t ds (.inRegion ops (i::rest)::k)) cs w) (ZB (mkF b (Z1 t (some d) (.chan (some w.heap.size))) ds (.inRegion ops rest::k)) cs {w with heap:=w.heap.push (.chan 0 #[] false 0 0 false)}):=by
 obtain⟨o,ho,hop,hdst,hg⟩:=H.ok
 obtain⟨iB,hi⟩:=hB
 have hr:∀w:World,(execOp (QB t) o).runT P w #[]=(.ok (.value (.chan (some w.heap.size))) {w with heap:=w.heap.push (.chan 0 #[] false 0 0 false)}, #[]):=fun w=>by
  have e:execOp (QB t) o=(Instr.makeChan T (.int .i64 0)>>=fun x=>pure (.value x)):=by
   unfold execOp
   simp only[hop]
   rfl
  rw[e]
  unfold Instr.makeChan
  show(Sem.bind (Sem.bind (underlying T) _) _).runT P w #[]=_
  rw[Sem.runT_bind',Sem.runT_bind',ZeX hU]
  dsimp only
  rw[show∀f:TypeInfo→Sem Value,(typeInfo B>>=f)=Sem.bind (typeInfo B) f from fun _=>rfl,Sem.runT_bind',Zc5 hi]
  dsimp only
  rw[if_neg (by simp[IntKind.max];decide)]
  rfl
 refine StepsC.main ?_
 refine .one (.head (.own ⟨Nat,Sem.new (.chan 0 #[] false 0 0 false) Sem.pure,fun n=>(mkF b (Z1 t (some d) (.chan (some n))) ds (.inRegion ops rest::k),cs),w.heap.size, #[],fun main w w' x es h=>?_,rfl,rfl,fun e he=>by simp at he⟩) (.refl _))
 have h:((.ok w.heap.size {w with heap:=w.heap.push (.chan 0 #[] false 0 0 false)}:Result Nat),(#[]:Array Event))=(.ok x w',es):=h
 simp only[Prod.mk.injEq,Result.ok.injEq]at h
 obtain⟨⟨rfl,rfl⟩,rfl⟩:=h
 have:=ZdC (P:=P) (b:=b) (ds:=ds) (k:=k) (cs:=cs) (rest:=rest) ho hg (fun c=>by rw[hop];intro h;cases h) (hr w) main
 rw[hdst]at this
 exact this
theorem ZkL {α:Type} {A:Array α} {x y:α} {j:Nat} (h:j≠A.size):(A.push x)[j]? =(A.push y)[j]? :=by
 rw[Array.getElem?_push,Array.getElem?_push,if_neg h,if_neg h]
theorem VR.setCx {R:RC} {a:AV} {v:Value} (c:Option Nat) (h:VR R a v):VR {R with cx:=c} a v:=by
 induction h with
 |pure a v h=>exact .pure a v h
 |undef v=>exact .undef v
 |ptr id off h=>exact .ptr (R:={R with cx:=c}) id off h
 |own s n f id v h hp hn he=>exact .own s n f id v h hp hn he
 |nn s n f v hp hv=>exact .nn s n f v hp hv
 |aptr id s e off i h he=>exact .aptr (R:={R with cx:=c}) id s e off i h he
 |msl id s lo n c i len cap h hlo hn hc hle=>exact .msl (R:={R with cx:=_}) id s lo n c i len cap h hlo hn hc hle
 |gsl id n a l c h hn he hl=>exact .gsl id n a l c h hn he hl
 |gptr id s n e off a h hn he=>exact .gptr id s n e off a h hn he
 |lit s cs b o us hs h1 h2 h3 ih=>exact .lit s cs b o us hs h1 ih h3
 |map id h=>exact .map (R:={R with cx:=c}) id h
 |mit id h h0=>exact .mit (R:={R with cx:=c}) id h h0
 |fn f xs bs us vs ha hb h1 h2 ih1 ih2=>exact .fn f xs bs us vs ha hb ih1 ih2
 |yld id h=>exact .yld (R:={R with cx:=c}) id h
 |agg cs us ha h ih=>exact .agg cs us ha ih
 |tup cs us ha h ih=>exact .tup cs us ha ih
 |gd g a v h ih=>exact .gd g a v ih
 |ob g b v h1 h2=>exact .ob g b v h1 h2
structure KC (P:Program) (fid:FuncId) (xs:Nat→List AV) (L:List Bool):Prop where
 run:∀(ch:Nat) (R:RC) (vs:Array Value),HR (fun _ _ _=>True) R [.gob (.chq ch fun _=>[])]→R.cx=some ch→R.n0=1→XY R (xs ch) vs→∀cs,∃t todo w' s r tm ts ty c,
  StepsC P (some ch) ⟨Frame.enter P fid vs .deferred,cs,R.w⟩ ⟨{mkF ⟨fid,true,none,[]⟩ t [ZhJ ts ty c ch] todo with mode:=.returning},cs,w'⟩∧w'.heap[ch]? =some (.chan 0 (L.map Value.bool).toArray false s r tm)∧
  (∀b,b<R.w.heap.size→b≠ch→w'.heap[b]? =R.w.heap[b]?)∧R.w.heap.size≤w'.heap.size∧w'.os=R.w.os∧w'.tape=R.w.tape∧w'.output=R.w.output
def wCh (w:World) (v:Value) (T:TypeId) (f:Nat×Nat):World:={w with heap:=(w.heap.push (.chan 0 #[] false 0 0 false)).push (.cells #[v] T f)}
theorem Zjo {w:World} {v:Value} {T:TypeId} {f:Nat×Nat} {b:Nat} (h:b<w.heap.size):(wCh w v T f).heap[b]? =w.heap[b]? :=by
 show((w.heap.push _).push _)[b]? =_
 rw[Array.getElem?_push,if_neg (by simp;omega),Array.getElem?_push,if_neg (by omega)]
theorem Zml {w:World} {v:Value} {T:TypeId} {f:Nat×Nat}:(wCh w v T f).heap[w.heap.size]? =some (.chan 0 #[] false 0 0 false):=by
 show((w.heap.push _).push _)[w.heap.size]? =_
 rw[Array.getElem?_push,if_neg (by simp),Array.getElem?_push,if_pos rfl]
theorem Zcw {w:World} {v:Value} {T:TypeId} {f:Nat×Nat}:(wCh w v T f).heap[w.heap.size+1]? =some (.cells #[v] T f):=by
 show((w.heap.push _).push _)[w.heap.size+1]? =_
 rw[Array.getElem?_push,if_pos (by simp)]
theorem Za6 {w:World} {v:Value} {T:TypeId} {f:Nat×Nat}:(wCh w v T f).heap.size=w.heap.size+2:=by
 show((w.heap.push _).push _).size=_
 simp
theorem Zc4 {w:World} {v:Value} {T:TypeId} {f:Nat×Nat}:(wCh w v T f).cell? ⟨w.heap.size+1,0,none⟩=some v:=by
 unfold World.cell?
 rw[Zcw]
 rfl
theorem ZiY {w w':World} {b:Nat} (h:w'.heap[b]? =w.heap[b]?) (i:Nat):w'.cell? ⟨b,i,none⟩=w.cell? ⟨b,i,none⟩:=by
 unfold World.cell?
 simp only[h]
end
theorem ZoK {G:Nat→Nat→Nat→Prop} {R:RC} {h:List Zi} (H:HR G R h) (T:TypeId):∃R₃:RC,R₃.w=wCh R.w (.chan (some R.w.heap.size)) T (0,1)∧R₃.cx=some R.w.heap.size∧R₃.n0=1∧HR (fun _ _ _=>True) R₃ [.gob (.chq R.w.heap.size fun _=>[])]∧
  (∀k a v,VR R a v→VR R₃ (Qv true [] h k a) v)∧VR R₃ (.iptr [.cch R.w.heap.size] 0) (.pointer (some ⟨R.w.heap.size+1,0,none⟩)):=by
 obtain⟨R₂,acx,a0,a1,a2,a3,a4,a5,a6,a7,a8⟩:=H.sel (fz:=true) (ι:=[]) (fun _ _ _=>True) (fun _ _ _ _=>trivial) (fun _ _ _ _ _ _ _ _=>trivial) (fun _ _ _ _=>trivial) (fun _ _ _ _ _ _ _ _ _=>trivial) List.nodup_nil (fun i hi=>by cases hi) (fun _ _ _ _ _ _ _ _ _=>trivial) 0 (Nat.zero_le _) (fun _=>Nat.zero_le _)
 let n:=R.w.heap.size
 let R₃:RC:={R₂ with w:=wCh R.w (.chan (some n)) T (0,1),cx:=some n,m:=1,n0:=1,α:=fun _=>⟨n,0⟩,ok:=fun b _ _=>b<n+2∧b≠n}
 have hs:R₃.w.heap.size=n+2:=Za6
 have hle:({R₂ with cx:=some n}:RC).le R₃:=by
  refine⟨by show R₂.m≤1;rw[a2];exact Nat.zero_le _,fun id hi=>?_,fun id hi=>?_,fun id hi=>?_,fun b o m hk=>?_,fun b o m hk j hj=>?_,fun b hk es clk e=>?_,rfl⟩
  ·have hi:id<R₂.m:=hi
   rw[a2]at hi
   exact absurd hi (Nat.not_lt_zero _)
  ·have hi:id<R₂.m:=hi
   rw[a2]at hi
   exact absurd hi (Nat.not_lt_zero _)
  ·have hi:id<R₂.m:=hi
   rw[a2]at hi
   exact absurd hi (Nat.not_lt_zero _)
  ·have:=((a6.okd b o m).1 hk).1
   rw[a1]at this
   exact⟨by show b<R.w.heap.size+2;omega,by show b≠R.w.heap.size;omega⟩
  ·have:=((a6.okd b o m).1 hk).1
   rw[a1]at this
   show(wCh R.w _ T (0,1)).cell? _=R₂.w.cell? _
   rw[a1]
   exact ZiY (Zjo this) _
  ·have:=((a6.okd b 0 1).1 hk).1
   rw[a1]at this
   show(wCh R.w _ T (0,1)).heap[b]? =_
   rw[Zjo this,←a1]
   exact e
 refine⟨R₃,rfl,rfl,rfl,⟨rfl,fun b o m=>?_,fun id blk hi=>?_,fun i j bi bj b hij hi hj=>?_,fun _ _ _ _ _ _ _ _=>trivial,fun _ _ _ _=>trivial,fun _ _ _ _ _ _ _ _=>trivial,Nat.le_refl 1⟩,fun k a v hv=>((a8 k a v hv).setCx (some n)).mono hle,.pure _ _ (.iptr _ _ _ _ (fun _=>.chan (some n)) (fun j c hj=>?_) (fun j c hj=>?_) ?_)⟩
 ·rw[hs]
  refine⟨fun hk=>⟨hk.1,trivial,fun id blk hi=>?_⟩,fun hk=>⟨hk.1,fun e=>?_⟩⟩
  ·cases id with
   |zero=>
    cases hi
    show¬n=b
    exact fun e=>hk.2 e.symm
   |succ id=>simp at hi
  ·exact hk.2.2 0 _ rfl (show n=b from e.symm)
 ·cases id with
  |zero=>
   cases hi
   exact⟨.chan 0 #[] false 0 0 false,Zml,rfl,rfl,rfl,0,0,false,rfl⟩
  |succ id=>simp at hi
 ·cases i with
  |zero=>
   cases j with
   |zero=>exact absurd rfl hij
   |succ j=>simp at hj
  |succ i=>simp at hi
 ·cases j with
  |zero=>
   cases hj
   exact Zc4
  |succ j=>simp at hj
 ·cases j with
  |zero=>
   cases hj
   exact .cch n
  |succ j=>simp at hj
 ·exact⟨by show n+1<n+2;omega,by show n+1≠n;omega⟩
section
variable {P:Program} {b:FB} {ds:List Deferred} {k:List Item} {cs:List Frame} {t:Array Value}
variable {T I I':TypeId} {fid:FuncId} {o2 o3 o4 o5 o6 o7 o8 o9 o10:Array Oper}
theorem ZlH {i2 i3:Nat} {X:Code} (HO:ZaV T I I' fid o2 o3 o4 o5 o6 o7 o8 o9 o10) {dr:ChanDir} {B:TypeId} (hU:P.underlying T=some (.chan dr B)) (hT:∃i,P.info? T=some i∧i.size=1∧i.zero=some (.chan none)) (hB:∃i,P.info? B=some i) (hsz:t.size=51) (w:World):
  Steps P none (ZB (mkF b t ds (.code (.region i2 o2 false):: .code (.seq (.region i3 o3 false) X)::k)) cs w)
   (ZB (mkF b (Z1 (Z1 (Z1 t (some 37) (.chan (some w.heap.size))) (some 11) (.pointer (some ⟨w.heap.size+1,0,none⟩))) (some 38) (.func (.func fid) #[] #[.pointer (some ⟨w.heap.size+1,0,none⟩),t.getD 4 undef,t.getD 9 undef,t.getD 10 undef])) ds (.inRegion o3 [1]:: .code X::k)) cs (wCh w (.chan (some w.heap.size)) T (0,0))):=by
 obtain⟨iT,hi,hs,hz⟩:=hT
 refine .head ZbJ ?_
 rw[HO.s2]
 refine .head (Zh7 HO.a20 hU hB) ?_
 refine .head (ZeL (nv:=.value (.pointer (some ⟨w.heap.size+1,0,none⟩))) (w':=wCh w (.chan none) T (0,0)) HO.a21 (fun _ h=>by cases h) (fun o ho=>?_) (fun o ho=>?_) (.inl rfl)) ?_
 ·unfold execOp
  simp only[ho]
  exact Zh (fun _=>Zfg) fun _ _=>Zl
 ·have hzr:(zeroValue T).run P {w with heap:=w.heap.push (.chan 0 #[] false 0 0 false)}= .ok (.chan none) {w with heap:=w.heap.push (.chan 0 #[] false 0 0 false)}:=by
   have:=ZeW (w:={w with heap:=w.heap.push (.chan 0 #[] false 0 0 false)}) (es:= #[]) hi hz
   rw[Sem.runT_eq]at this
   exact congrArg Prod.fst this
  unfold execOp
  simp only[ho]
  simp only[Instr.alloc,Sem.run_bind,hzr,Result.andThen_ok,newVar,newRow,newObj,Value.cells]
  simp[Sem.run,wCh]
 refine .head (ZeL (nv:=.skip) (v:=undef) (w':=wCh w (.chan (some w.heap.size)) T (0,0)) HO.a22 (fun _ h=>by cases h) (fun o ho=>?_) (fun o ho=>?_) (.inr ⟨rfl,rfl⟩)) ?_
 ·unfold execOp
  simp only[ho]
  exact Zh (fun _=>ZcI) fun _ _=>Zl
 ·have e1:QB (Z1 (Z1 t (some 37) (.chan (some w.heap.size))) (some 11) (.pointer (some ⟨w.heap.size+1,0,none⟩))) (.tmp 11)= .pointer (some ⟨w.heap.size+1,0,none⟩):=Xo (by simp only[Z4];omega)
  have e2:QB (Z1 (Z1 t (some 37) (.chan (some w.heap.size))) (some 11) (.pointer (some ⟨w.heap.size+1,0,none⟩))) (.tmp 37)= .chan (some w.heap.size):=(Yr (by decide)).trans (Xo (by omega))
  unfold execOp
  simp only[ho,e1,e2]
  have hsr:(sizeOf T).run P (wCh w (.chan none) T (0,0))= .ok 1 (wCh w (.chan none) T (0,0)):=by
   have:=Zc5 (w:=wCh w (.chan none) T (0,0)) (es:= #[]) hi
   rw[Sem.runT_eq]at this
   have h:=congrArg Prod.fst this
   unfold sizeOf
   have h:(typeInfo T).run P (wCh w (.chan none) T (0,0))= .ok iT (wCh w (.chan none) T (0,0)):=h
   rw[Sem.run_bind,h,Result.andThen_ok,hs]
   rfl
  simp only[Instr.storeAt,Instr.sureAddr,Sem.run_bind,Sem.run_pure,Result.andThen_ok,storeVar,hsr]
  rw[if_neg (by simp[Value.cells])]
  have hc:(wCh w (.chan none) T (0,0)).cell? (Addr.add ⟨w.heap.size+1,0,none⟩ 0)=some (.chan none):=Zc4
  have hfz:(wCh w (.chan none) T (0,0)).frozen? (Addr.add ⟨w.heap.size+1,0,none⟩ 0)=false:=by
   unfold World.frozen?
   rw[show(Addr.add ⟨w.heap.size+1,0,none⟩ 0).block=w.heap.size+1 from rfl,Zcw]
   simp
  have hset:(wCh w (.chan none) T (0,0)).setCell (Addr.add ⟨w.heap.size+1,0,none⟩ 0) (.chan (some w.heap.size))=wCh w (.chan (some w.heap.size)) T (0,0):=by
   unfold World.setCell wCh
   simp only[World.mk.injEq,and_true]
   apply Array.ext_getElem?
   intro j
   show(((w.heap.push _).push _).modify (w.heap.size+1) _)[j]? =_
   rw[Array.getElem?_modify]
   by_cases hj:w.heap.size+1=j
   ·subst hj
    rw[if_pos rfl,Array.getElem?_push,if_pos (by simp),Array.getElem?_push,if_pos (by simp)]
    rfl
   ·rw[if_neg hj]
    exact ZkL (by simpa using Ne.symm hj)
  simp[Value.cells,storeCells,store,Sem.run_bind,Sem.run,hc,hfz,hset]
 refine .head YH (.head Zg2 (.head ZbJ ?_))
 rw[HO.s3]
 refine .head (ZeL (nv:=.value _) (v:=.func (.func fid) #[] #[.pointer (some ⟨w.heap.size+1,0,none⟩),t.getD 4 undef,t.getD 9 undef,t.getD 10 undef]) (w':=wCh w (.chan (some w.heap.size)) T (0,0)) HO.a30 (fun _ h=>by cases h) (fun o ho=>?_) (fun o ho=>?_) (.inl rfl)) (.refl _)
 ·unfold execOp
  simp only[ho]
  trivial
 ·have e1:(QB (Z1 (Z1 t (some 37) (.chan (some w.heap.size))) (some 11) (.pointer (some ⟨w.heap.size+1,0,none⟩)))) (.tmp 11)= .pointer (some ⟨w.heap.size+1,0,none⟩):=Xo (by simp only[Z4];omega)
  have e2:(QB (Z1 (Z1 t (some 37) (.chan (some w.heap.size))) (some 11) (.pointer (some ⟨w.heap.size+1,0,none⟩)))) (.tmp 4)=t.getD 4 undef:=(Yr (by decide)).trans (Yr (by decide))
  have e3:(QB (Z1 (Z1 t (some 37) (.chan (some w.heap.size))) (some 11) (.pointer (some ⟨w.heap.size+1,0,none⟩)))) (.tmp 9)=t.getD 9 undef:=(Yr (by decide)).trans (Yr (by decide))
  have e4:(QB (Z1 (Z1 t (some 37) (.chan (some w.heap.size))) (some 11) (.pointer (some ⟨w.heap.size+1,0,none⟩)))) (.tmp 10)=t.getD 10 undef:=(Yr (by decide)).trans (Yr (by decide))
  unfold execOp
  have e0:∀u:Array Value,Z1 u none undef=u:=fun _=>rfl
  simp only[ho,Instr.makeFunc,List.map_toArray,List.map_cons,List.map_nil,e0,e1,e2,e3,e4]
  rfl
theorem ZjX {fn:Func} {body:Code} (hf:P.funcs[fid]? =some fn) (hb:fn.body=some body) (hn:(fn.name== "runtime.NumGoroutine")=false) (vs:Array Value) (main:Bool) (w:World):
  stepG P main (G (Zab P.funcs.size [{target:=.fn (.func fid) vs,args:= #[]}]) []) w= .go (G (Frame.enter P fid vs .deferred) [Zab P.funcs.size []]) w:=by
 have hr:(invoke (.fn (.func fid) vs) #[]).run P w= .ok (.enter fid vs) w:=by
  have hn:¬fn.name= "runtime.NumGoroutine" :=by simpa using hn
  simp[invoke,callFunc,Sem.run_bind,program,Sem.run,hf,hb,hn]
 have he:(invoke (.fn (.func fid) vs) #[]).events P w #[]= #[]:=by
  have hn:¬fn.name= "runtime.NumGoroutine" :=by simpa using hn
  unfold invoke callFunc Sem.events
  simp only
  show((Sem.bind program _).runT P w #[]).2=_
  rw[Sem.runT_bind',show program.runT P w #[]=(.ok P w, #[])from rfl]
  simp only[hf,hb]
  simp[hn]
 simp[G,stepG,unwind,Zab,callDeferred,hr,he,GStep.after,seen_none]
theorem Zqp {vs:Array Value} {X:Code} (HO:ZaV T I I' fid o2 o3 o4 o5 o6 o7 o8 o9 o10) (h38:QB t (.tmp 38)= .func (.func fid) #[] vs):
  Zl8 P (mkF b t ds (.inRegion o3 [1]:: .code X::k)) cs (mkF b t ds (.inRegion o3 []:: .code X::k)) (Zab P.funcs.size [{target:=.fn (.func fid) vs,args:= #[]}]):=by
 obtain⟨o,ho,hop,hd,hg⟩:=HO.a31.ok
 intro w
 refine⟨#[],?_,fun e he=>by simp at he⟩
 have hf:(mkF b t ds (.inRegion o3 [1]:: .code X::k)).finish undef=mkF b t ds (.inRegion o3 []:: .code X::k):=by
  rw[Xh,ho]
  show mkF b (Z1 t o.dst undef) ds _=_
  rw[hd]
  rfl
 have e:execOp (QB t) o=pure (.spawn {target:=.fn (.func fid) vs,args:= #[]}):=by
  unfold execOp
  simp only[hop,resolve,h38,Deferred.ofValue]
  simp
 rw[Zck ho (by simp[Region.wanted,hg]) (fun c=>by rw[hop];intro h;cases h),e,←hf]
 unfold stepG.apply
 have hk:=b.not_early
 simp[GStep.after,G,mkF,seen_none,hk,Zab]
end
section
variable {P:Program} {T I I':TypeId} {fid:FuncId} {o2 o3 o4 o5 o6 o7 o8 o9 o10:Array Oper}
theorem Zog {b:FB} {ds:List Deferred} {k:List Item} {cs:List Frame} {t:Array Value} {w:World} {i6 i7 i8 i9 i10 b0 b1:Nat} (HO:ZaV T I I' fid o2 o3 o4 o5 o6 o7 o8 o9 o10) (hsz:t.size=51):
  Steps P none (ZB (got (mkF b t ds (atR i6 i7 i8 i9 i10 b0 b1 o6 o7 o8 o9 o10 k [0,1]),cs) false false).1 (got (mkF b t ds (atR i6 i7 i8 i9 i10 b0 b1 o6 o7 o8 o9 o10 k [0,1]),cs) false false).2 w)
   (ZB (mkF b (Z1 (Z1 t (some 40) (.tuple #[.bool false,.bool false])) (some 41) (.bool false)) ds k) cs w):=by
 obtain⟨o,ho,hop,hd,hg⟩:=HO.a60.ok
 have e:got (mkF b t ds (atR i6 i7 i8 i9 i10 b0 b1 o6 o7 o8 o9 o10 k [0,1]),cs) false false=(mkF b (Z1 t (some 40) (.tuple #[.bool false,.bool false])) ds (atR i6 i7 i8 i9 i10 b0 b1 o6 o7 o8 o9 o10 k [1]),cs):=by
  unfold got atR
  rw[Xh,ho]
  show(mkF b (Z1 _ o.dst _) ds _,cs)=_
  rw[hd]
 rw[e]
 have e40:QB (Z1 t (some 40) (.tuple #[.bool false,.bool false])) (.tmp 40)= .tuple #[.bool false,.bool false]:=Xo (by omega)
 unfold atR
 refine .head (ZeL (nv:=.value _) (v:=.bool false) (w':=w) HO.a61 (fun _ h=>by cases h) (fun o ho=>?_) (fun o ho=>?_) (.inl rfl)) ?_
 ·rw[Jl e40 rfl o ho]
  trivial
 ·rw[Jl (v:=.bool false) e40 rfl o ho]
  rfl
 refine .head YH (.head Zg2 (.head (ZkD (v:=false) ?_) (.head (ZkC ?_) (.refl _))))
 ·rw[ZbO]
  exact Xo (by simp only[Z4];omega)
 ·simp[exitTo]
theorem Ztw {R:RC} {t:Array Value} {y n:Int} (hsz:t.size=51) (h12:t.getD 12 undef= .int .i64 y) (h13:t.getD 13 undef= .int .i64 n):SL R (mkS 51 [(12,.int .i64 fun _=>y),(13,.int .i64 fun _=>n)]) t:=by
 refine⟨by rw[hsz];rfl,fun i a hi=>?_⟩
 by_cases e13:i=13
 ·subst e13
  have hi:some (AV.int .i64 fun _=>n)=some a:=hi
  cases hi
  rw[h13]
  exact .pure _ _ (.int _ _)
 by_cases e12:i=12
 ·subst e12
  have hi:some (AV.int .i64 fun _=>y)=some a:=hi
  cases hi
  rw[h12]
  exact .pure _ _ (.int _ _)
 have hi:(((List.replicate 51 AV.undef).set 12 (.int .i64 fun _=>y)).set 13 (.int .i64 fun _=>n))[i]? =some a:=hi
 rw[List.getElem?_set_ne (Ne.symm e13),List.getElem?_set_ne (Ne.symm e12),List.getElem?_replicate]at hi
 split at hi
 ·cases hi
  exact .undef _
 ·cases hi
theorem Zqo {p:Unit→Program} {nb:Nat} {K:Ex→List AV→List Zi→Cd→Prop} {s:List AV} {h:List Zi} {i2 i3 i4 i5 i6 i7 i8 i9 i10 b0 b1:Nat} {x11:Code} (HO:ZaV T I I' fid o2 o3 o4 o5 o6 o7 o8 o9 o10) {dr:ChanDir} {B:TypeId}
  (hU:(p ()).underlying T=some (.chan dr B)) (hT:∃i,(p ()).info? T=some i∧i.size=1∧i.zero=some (.chan none)) (hB:∃i,(p ()).info? B=some i∧i.zero=some (.bool false))
  {fn:Func} {body:Code} (hf:(p ()).funcs[fid]? =some fn) (hb:fn.body=some body) (hn:(fn.name== "runtime.NumGoroutine")=false) (hr:fn.results= #[]) (hlen:s.length=51) (hmain:h[0]? =some .main)
  {x4 x9 x10:AV} (h4:Qv true [] h 5 (s.getD 4 .undef)=x4) (h9:Qv true [] h 5 (s.getD 9 .undef)=x9) (h10:Qv true [] h 5 (s.getD 10 .undef)=x10) {L:List Bool} (child:KC (p ()) fid (fun ch=>[.iptr [.cch ch] 0,x4,x9,x10]) L)
  (rest:HP false nb p [.code x11] K (mkS 51 [(12,.int .i64 fun _=>cnt true L 0),(13,.int .i64 fun _=>cnt false L 0)]) h):
  HP false nb p [.code (.region i2 o2 false),.code (.seq (.region i3 o3 false) (.seq (.region i4 o4 false) (.seq (.seq (.region i5 o5 false) (.block b0 (.loop (lpB i6 i7 i8 i9 i10 b0 b1 o6 o7 o8 o9 o10)))) x11)))] K s h:=by
 refine⟨fun hK R₀ h₀ hnb R t hi hs b ds k cs hd=>?_⟩
 have hcx:R.cx=none:=hi.hr.blk 0 .main hmain
 have hsz:t.size=51:=hs.1.trans hlen
 have S1:=ZlH (P:=p ()) (b:=b.1) (ds:=ds) (k:=k) (cs:=cs) (t:=t) (i2:=i2) (i3:=i3) (X:=.seq (.region i4 o4 false) (.seq (.seq (.region i5 o5 false) (.block b0 (.loop (lpB i6 i7 i8 i9 i10 b0 b1 o6 o7 o8 o9 o10)))) x11)) HO hU hT (hB.imp fun _ h=>h.1) hsz R.w
 generalize hvs:(#[.pointer (some ⟨R.w.heap.size+1,0,none⟩),t.getD 4 undef,t.getD 9 undef,t.getD 10 undef]:Array Value)=vs at S1
 generalize ht3:Z1 (Z1 (Z1 t (some 37) (.chan (some R.w.heap.size))) (some 11) (.pointer (some ⟨R.w.heap.size+1,0,none⟩))) (some 38) (.func (.func fid) #[] vs)=t3 at S1
 have hsz3:t3.size=51:=by rw[←ht3];simp only[Z4];exact hsz
 have h38:QB t3 (.tmp 38)= .func (.func fid) #[] vs:=by rw[←ht3];exact Xo (by simp only[Z4];omega)
 have h11:t3.getD 11 undef= .pointer (some ⟨R.w.heap.size+1,0,none⟩):=by rw[←ht3];exact(QL (by decide)).trans (Yk (by simp only[Z4];omega))
 have h37:t3.getD 37 undef= .chan (some R.w.heap.size):=by rw[←ht3];exact(QL (by decide)).trans ((QL (by decide)).trans (Yk (by omega)))
 have hgo:=Zqp (P:=p ()) (b:=b.1) (ds:=ds) (k:=k) (cs:=cs) (X:=.seq (.region i4 o4 false) (.seq (.seq (.region i5 o5 false) (.block b0 (.loop (lpB i6 i7 i8 i9 i10 b0 b1 o6 o7 o8 o9 o10)))) x11)) HO h38
 obtain⟨hkf,hE⟩:=ZlI (P:=p ()) (ch:=R.w.heap.size) (cell:=R.w.heap.size+1) (b:=b.1) (ds:=ds) (k:=k) (cs:=cs) HO hU hB (t:=t3) (by omega) h11 h37 rfl hgo
 obtain⟨R₃,r1,r2,r3,r4,r5,r6⟩:=ZoK hi.hr T
 have hrow:XY R₃ [.iptr [.cch R.w.heap.size] 0,x4,x9,x10] vs:=by
  subst hvs
  refine⟨rfl,fun j c hj=>?_⟩
  match j,hj with
  |0,hj=>cases hj;exact r6
  |1,hj=>
   cases hj
   rw[←h4]
   exact r5 5 _ _ (hs.getD 4)
  |2,hj=>
   cases hj
   rw[←h9]
   exact r5 5 _ _ (hs.getD 9)
  |3,hj=>
   cases hj
   rw[←h10]
   exact r5 5 _ _ (hs.getD 10)
  |j+4,hj=>simp at hj
 obtain⟨tc,todo,wc,sc,rc,tmc,ts,ty,c,g1,g2,g3,g4,g5,g6,g7⟩:=child.run R.w.heap.size R₃ vs r4 r2 r3 hrow [Zab (p ()).funcs.size []]
 rw[r1]at g1 g3 g4 g5 g6 g7
 have hFz:Fz (R.w.heap.size+1) (wCh R.w (.chan (some R.w.heap.size)) T (0,1)) (wCh R.w (.chan (some R.w.heap.size)) T (0,0)):=by
  refine⟨rfl,rfl,rfl,rfl,by rw[Za6,Za6],fun j hj=>?_,_,T,(0,0),Zcw,Zcw⟩
  exact ZkL (by simpa using hj)
 obtain⟨w',hw',S2⟩:=Zol (P:=p ()) hkf hgo hE Zml Zc4 (by omega) (fun main w=>ZjX hf hb hn vs main w) hFz g1 g2 (ZoP hf hr)
 have S3:=Zog (P:=p ()) (b:=b.1) (ds:=ds) (k:=.code x11::k) (cs:=cs) (t:=L.foldl stp (st0 R.w.heap.size t3)) (w:=w'.setChan R.w.heap.size 0 #[] true sc sc tmc) (i6:=i6) (i7:=i7) (i8:=i8) (i9:=i9) (i10:=i10) (b0:=b0) (b1:=b1) HO ((Zhy (by omega) h11 L).size.trans hsz3)
 have hst:=Zhy (ch:=R.w.heap.size) (cell:=R.w.heap.size+1) (t:=t3) (by omega) h11 L
 generalize htz:Z1 (Z1 (L.foldl stp (st0 R.w.heap.size t3)) (some 40) (.tuple #[.bool false,.bool false])) (some 41) (.bool false)=tz at S3
 have hszz:tz.size=51:=by rw[←htz];simp only[Z4];exact hst.size.trans hsz3
 have hz12:tz.getD 12 undef= .int .i64 (cnt true L 0):=by rw[←htz];exact(QL (by decide)).trans ((QL (by decide)).trans hst.c12)
 have hz13:tz.getD 13 undef= .int .i64 (cnt false L 0):=by rw[←htz];exact(QL (by decide)).trans ((QL (by decide)).trans hst.c13)
 generalize hwz:w'.setChan R.w.heap.size 0 #[] true sc sc tmc=wz at S2 S3
 have hheap:∀b,b<R.w.heap.size→wz.heap[b]? =R.w.heap[b]? :=fun b hb=>by
  rw[←hwz]
  show(w'.heap.setIfInBounds R.w.heap.size _)[b]? =_
  rw[Array.getElem?_setIfInBounds_ne (by omega),hw'.ne b (by omega)]
  exact(g3 b (by rw[Za6];omega) (by omega)).trans (Zjo hb)
 have hsize:R.w.heap.size≤wz.heap.size:=by
  rw[←hwz]
  show _≤(w'.heap.setIfInBounds R.w.heap.size _).size
  rw[Array.size_setIfInBounds,hw'.size]
  rw[Za6]at g4
  exact Nat.le_trans (by omega) g4
 have hos:wz.os=R.w.os:=by rw[←hwz];exact hw'.os.trans g5
 have htape:wz.tape=R.w.tape:=by rw[←hwz];exact hw'.tape.trans g6
 have hout:wz.output=R.w.output:=by rw[←hwz];exact hw'.output.trans g7
 let R':RC:={R with w:=wz,ok:=fun b o n=>b<wz.heap.size∧Gof R₀ h₀ b o n∧ZfW R h b o n}
 have hok:∀b o n,R.ok b o n→R'.ok b o n:=fun b o n k=>by
  obtain⟨h1,h2,h3⟩:=(hi.hr.okd _ _ _).1 k
  exact⟨by omega,h2,h3⟩
 have hkeep:∀b o n,R.ok b o n→∀j,j<n→R'.w.cell? ⟨b,o+j,none⟩=R.w.cell? ⟨b,o+j,none⟩:=fun b o n k j hj=>ZiY (hheap b ((hi.hr.okd _ _ _).1 k).1) _
 have hle:R.le R':=⟨Nat.le_refl _,fun _ _=>rfl,fun _ _=>⟨Int.le_refl _,fun _=>rfl⟩,fun _ _=>.refl _,hok,hkeep,fun b k es clk e=>(hheap b ((hi.hr.okd _ _ _).1 k).1).trans e,rfl⟩
 have hH:HR (Gof R₀ h₀) R' h:=⟨hi.hr.len,fun _ _ _=>Iff.rfl,fun id blk hid=>(hi.hr.blk id blk hid).mono hle rfl rfl rfl rfl fun b hp=>hheap b (hi.hr.phys_lt hid hp),hi.hr.dis,hi.hr.cl,fun b o n hb=>hi.hr.fresh b o n (Nat.le_trans hsize hb),hi.hr.tokG,hi.hr.n0m⟩
 have hx:Xm R h R' h:=⟨rfl,hos,htape,hout,hsize,Nat.le_refl _,fun _ _=>rfl,hok,hkeep,fun b hb _=>hheap b hb,fun id blk b hid hp=>.inr ⟨id,blk,hid,hp,.inl rfl⟩⟩
 have hi':JH R₀ h₀ R' h:=hi.step hH hx hle
 obtain⟨e,s',h',R'',t',ds',a1,a2,a5,a6,a7,a8⟩:=rest.run hK R₀ h₀ hnb R' tz hi' (Ztw hszz hz12 hz13) b ds k cs (hd.ext hi.hr hx)
 refine⟨e,s',h',R'',t',ds',a1,a2,a5,a6,a7,?_⟩
 have hcx':R'.cx=none:=hcx
 rw[hcx']at a8
 rw[hcx]
 exact Arr.of_steps (Steps.trans S1 (Steps.trans S2 S3)) a8
end
end Go.Proofs.YtjgpiclllehgmaaGreat.Vm
namespace Go.Proofs.YtjgpiclllehgmaaGreat.Vm
open Go Go.Conc Go.Proofs Go.Proofs.YtjgpiclllehgmaaGreat.Conc1
def ZoL (ch:Nat) (L:List Bool) (e:Ex) (s:List AV) (h:List Zi) (c:Cd):Prop:=match e with
 |.exit _=>False
 |_=>chk c (∃h2,h= .gob (.chq ch fun _=>L)::h2)
theorem ZgH {ch:Nat} {L:List Bool} {e:Ex} {s:List AV} {h:List Zi} {c:Cd} (H:ZoL ch L e s h c):ZO c∧(∀id,e≠ .exit id)∧∃h2,h= .gob (.chq ch fun _=>L)::h2:=by
 cases e with
 |exit id=>exact H.elim
 |normal=>exact⟨(Z3 H).1,(fun _ h=>by cases h),(Z3 H).2⟩
 |ret=>exact⟨(Z3 H).1,(fun _ h=>by cases h),(Z3 H).2⟩
theorem Zg8 {P:Program} {T:TypeId} {dr:ChanDir} {B:TypeId} {w:World} {a:Addr} {v:Value} (hU:P.underlying T=some (.chan dr B)) (hw:w.cell? a=some v):(Instr.loadAt T (.pointer (some a))).run P w= .ok v w:=by
 have h1:(isAgg T).run P w= .ok false w:=by
  unfold isAgg
  have:=ZeX (w:=w) (es:= #[]) hU
  rw[Sem.runT_eq]at this
  have h:(underlying T).run P w= .ok (.chan dr B) w:=congrArg Prod.fst this
  rw[Sem.run_bind,h,Result.andThen_ok]
  rfl
 simp only[Instr.loadAt,Instr.sureAddr,Sem.run_bind,Sem.run_pure,Result.andThen_ok,loadVar,h1,Bool.false_eq_true,if_false]
 simp[load,Sem.run,hw]
theorem ZoJ {p:Unit→Program} {fid:FuncId} {fn:Func} {i0:Nat} {o0:Array Oper} {x1:Code} {T:TypeId} {dr:ChanDir} {B:TypeId} {ts:Array TypeId} {L:List Bool} {ys:List AV} (hf:(p ()).funcs[fid]? =some fn) (hb:fn.body=some (.seq (.region i0 o0 false) x1)) (hs0:List.range o0.size=[0,1])
  (a0:Je o0 0 (some 6) (.load T (.tmp 0))) (a1:Je o0 1 none (.defer {callee:=.builtin .close,args:= #[.tmp 6],argTypes:=ts})) (hU:(p ()).underlying T=some (.chan dr B)) (hnt:6<fn.ntmps)
  (H:∀ch,HP false 1 p [.code x1] (ZoL ch L) ((entry fn.ntmps (.iptr [.cch ch] 0::ys)).set 6 (.cch ch)) [.gob (.chq ch fun _=>[])]):KC (p ()) fid (fun ch=>.iptr [.cch ch] 0::ys) L:=by
 refine⟨fun ch R vs HH hcx hn0 ha cs=>?_⟩
 obtain⟨ha1,ha2⟩:=ha
 have hfr:Frame.enter (p ()) fid vs .deferred=mkF ⟨fid,true,none,[]⟩ (vs++Array.replicate (fn.ntmps-vs.size) undef) [] [.code (.seq (.region i0 o0 false) x1)]:=by
  simp[Frame.enter,mkF,FB.kind,hf,hb]
 have hsl:SL R (entry fn.ntmps (.iptr [.cch ch] 0::ys)) (vs++Array.replicate (fn.ntmps-vs.size) undef):=by
  refine⟨by simp[entry,←ha1];omega,fun i a hi=>?_⟩
  rw[entry,List.getElem?_append]at hi
  split at hi
  ·rename_i hlt
   have:=ha2 i a hi
   rw[Array.getD_eq_getD_getElem?]at this⊢
   rw[Array.getElem?_append_left (by omega)]
   exact this
  ·rw[List.getElem?_replicate]at hi
   split at hi
   ·cases hi
    exact .undef _
   ·cases hi
 generalize ht:vs++Array.replicate (fn.ntmps-vs.size) undef=t at hfr hsl
 have hv0:∃a:Addr,t.getD 0 undef= .pointer (some a)∧R.w.cell? a=some (.chan (some ch)):=by
  have h0:=hsl.getD 0
  have h0:VR R (.iptr [.cch ch] 0) (t.getD 0 undef):=h0
  generalize t.getD 0 undef=v at h0
  cases h0 with
  |pure _ _ hp=>
   cases hp with
   |iptr _ _ b o us h1 h2 h3=>
    have e:=h1 0 _ rfl
    have e2:=h2 0 _ rfl
    refine⟨_,rfl,?_⟩
    cases hu:us 0 with
    |chan c=>
     rw[hu]at e2 e
     cases e2
     exact e
    |_=>rw[hu]at e2;cases e2
 obtain⟨a,hv0,hcell⟩:=hv0
 have hsz:6<t.size:=by
  have:=hsl.1
  rw[this]
  simp only[entry,List.length_append,List.length_replicate]
  omega
 have hno:(⟨fid,true,none,[]⟩:FB).roundOf=none:=rfl
 obtain⟨o,ho,hop,hdst,hg⟩:=a1.ok
 let t1:=Z1 t (some 6) (.chan (some ch))
 let D:=ZhJ ts o.type #[false] ch
 have S0:StepsC (p ()) (some ch) (ZB (mkF ⟨fid,true,none,[]⟩ t [] [.code (.seq (.region i0 o0 false) x1)]) cs R.w) (ZB (mkF ⟨fid,true,none,[]⟩ t1 [] [.inRegion o0 [1],.code x1]) cs R.w):=by
  refine .head Zg2 (.head ZbJ ?_)
  rw[hs0]
  refine .one (ZeL (nv:=.value _) (v:=.chan (some ch)) (w':=R.w) a0 (fun _ h=>by cases h) (fun o ho=>?_) (fun o ho=>?_) (.inl rfl))
  ·unfold execOp
   simp only[ho]
   exact Zh (fun _=>ZdZ) fun _ _=>Zl
  ·have e:QB t (.tmp 0)= .pointer (some a):=hv0
   unfold execOp
   simp only[ho,e,Sem.run_bind,Zg8 hU hcell,Result.andThen_ok,Sem.run_pure]
 have S1:One (p ()) (some ch) (ZB (mkF ⟨fid,true,none,[]⟩ t1 [] [.inRegion o0 [1],.code x1]) cs R.w) (ZB (mkF ⟨fid,true,none,[]⟩ t1 [D] [.inRegion o0 [],.code x1]) cs R.w):=by
  refine Q1 fun main w=>?_
  have e6:QB t1 (.tmp 6)= .chan (some ch):=Xo hsz
  have e:execOp (QB t1) o=pure (.defer D):=by
   unfold execOp
   simp only[hop,resolve,List.map_toArray,List.map_cons,List.map_nil,e6]
   rfl
  have hop2:(mkF ⟨fid,true,none,[]⟩ t1 [] [.inRegion o0 [1],.code x1]).oper?=some o:=by simp[Frame.oper?,mkF,ho]
  have he:(mkF ⟨fid,true,none,[]⟩ t1 [] [.inRegion o0 [1],.code x1]).eval=QB t1:=ZbO _
  have h2:stepG (p ()) main (G (mkF ⟨fid,true,none,[]⟩ t1 [] [.inRegion o0 [1],.code x1]) cs) w=stepG.oper (p ()) true (mkF ⟨fid,true,none,[]⟩ t1 [] [.inRegion o0 [1],.code x1]) cs none w:=by
   simp[stepG,stepG.exec,mkF,G,ho,Region.wanted,hg]
  rw[h2]
  unfold stepG.oper
  simp only[hop2,he,e]
  unfold stepG.apply
  have hk:(mkF ⟨fid,true,none,[]⟩ t1 [D] [.inRegion o0 [1],.code x1]).finish undef=mkF ⟨fid,true,none,[]⟩ t1 [D] [.inRegion o0 [],.code x1]:=by
   rw[Xh,ho]
   show mkF _ (Z1 t1 o.dst undef) _ _=_
   rw[hdst]
   rfl
  rw[←hk]
  simp[GStep.after,G,mkF,seen_none,FB.kind]
 have S2:One (p ()) (some ch) (ZB (mkF ⟨fid,true,none,[]⟩ t1 [D] [.inRegion o0 [],.code x1]) cs R.w) (ZB (mkF ⟨fid,true,none,[D]⟩ t1 [D] ([.code x1]++[])) cs R.w):=YH
 have hn0':([.gob (.chq ch fun _=>[])]:List Zi).length≤R.n0:=by rw[hn0];exact Nat.le_refl 1
 have hsl1:SL R ((entry fn.ntmps (.iptr [.cch ch] 0::ys)).set 6 (.cch ch)) t1:=hsl.set (.pure _ _ (.cch ch)) 6
 obtain⟨e,s',h',R',t',ds',⟨c,hk⟩,hi,hs,hd,_,hA⟩:=(H ch).run (fun e s h c hk=>(ZgH hk).1) R [.gob (.chq ch fun _=>[])] (by rw[hn0];exact Nat.le_refl 1) R t1 (JH.refl HH hn0') hsl1 ⟨⟨fid,true,none,[D]⟩,fun _=>rfl⟩ [D] [] cs ⟨[],rfl,List.nodup_nil,fun r hr=>by cases hr⟩
 obtain⟨hc,hne,h2,rfl⟩:=ZgH hk
 rw[hcx]at hA
 have hret:∃todo,Steps (p ()) (some ch) (ZB (mkF ⟨fid,true,none,[D]⟩ t1 [D] ([.code x1]++[])) cs R.w) (ZB {mkF ⟨fid,true,none,[D]⟩ t' ds' todo with mode:=.returning} cs R'.w):=by
  cases e with
  |exit id=>exact absurd rfl (hne id)
  |normal=>exact⟨[],Steps.trans hA (.one (ZnK rfl))⟩
  |ret=>
   obtain⟨todo,hA⟩:=hA
   exact⟨.code .ret::todo,Steps.trans hA (.one (ZnH rfl))⟩
 obtain⟨todo,hst⟩:=hret
 obtain⟨rs,rfl,hnd,hrs⟩:=hd
 obtain⟨R2,hi2,hle2,hst2⟩:=Zcj (P:=p ()) (b:=⟨fid,true,none,[D]⟩) (base:=[D]) (t:=t') (todo:=todo) (cs:=cs) rs R' hnd hi hrs
 have hcx2:R'.cx=some ch:=hi.le.cx.trans hcx
 rw[hcx2]at hst2
 obtain⟨ob,hob,_,hq,_,sN,rN,tmN,rfl⟩:=hi2.hr.blk 0 _ rfl
 have hα:(R2.α 0).b=(R.α 0).b:=by
  have:R2.α 0=R.α 0:=hi2.le.α 0 (by rw[←HH.len];exact Nat.zero_lt_one)
  rw[this]
 refine⟨t',todo,R2.w,sN,rN,tmN,ts,o.type, #[false],?_,?_,fun b hb hne=>?_,hi2.ext.size,hi2.ext.os,hi2.ext.tape,hi2.ext.output⟩
 ·rw[hfr]
  exact S0.trans (.head S1 (.head S2 (hst.trans hst2)))
 ·rw[←hq]
  exact hob
 ·refine hi2.ext.frame b hb fun id blk hid hp=>?_
  cases id with
  |zero=>
   cases hid
   have hp:(R.α 0).b=b:=hp
   rw[←hα,hq]at hp
   exact hne hp.symm
  |succ id=>simp at hid
attribute [local irreducible] Dn
open Go Go.Proofs Sp
set_option maxRecDepth 100000
set_option maxHeartbeats 4000000
def Zcd (t:Zf) (f r st:Int):Nat→List Bool
 |0=>[]
 |i+1=>Zcd t f r st i++[Y2 t f r st i]
theorem Zuv (t:Zf) (f r st:Int) (hw:ZH t) (hc:ZdI t f r st):KC Tryz.prog 151 (fun ch=>.iptr [.cch ch] 0::[XZ t,.iptr [.int .i64 fun _=>f,.int .i64 fun _=>Z6 (Sp.Zq (callsOf t) f) st] 0,.iptr [.int .i64 fun _=>r,.int .i64 fun _=>ZZ (Sp.Zq (callsOf t) r) st] 0]) (Zcd t f r st (Qe t)):=by
 obtain⟨nt,hnt⟩:=Zp
 have k382:=ZqK t
 have k435:=fun B0 B1 B2 B3 B4 B5 stop=>ZqH t hw B0 B1 B2 B3 B4 B5 stop
 have hl1:=fun x=> @Zai t x _ _ hc.1
 have hl2:=fun x=> @Zai t x _ _ hc.2
 have hkb:∀i,Y2 t f r st i=decide ((ZY t (Zk t i) f (Z6 (Sp.Zq (callsOf t) f) st)).comes≤(ZY t (Zk t i) r (ZZ (Sp.Zq (callsOf t) r) st)).goes):=fun _=>rfl
 have hL0:Zcd t f r st 0=[]:=rfl
 have hLS:∀i,Zcd t f r st (i+1)=Zcd t f r st i++[Y2 t f r st i]:=fun _=>rfl
 generalize Zcd t f r st=KL at*
 generalize Y2 t f r st=KB at*
 generalize Z6 (Sp.Zq (callsOf t) f) st=fo at*
 generalize ZZ (Sp.Zq (callsOf t) r) st=to at*
 generalize ZY t=HH at*
 generalize Zk t=TA at*
 generalize Qj t=HL at*
 refine ZoJ (p:=fun _=>Tryz.prog) (dr:=.both) (B:=4) Tryz.func151 (show Tryz.f151.body=_ from rfl) rfl ⟨_,rfl,rfl,rfl,rfl⟩ ⟨_,rfl,rfl,rfl,rfl⟩ (by kernel_rfl) (by decide) fun ch=>?_
 unfold XZ ZR at*
 simp only[Za hnt,Zb,Zx]at*
 refine Zd4 false false [] [] false ?_
 refine wS ?_
 refine ZV (k382) (by first|rfl|(simp only[Zd,Zc,Ze,Zb,Za hnt];rfl)) fun r h₂ hp=>?_
 (try simp only[Zd,Zc,Ze,Zb,Za hnt]at hp)
 obtain⟨rfl,rfl⟩:=hp
 refine wS ?_
 refine Ze1 [0,2,3,8] [.tok 1 fun _=>0,.tok 1 fun _=>0,.tok 1 fun _=>0,.tok 1 fun _=>0] [(0,.gob (.chq ch fun _=>KL 0))] (fid:=135) (first:=[]) ?_ rfl ?_ ?_
 ·rw[hL0]
  (refine To.of [(1,false),(1,false),(1,false),(1,false)] ?_;cbv;(try simp only[nc]);(repeat' (first|exact trivial|exact ZE.refl _|exact ZM.refl _|refine⟨?_,?_⟩|refine ZM.cells ?_|refine ZE.agg ?_|refine ZE.tup ?_));(all_goals (first|exact X3|skip)))
 ·exact XQ
 refine SC.mono (k435 (fun i=>.gob (.chq ch fun _=>KL i)) (fun _=>_) (fun _=>_) (fun _=>_) (fun _=>_) (fun _=>_) (fun _=>false) ?_ ?_ ?_ ?_ ?_ ?_ ?_) ?_
 iterate 6 exact fun i=>Qw.of rfl
 ·intro i hi hno
  have e1:(((HL (TA i)).lookup [f,fo]).getD []).headD 0=(HH (TA i) f fo).comes:=by rw[hl1];rfl
  have e2:(((HL (TA i)).lookup [r,to]).getD []).tail.tail.headD 0=(HH (TA i) r to).goes:=by rw[hl2];rfl
  refine YC.less (Zci false false [] rfl rfl ?_)
  refine wS ?_
  simp only[e1,e2,←hkb,←hLS]
  refine⟨.bool fun _=>true,_,?_,rfl,rfl⟩
  exact ZJ
 ·intro v h hh
  obtain⟨m,hm,rfl⟩:=hh
  have hmN:m=Qe t:=by
   rcases hm with h|⟨_,_,_,h,_⟩
   ·exact h.1
   ·cases h
  subst hmN
  refine wS ?_
  exact⟨_,rfl⟩
theorem ZkS {o:Option TypeInfo} {n:Nat} {z:Option Value} (h:o.map (fun i=>(i.size,i.zero))=some (n,z)):∃i,o=some i∧i.size=n∧i.zero=z:=by
 cases o with
 |none=>cases h
 |some i=>
  have h:some (i.size,i.zero)=some (n,z):=h
  simp only[Option.some.injEq,Prod.mk.injEq]at h
  exact⟨i,rfl,h.1,h.2⟩
theorem ZfF (w v:Bool):∀(l:List Bool) (n:Int),cnt w (l++[v]) n=if v=w then IntKind.i64.wrap (cnt w l n+1)else cnt w l n
 |[],_=>rfl
 |x::l,n=>ZfF w v l _
theorem ZeF {x:Int} (h:0≤x∧x<1000000):IntKind.i64.wrap x=x:=Za4 x ⟨by omega,by omega⟩
theorem ZkM {ds:List Qh} (h:∀d∈ds,d.by_.length≤3):∀m,m≤ds.length→Yx ds m≤3^ m
 |0,_=>Nat.le_refl _
 |m+1,hm=>by
  unfold Yx
  rw[Nat.pow_succ]
  refine Nat.mul_le_mul (ZkM h m (by omega)) ?_
  unfold lenAt
  rw[List.getD_eq_getElem?_getD,List.getElem?_eq_getElem hm]
  exact h _ (List.getElem_mem hm)
theorem Zqj {t:Zf} (hw:ZH t):Qe t≤729:=by
 have h:=ZkM (fun d hd=>(hw.d d hd).2.1) t.delays.length (Nat.le_refl _)
 have h2:3^ t.delays.length≤3^ 6:=Nat.pow_le_pow_right (by omega) hw.dlen
 exact Nat.le_trans h (Nat.le_trans h2 (by decide))
theorem ZfD (p:Nat→Bool):∀n,0≤XG p n∧XG p n≤n
 |0=>⟨Int.le_refl _,Int.le_refl _⟩
 |n+1=>by
  have:=ZfD p n
  unfold XG
  split<;>omega
theorem ZoH (t:Zf) (f r st:Int):∀n,n≤729→cnt true (Zcd t f r st n) 0=XG (Y2 t f r st) n∧cnt false (Zcd t f r st n) 0=XG (fun i=> !Y2 t f r st i) n
 |0,_=>⟨rfl,rfl⟩
 |n+1,h=>by
  have ih:=ZoH t f r st n (by omega)
  have b1:=ZfD (Y2 t f r st) n
  have b2:=ZfD (fun i=> !Y2 t f r st i) n
  unfold Zcd
  rw[ZfF,ZfF,ih.1,ih.2,ZeF (by omega),ZeF (by omega)]
  have e1:∀p,XG p (n+1)=if p n then XG p n+1 else XG p n:=fun _=>rfl
  rw[e1,e1]
  cases Y2 t f r st n<;>exact⟨rfl,rfl⟩
theorem ZuW (t : Zf) (f r st : Int) (hw : ZH t) (hc : ZdI t f r st) : SC (fun _ => Tryz.prog) 97 [.iptr (ZR t) 0, .int .i64 fun _ => f, .int .i64 fun _ => r, .int .i64 fun _ => st] [.main] fun v h => v = .int .i64 (fun _ => Zfn t f r st) ∧ h = [.main] := by
  obtain ⟨nt, hnt⟩ := Zp
  have h1 := hc.1
  have h2 := hc.2
  have hro1 := (Jp hw.calls h1).2.2
  have hro2 := (Jp hw.calls h2).2.2
  unfold StopIn at h1 h2
  rw [JU hnt] at h1 h2 hro1 hro2
  have k395 := ZsG (nt (List Sp.Call) [] (callsOf t) f) st (by omega)
  have k396 := Zt3 (nt (List Sp.Call) [] (callsOf t) r) st (by omega)
  have hcl := hw.calls.len
  have kc := Zuv t f r st hw hc
  obtain ⟨hy, hn⟩ := ZoH t f r st (Qe t) (Zqj hw)
  have hV : Zfn t f r st = Zep (XG (Y2 t f r st) (Qe t)) (XG (fun i => !Y2 t f r st i) (Qe t)) := rfl
  have k416 := ZuR (XG (Y2 t f r st) (Qe t)) (XG (fun i => !Y2 t f r st i) (Qe t))
  rw [← hV] at k416
  rw [JU hnt, JU hnt] at kc
  generalize Zfn t f r st = V at *
  generalize XG (Y2 t f r st) (Qe t) = CY at *
  generalize XG (fun i => !Y2 t f r st i) (Qe t) = CN at *
  generalize Zcd t f r st (Qe t) = KL at *
  unfold XZ at kc
  unfold ZR at *
  simp only [Za hnt, Zb, Zx] at *
  generalize Z6 (nt (List Sp.Call) [] (callsOf t) f) st = fo at *
  generalize ZZ (nt (List Sp.Call) [] (callsOf t) r) st = to at *
  refine SC.less (ZsB false false [] [2] false 1 Tryz.func97 (body := Zj Tryz.f97) rfl (by decide +kernel) rfl ?_)
  refine vS ?_
  repeat' first
    | (with_reducible refine Zkx.mk ?_ ?_)
    | (with_reducible refine Chk.mk (Qc) ?_)
    | (refine ZV k395 (by first | rfl | (simp only [Zd, Zc, Ze, Zb, Za hnt]; rfl)) fun r h₂ hp => ?_
       obtain ⟨rfl, rfl⟩ := hp
       refine vS ?_)
    | (refine ZV k396 (by first | rfl | (simp only [Zd, Zc, Ze, Zb, Za hnt]; rfl)) fun r h₂ hp => ?_
       obtain ⟨rfl, rfl⟩ := hp
       refine vS ?_)
  all_goals
    refine Zqo (p := fun _ => Tryz.prog) (dr := .both) (B := 4) ⟨rfl, rfl, rfl, rfl, rfl, rfl, rfl, rfl, rfl, ⟨_, rfl, rfl, rfl, rfl⟩, ⟨_, rfl, rfl, rfl, rfl⟩, ⟨_, rfl, rfl, rfl, rfl⟩, ⟨_, rfl, rfl, rfl, rfl⟩, ⟨_, rfl, rfl, rfl, rfl⟩, ⟨_, rfl, rfl, rfl, rfl⟩, ⟨_, rfl, rfl, rfl, rfl⟩, ⟨_, rfl, rfl, rfl, rfl⟩, ⟨_, rfl, rfl, rfl, rfl⟩, ⟨_, rfl, rfl, rfl, rfl⟩, ⟨_, rfl, rfl, rfl, rfl⟩, ⟨_, rfl, rfl, rfl, rfl⟩, ⟨_, rfl, rfl, rfl, rfl⟩, ⟨_, rfl, rfl, rfl, rfl⟩, ⟨_, rfl, rfl, rfl, rfl⟩, ⟨_, rfl, rfl, rfl, rfl⟩, ⟨_, rfl, rfl, rfl, rfl⟩, ⟨_, rfl, rfl, rfl, rfl⟩, ⟨_, rfl, rfl, rfl, rfl⟩⟩ (by kernel_rfl) (ZkS (by kernel_rfl)) ((ZkS (n := 1) (z := some (.bool false)) (by kernel_rfl)).imp fun i h => ⟨h.1, h.2.2⟩)
      Tryz.func151 rfl (by decide +kernel) rfl rfl rfl rfl rfl rfl kc ?_
    rw [hy, hn]
    refine Zd4 false false [] [] false ?_
    refine wS ?_
    refine ZV (k416) (by first | rfl | (simp only [Zd, Zc, Ze, Zb, Za hnt]; rfl)) fun r h₂ hp => ?_
    (try simp only [Zd, Zc, Ze, Zb, Za hnt] at hp)
    obtain ⟨rfl, rfl⟩ := hp
    refine wS ?_
    refine ⟨_, _, ?_, rfl, rfl⟩
    exact ZJ
theorem PR.nilw {w:World} {ok:Nat→Nat→Nat→Prop} {s s':Nat} {m m':Unit→Int} {f f':(Unit→Int)→List AV} {v:Value} (h:PR w ok (.isl s m f .nil) v) (hm:m' ()=0):PR w ok (.isl s' m' f' .none) v:=by
 cases h with
 |isl0 _ _ _ _ hz h1=>exact .isl0 _ _ _ _ hm rfl
 |islE _ _ _ _ a hz h1=>exact .islE _ _ _ _ a hm (.inl rfl)
 |isl _ _ _ _ b o len cap us hn hc h1=>rcases h1 with h|h<;>cases h
theorem Zt9 (m:Int):SC (fun _=>Tryz.prog) 69 [.int .i64 fun _=>m] [] fun v h=>v=Ze (Z8 m)∧h=[]:=by
 obtain⟨nt,hnt⟩:=Zp
 have k1:=Zkk 0 0 60
 have k2:=Zkk 1 100 110
 have k3:=Zkk 2 160 0
 have k4:=Zkk 1 0 120
 have k5:=Zkk 3 200 0
 have k6:=Zkk 1 0 180
 have k7:=Zkk 3 260 0
 refine SC.less (Qu Tryz.func69 (body:=Zj Tryz.f69) rfl (by decide+kernel) ?_)
 refine wS ?_
 refine ZoO (k1) ?_
 refine wS ?_
 refine ZoO (k2) ?_
 refine wS ?_
 refine ZoO (k3) ?_
 refine wS ?_
 refine ZoO (k4) ?_
 refine wS ?_
 refine ZoO (k5) ?_
 refine wS ?_
 refine ZoO (k6) ?_
 refine wS ?_
 refine ZoO (k7) ?_
 refine wS ?_
 refine⟨Ze (Z8 m),[],?_,rfl,rfl⟩
 unfold Ze
 simp only[Za hnt,encTrain,encZone,Zx]
 (refine To.of [] ?_;cbv;(try simp only[nc]);(repeat' (first|exact trivial|exact ZE.refl _|exact ZM.refl _|refine⟨?_,?_⟩|refine ZM.cells ?_|refine ZE.agg ?_|refine ZE.tup ?_));(all_goals (first|exact X3|skip)))
 ·refine ZjU hnt (fun z:Sp.Zone=>[.int .i64 fun _=>z.base,.isl 2 (fun _=>(z.chs.length:Int)) (fun e=>JC (nt Chg default z.chs (e ()))) .none]) default [⟨0,[]⟩] _ ?_ fun i hi=>?_
  ·rfl
  match i,hi with
  |0,_=>exact Y6.two fun w ok v h=>h.nilw rfl
 ·refine ZjU hnt (fun t:Sp.Train=>[.int .i64 fun _=>t.number,.int .i64 fun _=>t.days,.isl 4 (fun _=>(t.stops.length:Int)) (fun e=>QH (nt Stop default t.stops (e ()))) .none]) default (Z8 m).book.old _ ?_ fun i hi=>?_
  ·rfl
  match i,hi with
  |0,_=>
   refine Y6.three fun w ok v h=>h.wk rfl (fun j hj=>?_) (.inl rfl)
   match j,hj with
   |0,_=>(rw[hnt];rfl)
   |1,_=>(rw[hnt];rfl)
   |2,_=>(rw[hnt];rfl)
   |j+3,hj=>exact absurd hj (by show¬((j+3:Nat):Int)<3;omega)
  |1,_=>
   refine Y6.three fun w ok v h=>h.wk rfl (fun j hj=>?_) (.inl rfl)
   match j,hj with
   |0,_=>(rw[hnt];rfl)
   |1,_=>(rw[hnt];rfl)
   |j+2,hj=>exact absurd hj (by show¬((j+2:Nat):Int)<2;omega)
  |2,_=>
   refine Y6.three fun w ok v h=>h.wk rfl (fun j hj=>?_) (.inl rfl)
   match j,hj with
   |0,_=>(rw[hnt];rfl)
   |1,_=>(rw[hnt];rfl)
   |j+2,hj=>exact absurd hj (by show¬((j+2:Nat):Int)<2;omega)
 ·refine ZjU hnt (fun t:Sp.Qh=>[.int .i64 fun _=>t.run,.int .i64 fun _=>t.leg,.isl 1 (fun _=>(t.by_.length:Int)) (fun e=>XN (nt Int 0 t.by_ (e ()))) .none]) default (Z8 m).delays _ ?_ fun i hi=>?_
  ·rfl
  match i,hi with
  |0,_=>
   refine Y6.three fun w ok v h=>h.wk rfl (fun j hj=>?_) (.inl rfl)
   match j,hj with
   |0,_=>(rw[hnt];rfl)
   |1,_=>(rw[hnt];rfl)
   |2,_=>(rw[hnt];rfl)
   |j+3,hj=>exact absurd hj (by show¬((j+3:Nat):Int)<3;omega)
theorem Zu0 (l:List Sp.Zcu) (hlen:l.length≤100000):SC (fun _=>Tryz.prog) 26 [lst 2 Qs default l,lst 2 Qs default l] [] fun v h=>v= .bool (fun _=>true)∧h=[]:=by
 obtain⟨nt,hnt⟩:=Zp
 refine Qu Tryz.func26 (body:=Zj Tryz.f26) rfl (by decide+kernel) ?_
 simp only[Za hnt]
 refine wS ?_
 refine Br.isF (by simp) ?_
 refine wS ?_
 refine ZT false false [] [0,1,5] [] (fun(i:Nat)=>[(5,.int .i64 fun _=>(i:Int))]) (fun _=>[]) (fun i=>i≤l.length) (fun i=>l.length-i+0) 0 (Nat.zero_le _) ?_ ?_
 ·exact ZJ
 intro i hi
 refine wS ?_
 refine⟨fun hb=>?_,fun hb=>?_⟩
 ·simp only[decide_eq_true_eq]at hb
  refine wS ?_
  refine Br.isF (by simp) ?_
  refine wS ?_
  refine⟨i+1,by omega,by omega,?_⟩
  exact ZJ
 ·(cbv;(try simp only[nc]at*);(try refine Chk.mk (Qc) ?_))
  (try first|exact⟨rfl,trivial⟩|exact⟨trivial,trivial⟩)
theorem Za7 (m:Int):Xe (Z8 m):=⟨⟨by show 1≤1000000;decide,by show 3≤1000000;decide,by show 0≤1000000;decide,fun z hz=>by simp only[Z8,List.mem_singleton]at hz;subst hz;decide,fun t ht=>by simp only[Z8,List.mem_cons,List.not_mem_nil,or_false]at ht;rcases ht with rfl|rfl|rfl<;>decide,fun t ht=>by cases ht⟩,by show 3≤1000000;decide,by show 1≤1000000;decide,by show 1≤1000000;decide,fun d hd=>by simp only[Z8,List.mem_singleton]at hd;subst hd;decide⟩
theorem Zua:SC (fun _=>Tryz.prog) 17 [] [.main] fun v h=>v= .bool (fun _=>true)∧h=[.main]:=by
 obtain⟨nt,hnt⟩:=Zp
 have kt30:=Zt9 30
 have kt15:=Zt9 15
 have hw:∀t,Zn t=0→ZH t:=fun t h=>XJ h
 have k1:=Zu6 (Z8 30) 1 (Za7 30) (hw _)
 have k2:=Zu1 (Z8 15) 0 (Za7 15) ZuW
 have k3:=ZsI (Z8 15) ZiI (Za7 15) (by decide) (hw _)
 have k4:=Zu3 (Z8 30) 0 (Za7 30)
 have k5:=ZsJ (Z8 15) ZlK 0 (Za7 15) (by decide) (hw _)
 have hte:Jo (Z8 30) 1=0:=by
  unfold Jo
  rw[if_neg (fun h=>h Zsw.2)]
  rfl
 rw[hte,if_pos rfl,if_pos rfl,Zos]at k1
 rw[ZlN]at k2
 rw[Zj4]at k3
 rw[Zot.1]at k4
 rw[Zqx]at k5
 have kh:=Zt8
 have ki:=ZuZ
 have ks:=Zu0 [⟨120,140⟩,⟨200,220⟩] (by decide)
 have kz:=c39 [0,1] [0,1] (by decide)
 have kp1:=ZsH 200 260
 have kp2:=ZsH 120 140
 have kp3:=ZsH 200 220
 generalize ZhH (Z8 30) 1=C at*
 generalize Z8 30=T30 at*
 generalize Z8 15=T15 at*
 generalize ZiI=H1 at*
 generalize ZlK=H2 at*
 unfold Ze ZX Qs at*
 simp only[Za hnt,Zb,Zx,Xc]at*
 refine SC.less (Qu Tryz.func17 (body:=Zj Tryz.f17) rfl (by decide+kernel) ?_)
 refine wS ?_
 refine ZoO (kt30) ?_
 refine wS ?_
 refine ZoO (k1) ?_
 refine wS ?_
 refine ZoO (kt15) ?_
 refine wS ?_
 refine cL1 [0] (k2) fun r h₂ hp=>?_
 (try simp only[Zd,Zc,Ze,Zb,Za hnt]at hp)
 obtain⟨rfl,rfl⟩:=hp
 refine wS ?_
 refine ZoO (kt15) ?_
 refine wS ?_
 refine ZoO (kh) ?_
 refine wS ?_
 refine ZoO (k3) ?_
 refine wS ?_
 refine ZoO (kt30) ?_
 refine wS ?_
 refine ZoO (k4) ?_
 refine wS ?_
 refine ZoO (kt15) ?_
 refine wS ?_
 refine ZoO (ki) ?_
 refine wS ?_
 refine ZoO (k5) ?_
 refine vS ?_
 refine Chk.mk (by simp only[nc,Q0,QZ,Xd,QY,Cn.p,beq_self_eq_true,cond_true,imp_self,and_true,true_and];(repeat' (first|apply And.intro|intro _))<;>first|rfl|trivial|exact Or.inl rfl|decide|decide+kernel|(simp;done)) ?_
 repeat (first
  |(with_reducible refine Br.isT rfl ?_;refine vS ?_)
  |(with_reducible refine Chk.mk (by simp only[nc,Q0,QZ,Xd,QY,Cn.p,beq_self_eq_true,cond_true,imp_self,and_true,true_and];(repeat' (first|apply And.intro|intro _))<;>first|rfl|trivial|exact Or.inl rfl|decide|decide+kernel|(simp;done)) ?_))
 refine ZoO (kp1) ?_
 refine vS ?_
 repeat (first
  |(with_reducible refine Br.isT rfl ?_;refine vS ?_)
  |(with_reducible refine Chk.mk (by simp only[nc,Q0,QZ,Xd,QY,Cn.p,beq_self_eq_true,cond_true,imp_self,and_true,true_and];(repeat' (first|apply And.intro|intro _))<;>first|rfl|trivial|exact Or.inl rfl|decide|decide+kernel|(simp;done)) ?_))
 refine ZoO (kp2) ?_
 refine vS ?_
 repeat (first
  |(with_reducible refine Br.isT rfl ?_;refine vS ?_)
  |(with_reducible refine Chk.mk (by simp only[nc,Q0,QZ,Xd,QY,Cn.p,beq_self_eq_true,cond_true,imp_self,and_true,true_and];(repeat' (first|apply And.intro|intro _))<;>first|rfl|trivial|exact Or.inl rfl|decide|decide+kernel|(simp;done)) ?_))
 refine ZoO (kp3) ?_
 refine vS ?_
 repeat (first
  |(with_reducible refine Br.isT rfl ?_;refine vS ?_)
  |(with_reducible refine Chk.mk (by simp only[nc,Q0,QZ,Xd,QY,Cn.p,beq_self_eq_true,cond_true,imp_self,and_true,true_and];(repeat' (first|apply And.intro|intro _))<;>first|rfl|trivial|exact Or.inl rfl|decide|decide+kernel|(simp;done)) ?_))
 refine Zby ks (by(refine To.of [] ?_;cbv;(try simp only[nc]);(repeat' (first|exact trivial|exact ZE.refl _|exact ZM.refl _|refine⟨?_,?_⟩|refine ZM.cells ?_|refine ZE.agg ?_|refine ZE.tup ?_));(all_goals (first|exact X3|skip)));all_goals exact lit_nt hnt Qs default _ _ rfl) (by first|rfl|(simp only[Zd,Zc,Ze,Zb,Za hnt];rfl)) fun r h₂ hp=>?_
 obtain⟨rfl,rfl⟩:=hp
 refine vS ?_
 repeat (first
  |(with_reducible refine Br.isT rfl ?_;refine vS ?_)
  |(with_reducible refine Chk.mk (by simp only[nc,Q0,QZ,Xd,QY,Cn.p,beq_self_eq_true,cond_true,imp_self,and_true,true_and];(repeat' (first|apply And.intro|intro _))<;>first|rfl|trivial|exact Or.inl rfl|decide|decide+kernel|(simp;done)) ?_))
 refine Zby (kz) (by(try simp only[Zd,Zc,Ze,Zb,Za hnt]);exact ZJ) (by first|rfl|(simp only[Zd,Zc,Ze,Zb,Za hnt];rfl)) fun r h₂ hp=>?_
 (try simp only[Zd,Zc,Ze,Zb,Za hnt]at hp)
 obtain⟨rfl,rfl⟩:=hp
 refine vS ?_
 repeat (first
  |(with_reducible refine Br.isT rfl ?_;refine vS ?_)
  |(with_reducible refine Chk.mk (by simp only[nc,Q0,QZ,Xd,QY,Cn.p,beq_self_eq_true,cond_true,imp_self,and_true,true_and];(repeat' (first|apply And.intro|intro _))<;>first|rfl|trivial|exact Or.inl rfl|decide|decide+kernel|(simp;done)) ?_))
 refine⟨.bool fun _=>true,[.main],?_,rfl,rfl⟩
 (refine To.of [] ?_;cbv;(try simp only[nc]);(repeat' (first|exact trivial|exact ZE.refl _|exact ZM.refl _|refine⟨?_,?_⟩|refine ZM.cells ?_|refine ZE.agg ?_|refine ZE.tup ?_));(all_goals (first|exact X3|skip)))
 all_goals exact .bool rfl
end Go.Proofs.YtjgpiclllehgmaaGreat.Vm
namespace Go.Proofs.YtjgpiclllehgmaaGreat.Vm
open Go Go.Proofs Sp
set_option maxRecDepth 100000
set_option maxHeartbeats 1600000
set_option maxHeartbeats 8000000
theorem Zau {t:Zf} (h:Zn t=0):Xe t:=by
 have hw:=XJ h
 obtain⟨h1,h2,h3,h4,h5,h6⟩:=Y4 h
 have hc:=ZbU h1
 have hr:=hw.calls.len
 have hl:(callsOf t).length=t.runs.length:=by unfold callsOf;rw[List.length_map]
 exact⟨⟨by have:=hc.zlen;omega,by have:=hc.olen;omega,by have:=hc.nlen;omega,fun z hz=>by have:=(ZbA (hc.zones z hz)).2.2.1;omega,⟨fun t ht=>by have:=(hc.old t ht).len;omega,fun t ht=>by have:=(hc.new t ht).len;omega⟩⟩,by omega,by omega,by omega,fun d hd=>by have:=(hw.d d hd).2.1;omega⟩
attribute [local irreducible] Dn
end Go.Proofs.YtjgpiclllehgmaaGreat.Vm
namespace Go.Proofs.YtjgpiclllehgmaaGreat.Sp
open Vm
end Go.Proofs.YtjgpiclllehgmaaGreat.Sp
namespace Go.Proofs.YtjgpiclllehgmaaGreat.Vm
attribute [local irreducible] Dn
open Go Go.Proofs Sp
set_option maxRecDepth 100000
set_option maxHeartbeats 4000000
set_option maxHeartbeats 1600000
set_option maxHeartbeats 4000000
end Go.Proofs.YtjgpiclllehgmaaGreat.Vm
namespace Go.Proofs.YtjgpiclllehgmaaGreat.Vm
open Go Go.Proofs Sp
set_option maxRecDepth 100000
set_option maxHeartbeats 8000000
attribute [local irreducible] Dn
theorem Zpb {t:Zf} (he:Zn t=0) {w n:Int} (hw:0≤w∧w<t.waits.length) (hn:0≤n∧n≤60):SC (fun _=>Tryz.prog) 43 [Ze t,.int .i64 fun _=>w,.int .i64 fun _=>n] [] fun v h=>v= .tup [Ze (Zt t w n),.int .i64 fun _=>0]∧h=[]:=by
 have k:=Zu2 t w n (Zau he)
 have e1:Qi t w=0:=by
  unfold Qi
  rw[if_pos he,Ye hw.1 (by omega),if_neg Bool.false_ne_true]
 have e:Zed t w n=(Zt t w n,0):=by
  unfold Zed
  rw[if_neg (fun h=>h e1),Ye hn.1 hn.2,if_neg Bool.false_ne_true]
 rw[e]at k
 exact k
end Go.Proofs.YtjgpiclllehgmaaGreat.Vm
namespace Go.Proofs.YtjgpiclllehgmaaGreat.Sp
open Vm
structure Zk6 (t:Zf):Prop where
 runs:1≤t.runs.length∧t.runs.length≤4
 call:∀r:Nat,r<t.runs.length→QD t.book (t.runs.getD r default)=((callsOf t).getD r [],true)
 len:∀r:Nat,r<t.runs.length→2≤((callsOf t).getD r []).length∧((callsOf t).getD r []).length≤4
 st:∀r:Nat,r<t.runs.length→∀k:Nat,k<((callsOf t).getD r []).length→0≤(((callsOf t).getD r []).getD k default).station∧(((callsOf t).getD r []).getD k default).station≤9
 step:∀r:Nat,r<t.runs.length→∀a b:Nat,a<b→b<((callsOf t).getD r []).length→Yc (callsOf t) t.runs.length ⟨(r:Int),(((callsOf t).getD r []).getD a default).station,(((callsOf t).getD r []).getD b default).station⟩=0
theorem Zlm {t:Zf} (he:Zn t=0) {k:Nat} (hk:k<t.runs.length):Q8 (J3 t.book (t.runs.getD k default).number (t.runs.getD k default).day).1=0:=by
 have h:=(Y4 he).2.1
 unfold QP at h
 split at h
 ·cases h
 split at h
 ·cases h
 have h2:=Qd h k (Nat.zero_le _) (by omega)
 unfold JT at h2
 split at h2
 ·rename_i g;exact absurd h2 g
 split at h2
 ·cases h2
 ·rename_i g;exact Decidable.of_not_not g
theorem ZnS {t:Zf} (hm:Zjf t):Zk6 t:=by
 have he:=hm.begin
 have hc:=(XJ he).calls
 have hl:=ZlV t
 have hrow:∀r:Nat,r<t.runs.length→(callsOf t).getD r []∈callsOf t:=fun r hr=>ZjP (by omega)
 have h1:1≤t.runs.length:=by
  have h:=(Y4 he).2.1
  unfold QP at h
  split at h
  ·cases h
  ·omega
 have h4:=hc.len
 refine⟨by omega,fun r hr=>?_,fun r hr=>hc.row _ (hrow r hr),fun r hr k hk=>?_,fun r hr a b hab hb=>?_⟩
 ·have e:=Zlm he hr
  have e2:=Zgl he hr
  unfold QD
  rw[if_neg (fun h=>h e),decide_eq_true e2,ZnQ hr]
 ·have h2:=Zsl (Zgl he hr)
  rw[←ZnQ hr]at h2
  obtain⟨j,_,hj⟩:=hm.from_ r hr
  obtain⟨z,old,n,hb,_,hd⟩:=hm.book
  have ht:QT t.book (t.runs.getD r default).day=old:=by rw[hj,hb];rfl
  rw[ht]at h2
  have hp:(place old (t.runs.getD r default).number).toNat<old.length:=by
   have h3:=h2.2
   have h5:=(XC (q:=fun x:Train=>decide (x.number=(t.runs.getD r default).number)) (l:=old) (i:=0) (Int.le_refl _)).1
   unfold place at*
   omega
  obtain⟨st,s1,s2,hD⟩:=hd.all _ hp
  generalize (old.getD (place old (t.runs.getD r default).number).toNat default)=T at*
  have e:((callsOf t).getD r []).map (·.station)=T.stops.map (·.station):=by rw[h2.1];exact ZcR _ _ _ _ _ _
  generalize (callsOf t).getD r []=R at*
  have hlen:R.length=T.stops.length:=by simpa using congrArg List.length e
  have hk2:k<T.stops.length:=by omega
  have e3:(R.getD k default).station=(T.stops.getD k default).station:=by
   have:=congrArg (fun l=>l[k]?) e
   simp only[List.getElem?_map,List.getElem?_eq_getElem hk,List.getElem?_eq_getElem hk2,Option.map_some,Option.some.injEq]at this
   rw[List.getD_eq_getElem?_getD,List.getD_eq_getElem?_getD,List.getElem?_eq_getElem hk,List.getElem?_eq_getElem hk2]
   exact this
  rw[e3]
  have:=(hD.made.stop _ (ZjP (d:=default) hk2)).1
  omega
 ·have hp:=(hm.row _ (hrow r hr)).st
  have ha:=Zer hp (f:=0) (i:=a) (Nat.zero_le _) (by omega)
  have hb2:=Zer hp (f:=a+1) (i:=b) (by omega) hb
  unfold Yc
  dsimp only
  rw[Ye (by omega) (by omega),if_neg Bool.false_ne_true]
  rw[Int.toNat_natCast,show(0:Int)=((0:Nat):Int)from rfl,ha,show((a:Nat):Int)+1=((a+1:Nat):Int) by omega,hb2,if_neg (by omega)]
end Go.Proofs.YtjgpiclllehgmaaGreat.Sp
namespace Go.Proofs.YtjgpiclllehgmaaGreat.Vm
attribute [local irreducible] Dn
open Go Go.Proofs Sp
set_option maxRecDepth 100000
set_option maxHeartbeats 8000000
theorem cL3 (l:List Nat) {f:FuncId} {xs ys:List AV} {h hc:List Zi} {Post Q:AV→List Zi→Prop} (H:SC (fun _=>Tryz.prog) f ys hc Q) (hq:∀ r h₂,Q r h₂→Post (ren (YJ l h.length) 5 r) (back l h h₂)) (hn:l.Nodup:=by decide) (hl:∀ i∈l,i<h.length:=by simp) (hx:xs.map (Qv false l h 5)=ys:=by first|rfl|(simp only[Zd,Zc,Ze,Zb,Zg,Za hnt];rfl)) (hh:sel false l h=hc:=by first|rfl|(simp only[Zd,Zc,Ze,Zb,Zg,Za hnt];rfl)):SC (fun _=>Tryz.prog) f xs h Post:=ZF l H hn hl hx hh hq
theorem Zu5 (s:Int) (t:Zf) (most:Int) (hf:Xe t) (hr:Zk6 t) (hmost:0≤most∧most≤6):SC (fun _=>Tryz.prog) 31 [.ptr 0 0,Ze t,.int .i64 fun _=>most] [Xl s] fun v h=>∃(x:Zs) (s':Int),Q6 (callsOf t) t.runs.length x=0∧x.steps.length≤6∧v=ZX x∧h=[Xl s']:=by
 obtain⟨nt,hnt⟩:=Zp
 have hrl:=hr.runs
 have k375:=fun(r:Int)=>ZqM t.book (nt Sp.Qp default t.runs r) hf.book
 have hcall:∀r:Int,0≤r→r<t.runs.length→QD t.book (nt Sp.Qp default t.runs r)=(nt (List Sp.Call) [] (callsOf t) r,true):=fun r h0 h1=>by
  rw[hnt,hnt]
  exact hr.call r.toNat (by omega)
 have hlen:∀r:Int,0≤r→r<t.runs.length→2≤(nt (List Sp.Call) [] (callsOf t) r).length∧(nt (List Sp.Call) [] (callsOf t) r).length≤4:=fun r h0 h1=>by
  rw[hnt]
  exact hr.len r.toNat (by omega)
 have hst:∀r:Int,0≤r→r<t.runs.length→∀k:Int,0≤k→k<(nt (List Sp.Call) [] (callsOf t) r).length→0≤(nt Sp.Call default (nt (List Sp.Call) [] (callsOf t) r) k).station∧(nt Sp.Call default (nt (List Sp.Call) [] (callsOf t) r) k).station≤9:=fun r h0 h1 k h2 h3=>by
  simp only[hnt]at h3⊢
  exact hr.st r.toNat (by omega) k.toNat (by omega)
 have hstep:∀r:Int,0≤r→r<t.runs.length→∀a b:Int,0≤a→a<b→b<(nt (List Sp.Call) [] (callsOf t) r).length→Yc (callsOf t) t.runs.length ⟨r,(nt Sp.Call default (nt (List Sp.Call) [] (callsOf t) r) a).station,(nt Sp.Call default (nt (List Sp.Call) [] (callsOf t) r) b).station⟩=0:=fun r h0 h1 a b h2 h3 h4=>by
  simp only[hnt]at h4⊢
  have h:=hr.step r.toNat (by omega) a.toNat b.toNat (by omega) (by omega)
  rwa [show((r.toNat:Nat):Int)=r by omega]at h
 have hErr:∀q:Zs,(0≤q.from_∧q.from_≤9)→(0≤q.goal∧q.goal≤9)→(0≤q.since∧q.since≤43200)→q.steps.length≤6→(∀z∈q.steps,Yc (callsOf t) t.runs.length z=0)→Q6 (callsOf t) t.runs.length q=0:=fun q h1 h2 h3 h4 h5=>by
  unfold Q6
  rw[Ye h1.1 h1.2,Ye h2.1 h2.2,Ye h3.1 h3.2,if_neg (by decide),if_neg (by omega)]
  exact J1 fun j _ hj=>h5 _ (ZjP (by omega))
 generalize Q6 (callsOf t) t.runs.length=TE at*
 generalize Yc (callsOf t) t.runs.length=SE at*
 generalize callsOf t=c at*
 unfold Ze Zc ZX at*
 simp only[Za hnt]at*
 refine SC.less (Qu Tryz.func31 (body:=Zj Tryz.f31) rfl (by decide+kernel) ?_)
 refine wS ?_
 refine cL3 [0] (c17 s 200 (by omega)) fun r h₂ hp=>?_
 (try simp only[Zd,Zc,Ze,Zb,Zg,Za hnt]at hp)
 obtain⟨q,s1,hq,rfl,rfl⟩:=hp
 refine wS ?_
 refine cL3 [0] (ZfK s1 [0,q] (by simp)) fun r h₂ hp=>?_
 (try simp only[Zd,Zc,Ze,Zb,Zg,Za hnt]at hp)
 obtain⟨sn,s2,hsn,rfl,rfl⟩:=hp
 have hsn:0≤sn∧sn≤200:=by simp at hsn;omega
 refine wS ?_
 refine cL3 [0] (c17 s2 most (by omega)) fun r h₂ hp=>?_
 (try simp only[Zd,Zc,Ze,Zb,Zg,Za hnt]at hp)
 obtain⟨m,s3,hm,rfl,rfl⟩:=hp
 obtain⟨m,rfl⟩:∃k:Nat,m=k:=⟨m.toNat,by omega⟩
 have hm6:m≤6:=by omega
 refine wS ?_
 refine ZT false false [] [0,4,6,7,8,9,10] [.tok 3 fun _=>0] (fun(⟨i,at_,s,fr,go,st⟩:Nat×Int×Int×Int×Int×List Sp.Step)=>[(8,.int .i64 fun _=>at_),(9,.bool fun _=>decide (st.length=0)),(10,.int .i64 fun _=>(i:Int))])
  (fun⟨i,at_,s,fr,go,st⟩=>[(0,Xl s),(3,.cells [.int .i64 fun _=>fr,.int .i64 fun _=>sn,.int .i64 fun _=>go,.isl 3 (fun _=>(st.length:Int)) (fun e=>Xc (nt Sp.Step default st (e ()))) (.own 4)]),(4,.tok 3 fun _=>(st.length:Int))])
  (fun⟨i,at_,s,fr,go,st⟩=>st.length+i=m∧(0≤fr∧fr≤9)∧(0≤go∧go≤9)∧∀z∈st,SE z=0) (fun q=>q.1+0) (m,-1,s3,0,0,[]) ⟨by simp,by omega,by omega,by simp⟩ ?_ ?_
 ·(refine To.of [(3,false)] ?_;cbv;(try simp only[nc]);(repeat' (first|exact trivial|exact ZE.refl _|exact ZM.refl _|refine⟨?_,?_⟩|refine ZM.cells ?_|refine ZE.agg ?_|refine ZE.tup ?_));(all_goals (first|exact X3|skip)))
 rintro⟨i,at_,s4,fr,go,st⟩ hinv
 have hi:st.length+i=m:=hinv.1
 have hfr:=hinv.2.1
 have hgo:=hinv.2.2.1
 have hse:=hinv.2.2.2
 clear hinv
 refine wS ?_
 refine⟨fun hb=>?_,fun hb=>?_⟩
 ·simp only[decide_eq_true_eq]at hb
  refine wS ?_
  refine cL3 [0] (c17 s4 ((t.runs.length:Int)-1) (by omega)) fun r h₂ hp=>?_
  (try simp only[Zd,Zc,Ze,Zb,Zg,Za hnt]at hp)
  obtain⟨r,s5,hrr,rfl,rfl⟩:=hp
  have hr0:0≤r∧r<t.runs.length:=by omega
  have k375:=k375 r
  rw[hcall r hr0.1 hr0.2]at k375
  have hlen:=hlen r hr0.1 hr0.2
  have hst:=hst r hr0.1 hr0.2
  have hstep:=hstep r hr0.1 hr0.2
  generalize nt (List Sp.Call) [] c r=C at*
  refine wS ?_
  refine ZV (k375) (by first|rfl|(simp only[Zd,Zc,Ze,Zb,Zg,Za hnt];rfl)) fun r h₂ hp=>?_
  (try simp only[Zd,Zc,Ze,Zb,Zg,Za hnt]at hp)
  obtain⟨rfl,rfl⟩:=hp
  refine wS ?_
  refine cL3 [0] (c17 s5 ((C.length:Int)-2) (by omega)) fun r h₂ hp=>?_
  (try simp only[Zd,Zc,Ze,Zb,Zg,Za hnt]at hp)
  obtain⟨a,s6,ha,rfl,rfl⟩:=hp
  refine wS ?_
  refine Zah fun Q hQ=>?_
  refine ZT false false [] [0,4,6,7,8,9,10,11,12,14,15] [] (fun(⟨k,a,s⟩:Nat×Int×Int)=>[(14,.int .i64 fun _=>a),(15,.int .i64 fun _=>(k:Int))]) (fun⟨k,a,s⟩=>[(0,Xl s)]) (fun⟨k,a,s⟩=>k+1≤C.length∧0≤a∧a+2≤C.length) (fun q=>C.length-q.1+0) (0,a,s6) ⟨by omega,by omega,by omega⟩ ?_ ?_
  ·exact ZJ
  rintro⟨k,a,s7⟩ hinv
  have hk:k+1≤C.length:=hinv.1
  have ha0:=hinv.2.1
  have ha2:=hinv.2.2
  clear hinv
  refine wS ?_
  refine⟨fun hb2=>?_,fun hb2=>?_⟩
  ·simp only[decide_eq_true_eq]at hb2
   refine wS ?_
   refine⟨fun hb3=>?_,fun hb3=>?_⟩
   ·refine wS ?_
    refine cL3 [0] (c37 s7 4 5 (by omega)) fun r h₂ hp=>?_
    (try simp only[Zd,Zc,Ze,Zb,Zg,Za hnt]at hp)
    obtain⟨bb,s8,rfl,rfl⟩:=hp
    refine wS ?_
    refine⟨fun hb4=>?_,fun hb4=>?_⟩
    ·refine wS ?_
     refine⟨(k+1,(k:Int),s8),⟨by omega,by show(0:Int)≤(k:Int);omega,by show(k:Int)+2≤C.length;omega⟩,by show C.length-(k+1)+0<C.length-k+0;omega,?_⟩
     exact ZJ
    ·refine wS ?_
     refine⟨(k+1,a,s8),⟨by omega,by omega,by omega⟩,by show C.length-(k+1)+0<C.length-k+0;omega,?_⟩
     exact ZJ
   ·refine wS ?_
    refine Br.isF (by simp only[hb3]) ?_
    refine wS ?_
    refine⟨(k+1,a,s7),⟨by omega,by omega,by omega⟩,by show C.length-(k+1)+0<C.length-k+0;omega,?_⟩
    exact ZJ
  ·simp only[decide_eq_false_iff_not]at hb2
   obtain⟨j,rfl⟩:∃j,i=j+1:=⟨i-1,by omega⟩
   refine wS ?_
   refine hQ _ _ _ ?_
   refine wS ?_
   refine⟨?_,?_⟩
   all_goals
    try refine wS ?_
    refine cL3 [0] (c22 s7 (a+1) ((C.length:Int)-1) (by omega) (by omega)) fun r h₂ hp=>?_
    (try simp only[Zd,Zc,Ze,Zb,Zg,Za hnt]at hp)
    obtain⟨b,s9,hbb,rfl,rfl⟩:=hp
    have hfs:=hst a (by omega) (by omega)
    have hts:=hst b (by omega) (by omega)
    have hnew:=hstep a b (by omega) (by omega) (by omega)
    have hse2:∀z∈st++[⟨r,(nt Sp.Call default C a).station,(nt Sp.Call default C b).station⟩],SE z=0:=fun z hz=>by
     rcases List.mem_append.1 hz with h|h
     ·exact hse z h
     ·rw[List.mem_singleton]at h;subst h;exact hnew
    refine wS ?_
    refine⟨fun hf=>?_,fun hf=>?_⟩
    ·refine wS ?_
     refine cL3 [0] (ZfK s9 [(nt Sp.Call default C b).station,(nt Sp.Call default C b).station,(nt Sp.Call default C a).station] (by simp)) fun r h₂ hp=>?_
     (try simp only[Zd,Zc,Ze,Zb,Zg,Za hnt]at hp)
     obtain⟨y,s10,hy,rfl,rfl⟩:=hp
     refine wS ?_
     refine⟨(j,y,s10,(nt Sp.Call default C a).station,(nt Sp.Call default C b).station,st++[⟨r,(nt Sp.Call default C a).station,(nt Sp.Call default C b).station⟩]),⟨by simp;omega,hfs,hts,hse2⟩,by show j+0<j+1+0;omega,?_⟩
     (refine To.of [] ?_;cbv;(try simp only[nc]);(repeat' (first|exact trivial|exact ZE.refl _|exact ZM.refl _|refine⟨?_,?_⟩|refine ZM.cells ?_|refine ZE.agg ?_|refine ZE.tup ?_));(all_goals (first|exact X3|skip)))
     all_goals first|exact .bool (by simp)|exact .snoc hnt rfl (by simp) rfl
    ·refine wS ?_
     refine cL3 [0] (ZfK s9 [(nt Sp.Call default C b).station,(nt Sp.Call default C b).station,(nt Sp.Call default C a).station] (by simp)) fun r h₂ hp=>?_
     (try simp only[Zd,Zc,Ze,Zb,Zg,Za hnt]at hp)
     obtain⟨y,s10,hy,rfl,rfl⟩:=hp
     refine wS ?_
     refine⟨(j,y,s10,fr,(nt Sp.Call default C b).station,st++[⟨r,(nt Sp.Call default C a).station,(nt Sp.Call default C b).station⟩]),⟨by simp;omega,hfr,hts,hse2⟩,by show j+0<j+1+0;omega,?_⟩
     (refine To.of [] ?_;cbv;(try simp only[nc]);(repeat' (first|exact trivial|exact ZE.refl _|exact ZM.refl _|refine⟨?_,?_⟩|refine ZM.cells ?_|refine ZE.agg ?_|refine ZE.tup ?_));(all_goals (first|exact X3|skip)))
     all_goals first|exact .bool (by rw[show decide (st.length=0)=false from hf];simp)|exact .snoc hnt rfl (by simp) rfl
 ·simp only[decide_eq_false_iff_not]at hb
  refine wS ?_
  refine⟨fun hf=>?_,fun hf=>?_⟩
  ·refine wS ?_
   refine cL3 [0] (c17 s4 3 (by omega)) fun r h₂ hp=>?_
   (try simp only[Zd,Zc,Ze,Zb,Zg,Za hnt]at hp)
   obtain⟨x1,s5,hx1,rfl,rfl⟩:=hp
   refine wS ?_
   refine cL3 [0] (c17 s5 3 (by omega)) fun r h₂ hp=>?_
   (try simp only[Zd,Zc,Ze,Zb,Zg,Za hnt]at hp)
   obtain⟨x2,s6,hx2,rfl,rfl⟩:=hp
   refine wS ?_
   refine⟨_,_,?_,⟨x1,sn,x2,st⟩,s6,hErr _ (by dsimp only;omega) (by dsimp only;omega) (by dsimp only;omega) (by dsimp only;omega) hse,by dsimp only;omega,rfl,rfl⟩
   exact ZJ
  ·refine wS ?_
   refine⟨_,_,?_,⟨fr,sn,go,st⟩,s4,hErr _ hfr hgo (by dsimp only;omega) (by dsimp only;omega) hse,by dsimp only;omega,rfl,rfl⟩
   exact ZJ
end Go.Proofs.YtjgpiclllehgmaaGreat.Vm
namespace Go.Proofs.YtjgpiclllehgmaaGreat.Sp
open Vm
theorem ZgN {t:Zf} {a:Zs} {w:Int}:∀n:Nat,
  ((Xs t a w n).2.2=true→∃k:Nat,k<n∧Xs t a w n=((k:Int),(ZP (Zt t w k) a).to_,true)∧ZU (Zt t w k) a=true∧∀m:Nat,m<n→ZU (Zt t w m) a=true→(ZP (Zt t w k) a).to_≤(ZP (Zt t w m) a).to_∧((ZP (Zt t w m) a).to_=(ZP (Zt t w k) a).to_→k≤m))∧
  ((Xs t a w n).2.2=false→∀m:Nat,m<n→ZU (Zt t w m) a=false)
 |0=>⟨fun h=>(by cases h),fun _ m hm=>by omega⟩
 |n+1=>by
  obtain⟨h1,h2⟩:=ZgN (t:=t) (a:=a) (w:=w) n
  unfold Xs
  by_cases hc:(ZU (Zt t w n) a&&(!(Xs t a w n).2.2||decide ((ZP (Zt t w n) a).to_<(Xs t a w n).2.1)))=true
  ·rw[if_pos hc]
   simp only[Bool.and_eq_true,Bool.or_eq_true,Bool.not_eq_true',decide_eq_true_eq]at hc
   refine⟨fun _=>⟨n,by omega,rfl,hc.1,fun m hm hA=>?_⟩,fun h=>(by cases h)⟩
   by_cases hmn:m=n
   ·subst hmn
    exact⟨Int.le_refl _,fun _=>Nat.le_refl _⟩
   ·rcases hc.2 with hb|hb
    ·have:=h2 hb m (by omega)
     rw[this]at hA;cases hA
    ·cases hs:(Xs t a w n).2.2 with
     |false=>have:=h2 hs m (by omega);rw[this]at hA;cases hA
     |true=>
      obtain⟨k,g1,g2,g3,g4⟩:=h1 hs
      rw[g2]at hb
      have:=(g4 m (by omega) hA).1
      have hb:(ZP (Zt t w n) a).to_<(ZP (Zt t w k) a).to_:=hb
      exact⟨by omega,fun e=>by omega⟩
  ·rw[if_neg hc]
   simp only[Bool.and_eq_true,Bool.or_eq_true,Bool.not_eq_true',decide_eq_true_eq]at hc
   refine⟨fun hs=>?_,fun hs m hm=>?_⟩
   ·obtain⟨k,g1,g2,g3,g4⟩:=h1 hs
    refine⟨k,by omega,g2,g3,fun m hm hA=>?_⟩
    by_cases hmn:m=n
    ·subst hmn
     have:¬(ZP (Zt t w m) a).to_<(Xs t a w m).2.1:=fun h=>hc ⟨hA,.inr h⟩
     rw[g2]at this
     have this:¬(ZP (Zt t w m) a).to_<(ZP (Zt t w k) a).to_:=this
     exact⟨by omega,fun _=>by omega⟩
    ·exact g4 m (by omega) hA
   ·by_cases hmn:m=n
    ·subst hmn
     cases hA:ZU (Zt t w m) a with
     |false=>rfl
     |true=>exact absurd ⟨hA,.inl hs⟩ hc
    ·exact h2 hs m (by omega)
end Go.Proofs.YtjgpiclllehgmaaGreat.Sp
namespace Go.Proofs.YtjgpiclllehgmaaGreat.Vm
open Go Go.Proofs Sp
structure Zo5 (t:Zf) (x:Zs) (w:Int) (Y0:Zcu) (E0:Int) (Y:Nat→Zcu) (H:Nat→Int) (bm bl fe:Int):Prop where
 k0:SC (fun _=>Tryz.prog) 50 [Ze t,ZX x] [] fun v h=>v= .tup [.agg (Qs Y0),.int .i64 fun _=>E0]∧h=[]
 k1:∀m:Nat,m≤60→SC (fun _=>Tryz.prog) 50 [Ze (Zt t w m),ZX x] [] fun v h=>v= .tup [.agg (Qs (Y m)),.int .i64 fun _=>H m]∧h=[]
 kB:SC (fun _=>Tryz.prog) 35 [Ze t,ZX x,.int .i64 fun _=>w] [] fun v h=>v= .tup [.int .i64 fun _=>bm,.int .i64 fun _=>bl,.int .i64 fun _=>fe]∧h=[]
 kG:∀m:Nat,m≤60→∃ga gc gj:Int,SC (fun _=>Tryz.prog) 33 [Ze t,ZX x,.int .i64 fun _=>w,.int .i64 fun _=>(m:Int)] [] (fun v h=>v= .tup [.int .i64 fun _=>ga,.int .i64 fun _=>gc,.int .i64 fun _=>gj]∧h=[])∧
  (E0=0→H m=0→ga=Y0.to_∧gc=(Y m).to_∧gj=0)∧(¬(E0=0∧H m=0)→gj=11)
 e0:E0=0∨E0=11
 h:∀m,H m=0∨H m=11
 fe:(fe=0∧∃k:Nat,k≤60∧bm=k∧H k=0∧bl=(Y k).to_∧∀m:Nat,m≤60→H m=0→bl≤(Y m).to_∧((Y m).to_=bl→k≤m))∨(fe=11∧∀m:Nat,m≤60→H m=11)
theorem Zqv {t:Zf} (he:Zn t=0) {x:Zs} (hx:Q6 (callsOf t) t.runs.length x=0) (hl:x.steps.length≤6) {w:Int} (hw:0≤w∧w<t.waits.length):∃Y0 E0 Y H bm bl fe,Zo5 t x w Y0 E0 Y H bm bl fe:=by
 have ha:Q4 t x=0:=by unfold Q4;rw[if_neg (fun h=>h he)];exact hx
 have haw:∀m:Nat,m≤60→Q4 (Zt t w m) x=0:=fun m hm=>by unfold Q4;rw[if_neg (fun h=>h (ZeH he (w:=w) (n:=(m:Int)) ⟨by omega,by omega⟩))];exact hx
 have hc:Qk t x w=0:=by unfold Qk;rw[if_pos ha,Ye hw.1 (by omega),if_neg Bool.false_ne_true]
 have k0:=ZsI t x (Zau he) (by omega) (fun h=>XJ h)
 have k1:=fun(m:Nat) (hm:m≤60)=>ZsI (Zt t w m) x (Zau (ZeH he (w:=w) (n:=(m:Int)) ⟨by omega,by omega⟩)) (by omega) (fun h=>XJ h)
 have kB:=ZsJ t x w (Zau he) (by omega) (fun h=>XJ h)
 have kG:=fun(m:Nat)=>Zu4 t x w (m:Int) (Zau he) (by omega) (fun h=>XJ h)
 have hA:∀u,Q4 u x=0→YX u x=if ZU u x=true then(ZP u x,0)else(⟨0,0⟩,11):=fun u h=>by
  unfold YX
  rw[if_neg (fun h'=>h' h)]
 have hG:∀m:Nat,m≤60→Zcg t x w m=if ZU t x=true∧ZU (Zt t w m) x=true then((ZP t x).to_,(ZP (Zt t w m) x).to_,0)else(0,0,11):=fun m hm=>by
  unfold Zcg
  rw[if_neg (fun h=>h hc),Ye (by omega) (by omega),if_neg Bool.false_ne_true]
 have hB:ZdK t x w=if(Xs t x w 61).2.2 then((Xs t x w 61).1,(Xs t x w 61).2.1,0)else(0,0,11):=by
  unfold ZdK
  rw[if_neg (fun h=>h hc)]
 obtain⟨b1,b2⟩:=ZgN (t:=t) (a:=x) (w:=w) 61
 rw[hA t ha]at k0
 refine⟨_,_,fun m=>if ZU (Zt t w m) x=true then ZP (Zt t w m) x else⟨0,0⟩,fun m=>if ZU (Zt t w m) x=true then 0 else 11,_,_,_,k0,fun m hm=>?_,kB,fun m hm=>?_,?_,fun m=>?_,?_⟩
 ·have k:=k1 m hm
  rw[hA _ (haw m hm)]at k
  by_cases h:ZU (Zt t w m) x=true
  ·rw[if_pos h]at k
   simp only[if_pos h]
   exact k
  ·rw[if_neg h]at k
   simp only[if_neg h]
   exact k
 ·refine⟨_,_,_,kG m,fun h1 h2=>?_,fun h1=>?_⟩
  ·have c1:ZU t x=true:=Decidable.byContradiction fun h=>by rw[if_neg h]at h1;cases h1
   have c2:ZU (Zt t w m) x=true:=Decidable.byContradiction fun h=>by rw[if_neg h]at h2;cases h2
   rw[hG m hm,if_pos ⟨c1,c2⟩,if_pos c1]
   simp only[if_pos c2]
   exact⟨trivial,trivial,trivial⟩
  ·rw[hG m hm,if_neg fun h=>h1 ⟨by rw[if_pos h.1],by simp only[if_pos h.2]⟩]
 ·split
  ·exact .inl rfl
  ·exact .inr rfl
 ·split
  ·exact .inl rfl
  ·exact .inr rfl
 ·rw[hB]
  cases hs:(Xs t x w 61).2.2 with
  |true=>
   obtain⟨k,g1,g2,g3,g4⟩:=b1 hs
   rw[if_pos rfl,g2]
   refine .inl ⟨rfl,k,by omega,rfl,by simp only[if_pos g3],by simp only[if_pos g3],fun m hm hH=>?_⟩
   have c2:ZU (Zt t w m) x=true:=Decidable.byContradiction fun h=>by simp only[if_neg h]at hH;cases hH
   simp only[if_pos c2]
   exact g4 m (by omega) c2
  |false=>
   rw[if_neg Bool.false_ne_true]
   refine .inr ⟨rfl,fun m hm=>?_⟩
   have:=b2 hs m (by omega)
   simp only[this,if_neg Bool.false_ne_true]
attribute [local irreducible] Dn
set_option maxRecDepth 100000
set_option maxHeartbeats 8000000
theorem ZlY {f:FuncId} {xs ys:List AV} {h:List Zi} {Post Q:AV→List Zi→Prop} {B:Prop} (H:SC (fun _=>Tryz.prog) f ys [] Q) (k:B) (t:SC (fun _=>Tryz.prog) f ys [] Q→HdW B→SC (fun _=>Tryz.prog) f xs h Post:=by intro hH hW;refine ZV hH (by first|rfl|(simp only[Zd,Zc,Ze,ZX,Zb,Qz,Zg,Qs,Za hnt];rfl)) fun r h₂ hp=>?_;(try simp only[Zd,Zc,Ze,ZX,Zb,Qz,Zg,Qs,Za hnt]at hp);obtain⟨rfl,rfl⟩:=hp;exact hW.out):SC (fun _=>Tryz.prog) f xs h Post:=t H ⟨k⟩
theorem Zop {t:Zf} {x:Zs} {w:Int} {Y0:Zcu} {E0:Int} {Y:Nat→Zcu} {H:Nat→Int} {bm bl fe:Int} (h:Zo5 t x w Y0 E0 Y H bm bl fe):∃F:Nat→Bool,F 0=false∧(∀m:Nat,m≤60→(bif F m then true else bif (bif H m==0 then fe==0 else false)then((m:Int)==bm)else false)=F (m+1))∧
  ((fe==0)==F 61)=true∧(bif (fe==0)then true else(fe==11))=true:=by
 rcases h.fe with⟨rfl,k,h1,rfl,h2,_,_⟩|⟨rfl,h1⟩
 ·refine⟨fun m=>decide (k<m),decide_eq_false (by omega),fun m hm=>?_,?_,rfl⟩
  ·by_cases hk:k<m
   ·simp only[decide_eq_true hk,decide_eq_true (show k<m+1 by omega),cond_true]
   ·by_cases hk2:m=k
    ·subst hk2
     simp only[decide_eq_false hk,decide_eq_true (show m<m+1 by omega),h2]
     simp
    ·simp only[decide_eq_false hk,decide_eq_false (show¬k<m+1 by omega),cond_false]
     have:((m:Int)==(k:Int))=false:=beq_eq_false_iff_ne.2 (by omega)
     rw[this]
     cases (bif H m==0 then(0:Int)==0 else false)<;>rfl
  ·show(((0:Int)==0)==decide (k<61))=true
   rw[decide_eq_true (by omega)];rfl
 ·refine⟨fun _=>false,rfl,fun m hm=>?_,rfl,rfl⟩
  rw[h1 m hm]
  rfl
theorem cL4 (l:List Nat) {f:FuncId} {xs ys:List AV} {h hc:List Zi} {Post Q:AV→List Zi→Prop} (H:SC (fun _=>Tryz.prog) f ys hc Q) (hq:∀ r h₂,Q r h₂→Post (ren (YJ l h.length) 5 r) (back l h h₂)) (hn:l.Nodup:=by decide) (hl:∀ i∈l,i<h.length:=by simp) (hx:xs.map (Qv false l h 5)=ys:=by first|rfl|(simp only[Zd,Zc,Ze,ZX,Zb,Qz,Zg,Qs,Za hnt];rfl)) (hh:sel false l h=hc:=by first|rfl|(simp only[Zd,Zc,Ze,ZX,Zb,Qz,Zg,Qs,Za hnt];rfl)):SC (fun _=>Tryz.prog) f xs h Post:=ZF l H hn hl hx hh hq
theorem Zu8 (l:List Int) (hl:(l.length:Int)≤9223372036854775807):SC (fun _=>Tryz.prog) 10 [lst 1 XN 0 l] [.main] fun r _=>r= .bool fun _=>true:=by
 obtain⟨nt,hnt⟩:=Zp
 refine Qu Tryz.func10 (body:=Zj Tryz.f10) rfl (by decide+kernel) ?_
 refine wS ?_
 refine ZV (c14 l hl) (by first|rfl|(simp only[Zd,Zc,Ze,ZX,Zb,Qz,Zg,Qs,Za hnt];rfl)) fun r h₂ hp=>?_
 (try simp only[Zd,Zc,Ze,ZX,Zb,Qz,Zg,Qs,Za hnt]at hp)
 obtain⟨s,rfl,rfl⟩:=hp
 refine wS ?_
 refine cL4 [1] (Zu7 s 3 2 2 (by omega) (by omega) (by omega)) fun r h₂ hp=>?_
 (try simp only[Zd,Zc,Ze,ZX,Zb,Qz,Zg,Qs,Za hnt]at hp)
 obtain⟨t,s',ht,rfl,rfl⟩:=hp
 have hm:=ht.1
 have he:=hm.begin
 have hw2:=ht.2.2.1
 have hg:=fun x (h1:Q6 (callsOf t) t.runs.length x=0) (h2:x.steps.length≤6) (w:Int) (hw:0≤w∧w<t.waits.length)=>Zqv he h1 h2 hw
 have kW:=fun(i:Int) (m:Nat) (hi:0≤i∧i<t.waits.length) (hm:m≤60)=>Zpb he (w:=i) (n:=(m:Int)) hi ⟨by omega,by omega⟩
 have kB0:∀x:Zs,Q6 (callsOf t) t.runs.length x=0→x.steps.length≤6→t.waits.length=0→SC (fun _=>Tryz.prog) 35 [Ze t,ZX x,.int .i64 fun _=>0] [] fun v h=>v= .tup [.int .i64 fun _=>0,.int .i64 fun _=>0,.int .i64 fun _=>3]∧h=[]:=fun x h1 h2 h3=>by
  have k:=ZsJ t x 0 (Zau he) (by omega) (fun h=>XJ h)
  have e:Qk t x 0=3:=by
   have ha:Q4 t x=0:=by unfold Q4;rw[if_neg (fun h=>h he)];exact h1
   unfold Qk
   rw[if_pos ha,h3]
   rfl
  have e2:ZdK t x 0=(0,0,3):=by
   unfold ZdK
   rw[e]
   rfl
  rw[e2]at k
  exact k
 have k331:=fun s=>Zu5 s t 4 (Zau he) (ZnS hm) ⟨by omega,by omega⟩
 generalize hWT:Zt t=WT at*
 refine wS ?_
 refine cL4 [1] (k331 s') fun r h₂ hp=>?_
 (try simp only[Zd,Zc,Ze,ZX,Zb,Qz,Zg,Qs,Za hnt]at hp)
 obtain⟨x,s2,hx1,hx2,rfl,rfl⟩:=hp
 have hg:=hg x hx1 hx2
 have kB0:=kB0 x hx1 hx2
 clear k331
 unfold ZX at*
 refine wS ?_
 refine⟨fun hb=>?_,fun hb=>?_⟩
 ·have hb0:t.waits.length=0:=by have:=eq_of_beq hb;omega
  have kB0:=kB0 hb0
  clear hg kW
  refine wS ?_
  refine ZlY (kB0) ?_
  refine wS ?_
  refine Br.isT rfl ?_
  refine wS ?_
  refine cL4 [0] (Zua) fun r h₂ hp=>?_
  (try simp only[Zd,Zc,Ze,ZX,Zb,Qz,Zg,Qs,Za hnt]at hp)
  obtain⟨rfl,rfl⟩:=hp
  exact wZ
 ·have hb0:t.waits.length≠0:=by
   intro h
   rw[h]at hb
   cases hb
  clear kB0
  refine wS ?_
  refine cL4 [1] (c17 s2 ((t.waits.length:Int)-1) (by omega)) fun r h₂ hp=>?_
  (try simp only[Zd,Zc,Ze,ZX,Zb,Qz,Zg,Qs,Za hnt]at hp)
  obtain⟨i,s3,hi,rfl,rfl⟩:=hp
  have hi2:0≤i∧i<t.waits.length:=by omega
  obtain⟨Y0,E0,Y,H,bm,bl,fe,hG⟩:=hg i hi2
  obtain⟨F,hF0,hFs,hF61,hF2⟩:=Zop hG
  have kW:=fun m hm=>kW i m hi2 hm
  have k0:=hG.k0
  have k1:=hG.k1
  simp only[hWT]at k1
  have kB:=hG.kB
  have kG:=hG.kG
  have e0:=hG.e0
  have hH:=hG.h
  have hfe:=hG.fe
  clear hG hg
  refine wS ?_
  refine cL4 [1] (c17 s3 60 (by omega)) fun r h₂ hp=>?_
  (try simp only[Zd,Zc,Ze,ZX,Zb,Qz,Zg,Qs,Za hnt]at hp)
  obtain⟨some_,s4,hso,rfl,rfl⟩:=hp
  refine wS ?_
  refine ZlY (k0) ?_
  refine wS ?_
  refine ZlY (kB) ?_
  refine wS ?_
  refine ZT false false [] [4,5,9,10,11,12,13,14,15,16,17] [] (fun(m:Nat)=>[(16,.bool fun _=>F m),(17,.int .i64 fun _=>(m:Int))]) (fun _=>[]) (fun m=>m≤61) (fun m=>61-m+0) 0 (Nat.zero_le _) ?_ ?_
  ·refine toR ?_
   exact .bool hF0.symm
  intro m hm
  have hm:m≤61:=hm
  refine wS ?_
  refine⟨fun hb1=>?_,fun hb1=>?_⟩
  ·simp only[decide_eq_true_eq]at hb1
   have kW:=kW m (by omega)
   have k1:=k1 m (by omega)
   obtain⟨ga,gc,gj,kG,hg1,hg2⟩:=kG m (by omega)
   have hH:=hH m
   have hFs:=hFs m (by omega)
   have hf1:H m=0→fe=0:=fun h=>by
    rcases hfe with⟨h1,_⟩|⟨_,h1⟩
    ·exact h1
    ·have:=h1 m (by omega);omega
   have hf2:H m=0→bl≤(Y m).to_∧((Y m).to_=bl→bm≤(m:Int))∧((m:Int)=bm→(Y m).to_=bl):=fun h=>by
    rcases hfe with⟨_,k,h1,h2,h3,h4,h5⟩|⟨_,h1⟩
    ·have:=h5 m (by omega) h
     refine⟨this.1,fun e=>by have:=this.2 e;omega,fun e=>?_⟩
     have:m=k:=by omega
     rw[this,h4]
    ·have:=h1 m (by omega);omega
   have hc20:(E0=0∧H m=0∧ga=Y0.to_∧gc=(Y m).to_∧gj=0)∨((E0=0∧H m=11∨E0=11)∧gj=11):=by
    rcases e0 with h|h
    ·rcases hH with h'|h'
     ·have:=hg1 h h';exact .inl ⟨h,h',this⟩
     ·exact .inr ⟨.inl ⟨h,h'⟩,hg2 fun q=>by omega⟩
    ·exact .inr ⟨.inr h,hg2 fun q=>by omega⟩
   clear hg1 hg2 hfe
   generalize WT i (m:Int)=t2 at*
   generalize Y m=y at*
   generalize H m=hv at*
   refine wS ?_
   refine ZlY (kW) ?_
   refine wS ?_
   refine ZlY (k1) ?_
   refine wS ?_
   refine Br.isF (by rcases hH with h|h<;>rw[h]<;>rfl) ?_
   refine wS ?_
   refine⟨fun h18=>?_,fun h18=>?_⟩
   focus
    refine wS ?_
    refine ZlY (kG) ?_
    refine vS ?_
    refine Chk.mk (by rcases hc20 with⟨h1,h2,h3,h4,h5⟩|⟨⟨h1,h2⟩|h1,h5⟩<;>simp[nc,Q0,QZ,Xd,QY,Cn.p,h1,h5, *]) ?_
    refine Br.isF (by rcases hc20 with⟨h1,h2,h3,h4,h5⟩|⟨⟨h1,h2⟩|h1,h5⟩<;>simp[h1,h5, *]) ?_
   all_goals
    have q1:hv=11∨(hv=0∧fe=0∧bl≤y.to_∧(y.to_=bl→bm≤(m:Int))∧((m:Int)=bm→y.to_=bl)):=by
     rcases hH with h|h
     ·exact .inr ⟨h,hf1 h,hf2 h⟩
     ·exact .inl h
    have q2:hv=11∨(hv=0∧fe=0∧decide (y.to_<bl)=false∧((y.to_==bl)=true∧decide ((m:Int)<bm)=false∧(y.to_ !=bl)=false∨(y.to_==bl)=false∧((m:Int)==bm)=false)):=by
     rcases q1 with h|⟨h,h',h1,h2,h3⟩
     ·exact .inl h
     ·refine .inr ⟨h,h',decide_eq_false (by omega),?_⟩
      by_cases e:y.to_=bl
      ·exact .inl ⟨beq_iff_eq.2 e,decide_eq_false (by have:=h2 e;omega),by rw[e];exact bne_self_eq_false bl⟩
      ·exact .inr ⟨beq_eq_false_iff_ne.2 e,beq_eq_false_iff_ne.2 fun q=>e (h3 q)⟩
    clear hc20 hH hf1 hf2 kW k1 kG kB k0
    refine vS ?_
    refine Chk.mk (by rcases q2 with h|⟨h,h',h1,⟨h2,h3,h4⟩|⟨h2,h3⟩⟩<;>simp[nc,Q0,QZ,Xd,QY,Cn.p, *]) ?_
    refine Br.isF (by rcases q2 with h|⟨h,h',h1,⟨h2,h3,h4⟩|⟨h2,h3⟩⟩<;>simp[*]) ?_
    refine vS ?_
    refine Chk.mk (by cases hF:F m<;>rcases q2 with h|⟨h,h',_⟩<;>simp[nc,Q0,QZ,Xd,QY,Cn.p, *]) ?_
    refine Br.isF (by rcases q2 with h|⟨h,h',_⟩<;>simp[*]) ?_
    refine wS ?_
    refine⟨m+1,by show m+1≤61;omega,by show 61-(m+1)+0<61-m+0;omega,?_⟩
    (refine To.of [] ?_;cbv;(try simp only[nc]);(repeat' (first|exact trivial|exact ZE.refl _|exact ZM.refl _|refine⟨?_,?_⟩|refine ZM.cells ?_|refine ZE.agg ?_|refine ZE.tup ?_));(all_goals (first|exact X3|skip)))
    all_goals exact .bool hFs
  ·simp only[decide_eq_false_iff_not]at hb1
   have hm61:m=61:=by omega
   subst hm61
   have q3:(fe=0∧F 61=true)∨(fe=11∧F 61=false):=by
    rcases hfe with⟨h,_⟩|⟨h,_⟩
    ·refine .inl ⟨h,?_⟩
     rw[h]at hF61
     cases hF:F 61 with
     |true=>rfl
     |false=>rw[hF]at hF61;cases hF61
    ·refine .inr ⟨h,?_⟩
     rw[h]at hF61
     cases hF:F 61 with
     |false=>rfl
     |true=>rw[hF]at hF61;cases hF61
   clear hfe hH k1 kB k0 hFs hF2 hF61
   generalize F 61=FF at*
   refine vS ?_
   refine Chk.mk (by rcases q3 with⟨h,h'⟩|⟨h,h'⟩<;>simp[nc,Q0,QZ,Xd,QY,Cn.p,h,h']) ?_
   refine Br.isT (by rcases q3 with⟨h,h'⟩|⟨h,h'⟩<;>simp[h,h']) ?_
   refine wS ?_
   refine cL4 [0] (Zua) fun r h₂ hp=>?_
   (try simp only[Zd,Zc,Ze,ZX,Zb,Qz,Zg,Qs,Za hnt]at hp)
   obtain⟨rfl,rfl⟩:=hp
   refine vS ?_
   rcases q3 with⟨h,h'⟩|⟨h,h'⟩<;>simp[h,h']
end Go.Proofs.YtjgpiclllehgmaaGreat.Vm
