/- kept's channel, its goroutine and the answers: by hand, as one piece. -/
import Derived.Test.YtjgpiclllehgmaaGreatB5
import Derived.Test.YtjgpiclllehgmaaGreatB3
import Derived.Test.YtjgpiclllehgmaaGreatB4
import Derived.Test.YtjgpiclllehgmaaGreatB1
import Derived.Test.YtjgpiclllehgmaaGreatB2
set_option linter.all false
namespace Go.Proofs.YtjgpiclllehgmaaGreat.Vm
open Go Go.Conc Go.Proofs Go.Proofs.YtjgpiclllehgmaaGreat.Conc1
section
variable {P:Program} {b:FB} {ds:List Deferred} {k:List Item} {cs:List Frame} {t:Array Value}
theorem ZeK {cx:Option Nat} {ops:Array Oper} {i:Nat} {rest:List Nat} {d:Option Tmp} {op:Op} {v:Value} {nv:Next} {w w':World} (H:Jf ops i d op) (hd:∀c,op≠ .defer c) (hm:∀o:Oper,o.op=op→Zw P (fun _=>False) (execOp (Qw t) o))
  (hr:∀o:Oper,o.op=op→(execOp (Qw t) o).run P w= .ok nv w') (hnv:nv= .value v∨(nv= .skip∧v=undef)):
  One P cx (ZC (mkF b t ds (.inRegion ops (i::rest)::k)) cs w) (ZC (mkF b (ZZ t d v) ds (.inRegion ops rest::k)) cs w'):=by
 obtain⟨o,ho,hop,hdst,hg⟩:=H.ok
 rw[←hdst]
 exact J5 ho (by simp[Region.wanted,hg]) (fun c=>by rw[hop];exact hd c) (hm o hop) (hr o hop) hnv
theorem Zic {ops:Array Oper} {rest:List Nat} {i d:Nat} {T:TypeId} {dr:ChanDir} {B:TypeId} {w:World} (H:Jf ops i (some d) (.makeChan T (.const (.int .i64 0)))) (hU:P.underlying T=some (.chan dr B)) (hB:∃i,P.info? B=some i):
  One P none (ZC (mkF b t ds (.inRegion ops (i::rest)::k)) cs w) (ZC (mkF b (ZZ t (some d) (.chan (some w.heap.size))) ds (.inRegion ops rest::k)) cs {w with heap:=w.heap.push (.chan 0 #[] false 0 0 false)}):=by
 obtain⟨o,ho,hop,hdst,hg⟩:=H.ok
 obtain⟨iB,hi⟩:=hB
 have hr:∀w:World,(execOp (Qw t) o).runT P w #[]=(.ok (.value (.chan (some w.heap.size))) {w with heap:=w.heap.push (.chan 0 #[] false 0 0 false)}, #[]):=fun w=>by
  have e:execOp (Qw t) o=(Instr.makeChan T (.int .i64 0)>>=fun x=>pure (.value x)):=by
   unfold execOp
   simp only[hop]
   rfl
  rw[e]
  unfold Instr.makeChan
  show(Sem.bind (Sem.bind (underlying T) _) _).runT P w #[]=_
  rw[Sem.runT_bind',Sem.runT_bind',ZeW hU]
  dsimp only
  rw[show∀f:TypeInfo→Sem Value,(typeInfo B>>=f)=Sem.bind (typeInfo B) f from fun _=>rfl,Sem.runT_bind',Zc9 hi]
  dsimp only
  rw[if_neg (by simp[IntKind.max];decide)]
  rfl
 refine StepsC.main ?_
 refine .one (.head (.own ⟨Nat,Sem.new (.chan 0 #[] false 0 0 false) Sem.pure,fun n=>(mkF b (ZZ t (some d) (.chan (some n))) ds (.inRegion ops rest::k),cs),w.heap.size, #[],fun main w w' x es h=>?_,rfl,rfl,fun e he=>by simp at he⟩) (.refl _))
 have h:((.ok w.heap.size {w with heap:=w.heap.push (.chan 0 #[] false 0 0 false)}:Result Nat),(#[]:Array Event))=(.ok x w',es):=h
 simp only[Prod.mk.injEq,Result.ok.injEq]at h
 obtain⟨⟨rfl,rfl⟩,rfl⟩:=h
 have:=ZdH (P:=P) (b:=b) (ds:=ds) (k:=k) (cs:=cs) (rest:=rest) ho hg (fun c=>by rw[hop];intro h;cases h) (hr w) main
 rw[hdst]at this
 exact this
theorem ZkT {α:Type} {A:Array α} {x y:α} {j:Nat} (h:j≠A.size):(A.push x)[j]? =(A.push y)[j]? :=by
 rw[Array.getElem?_push,Array.getElem?_push,if_neg h,if_neg h]
theorem VR.setCx {R:RC} {a:AV} {v:Value} (c:Option Nat) (h:VR R a v):VR {R with cx:=c} a v:=by
 induction h with
 |pure a v h=>exact .pure a v h
 |undef v=>exact .undef v
 |ptr id off h=>exact .ptr (R:={R with cx:=c}) id off h
 |own s n f id v h hp hn he=>exact .own s n f id v h hp hn he
 |nn s n f v hp hv=>exact .nn s n f v hp hv
 |aptr id s e off i h he=>exact .aptr (R:={R with cx:=c}) id s e off i h he
 |msl id s lo n c i len cap h hlo hn hc hle=>exact .msl (R:={R with cx:=_}) id s lo n c i len cap h hlo hn hc hle
 |gsl id n a l c h hn he hl=>exact .gsl id n a l c h hn he hl
 |gptr id s n e off a h hn he=>exact .gptr id s n e off a h hn he
 |lit s cs b o us hs h1 h2 h3 ih=>exact .lit s cs b o us hs h1 ih h3
 |map id h=>exact .map (R:={R with cx:=c}) id h
 |mit id h h0=>exact .mit (R:={R with cx:=c}) id h h0
 |fn f xs bs us vs ha hb h1 h2 ih1 ih2=>exact .fn f xs bs us vs ha hb ih1 ih2
 |yld id h=>exact .yld (R:={R with cx:=c}) id h
 |agg cs us ha h ih=>exact .agg cs us ha ih
 |tup cs us ha h ih=>exact .tup cs us ha ih
 |gd g a v h ih=>exact .gd g a v ih
 |ob g b v h1 h2=>exact .ob g b v h1 h2
structure KC (P:Program) (fid:FuncId) (xs:Nat→List AV) (L:List Bool):Prop where
 run:∀(ch:Nat) (R:RC) (vs:Array Value),HR (fun _ _ _=>True) R [.gob (.chq ch fun _=>[])]→R.cx=some ch→R.n0=1→XV R (xs ch) vs→∀cs,∃t todo w' s r tm ts ty c,
  StepsC P (some ch) ⟨Frame.enter P fid vs .deferred,cs,R.w⟩ ⟨{mkF ⟨fid,true,none,[]⟩ t [ZhM ts ty c ch] todo with mode:=.returning},cs,w'⟩∧w'.heap[ch]? =some (.chan 0 (L.map Value.bool).toArray false s r tm)∧
  (∀b,b<R.w.heap.size→b≠ch→w'.heap[b]? =R.w.heap[b]?)∧R.w.heap.size≤w'.heap.size∧w'.os=R.w.os∧w'.tape=R.w.tape∧w'.output=R.w.output
def wCh (w:World) (v:Value) (T:TypeId) (f:Nat×Nat):World:={w with heap:=(w.heap.push (.chan 0 #[] false 0 0 false)).push (.cells #[v] T f)}
theorem Zjv {w:World} {v:Value} {T:TypeId} {f:Nat×Nat} {b:Nat} (h:b<w.heap.size):(wCh w v T f).heap[b]? =w.heap[b]? :=by
 show((w.heap.push _).push _)[b]? =_
 rw[Array.getElem?_push,if_neg (by simp;omega),Array.getElem?_push,if_neg (by omega)]
theorem Zmw {w:World} {v:Value} {T:TypeId} {f:Nat×Nat}:(wCh w v T f).heap[w.heap.size]? =some (.chan 0 #[] false 0 0 false):=by
 show((w.heap.push _).push _)[w.heap.size]? =_
 rw[Array.getElem?_push,if_neg (by simp),Array.getElem?_push,if_pos rfl]
theorem Zcx {w:World} {v:Value} {T:TypeId} {f:Nat×Nat}:(wCh w v T f).heap[w.heap.size+1]? =some (.cells #[v] T f):=by
 show((w.heap.push _).push _)[w.heap.size+1]? =_
 rw[Array.getElem?_push,if_pos (by simp)]
theorem Zbb {w:World} {v:Value} {T:TypeId} {f:Nat×Nat}:(wCh w v T f).heap.size=w.heap.size+2:=by
 show((w.heap.push _).push _).size=_
 simp
theorem Zc8 {w:World} {v:Value} {T:TypeId} {f:Nat×Nat}:(wCh w v T f).cell? ⟨w.heap.size+1,0,none⟩=some v:=by
 unfold World.cell?
 rw[Zcx]
 rfl
theorem Zi2 {w w':World} {b:Nat} (h:w'.heap[b]? =w.heap[b]?) (i:Nat):w'.cell? ⟨b,i,none⟩=w.cell? ⟨b,i,none⟩:=by
 unfold World.cell?
 simp only[h]
end
theorem ZoU {G:Nat→Nat→Nat→Prop} {R:RC} {h:List Zh} (H:HR G R h) (T:TypeId):∃R₃:RC,R₃.w=wCh R.w (.chan (some R.w.heap.size)) T (0,1)∧R₃.cx=some R.w.heap.size∧R₃.n0=1∧HR (fun _ _ _=>True) R₃ [.gob (.chq R.w.heap.size fun _=>[])]∧
  (∀k a v,VR R a v→VR R₃ (Qr true [] h k a) v)∧VR R₃ (.iptr [.cch R.w.heap.size] 0) (.pointer (some ⟨R.w.heap.size+1,0,none⟩)):=by
 obtain⟨R₂,acx,a0,a1,a2,a3,a4,a5,a6,a7,a8⟩:=H.sel (fz:=true) (ι:=[]) (fun _ _ _=>True) (fun _ _ _ _=>trivial) (fun _ _ _ _ _ _ _ _=>trivial) (fun _ _ _ _=>trivial) (fun _ _ _ _ _ _ _ _ _=>trivial) List.nodup_nil (fun i hi=>by cases hi) (fun _ _ _ _ _ _ _ _ _=>trivial) 0 (Nat.zero_le _) (fun _=>Nat.zero_le _)
 let n:=R.w.heap.size
 let R₃:RC:={R₂ with w:=wCh R.w (.chan (some n)) T (0,1),cx:=some n,m:=1,n0:=1,α:=fun _=>⟨n,0⟩,ok:=fun b _ _=>b<n+2∧b≠n}
 have hs:R₃.w.heap.size=n+2:=Zbb
 have hle:({R₂ with cx:=some n}:RC).le R₃:=by
  refine⟨by show R₂.m≤1;rw[a2];exact Nat.zero_le _,fun id hi=>?_,fun id hi=>?_,fun id hi=>?_,fun b o m hk=>?_,fun b o m hk j hj=>?_,fun b hk es clk e=>?_,rfl⟩
  ·have hi:id<R₂.m:=hi
   rw[a2]at hi
   exact absurd hi (Nat.not_lt_zero _)
  ·have hi:id<R₂.m:=hi
   rw[a2]at hi
   exact absurd hi (Nat.not_lt_zero _)
  ·have hi:id<R₂.m:=hi
   rw[a2]at hi
   exact absurd hi (Nat.not_lt_zero _)
  ·have:=((a6.okd b o m).1 hk).1
   rw[a1]at this
   exact⟨by show b<R.w.heap.size+2;omega,by show b≠R.w.heap.size;omega⟩
  ·have:=((a6.okd b o m).1 hk).1
   rw[a1]at this
   show(wCh R.w _ T (0,1)).cell? _=R₂.w.cell? _
   rw[a1]
   exact Zi2 (Zjv this) _
  ·have:=((a6.okd b 0 1).1 hk).1
   rw[a1]at this
   show(wCh R.w _ T (0,1)).heap[b]? =_
   rw[Zjv this,←a1]
   exact e
 refine⟨R₃,rfl,rfl,rfl,⟨rfl,fun b o m=>?_,fun id blk hi=>?_,fun i j bi bj b hij hi hj=>?_,fun _ _ _ _ _ _ _ _=>trivial,fun _ _ _ _=>trivial,fun _ _ _ _ _ _ _ _=>trivial,Nat.le_refl 1⟩,fun k a v hv=>((a8 k a v hv).setCx (some n)).mono hle,.pure _ _ (.iptr _ _ _ _ (fun _=>.chan (some n)) (fun j c hj=>?_) (fun j c hj=>?_) ?_)⟩
 ·rw[hs]
  refine⟨fun hk=>⟨hk.1,trivial,fun id blk hi=>?_⟩,fun hk=>⟨hk.1,fun e=>?_⟩⟩
  ·cases id with
   |zero=>
    cases hi
    show¬n=b
    exact fun e=>hk.2 e.symm
   |succ id=>simp at hi
  ·exact hk.2.2 0 _ rfl (show n=b from e.symm)
 ·cases id with
  |zero=>
   cases hi
   exact⟨.chan 0 #[] false 0 0 false,Zmw,rfl,rfl,rfl,0,0,false,rfl⟩
  |succ id=>simp at hi
 ·cases i with
  |zero=>
   cases j with
   |zero=>exact absurd rfl hij
   |succ j=>simp at hj
  |succ i=>simp at hi
 ·cases j with
  |zero=>
   cases hj
   exact Zc8
  |succ j=>simp at hj
 ·cases j with
  |zero=>
   cases hj
   exact .cch n
  |succ j=>simp at hj
 ·exact⟨by show n+1<n+2;omega,by show n+1≠n;omega⟩
section
variable {P:Program} {b:FB} {ds:List Deferred} {k:List Item} {cs:List Frame} {t:Array Value}
variable {T I I':TypeId} {fid:FuncId} {o2 o3 o4 o5 o6 o7 o8 o9 o10:Array Oper}
theorem ZlP {i2 i3:Nat} {X:Code} (HO:ZaW T I I' fid o2 o3 o4 o5 o6 o7 o8 o9 o10) {dr:ChanDir} {B:TypeId} (hU:P.underlying T=some (.chan dr B)) (hT:∃i,P.info? T=some i∧i.size=1∧i.zero=some (.chan none)) (hB:∃i,P.info? B=some i) (hsz:t.size=51) (w:World):
  Steps P none (ZC (mkF b t ds (.code (.region i2 o2 false):: .code (.seq (.region i3 o3 false) X)::k)) cs w)
   (ZC (mkF b (ZZ (ZZ (ZZ t (some 37) (.chan (some w.heap.size))) (some 11) (.pointer (some ⟨w.heap.size+1,0,none⟩))) (some 38) (.func (.func fid) #[] #[.pointer (some ⟨w.heap.size+1,0,none⟩),t.getD 4 undef,t.getD 9 undef,t.getD 10 undef])) ds (.inRegion o3 [1]:: .code X::k)) cs (wCh w (.chan (some w.heap.size)) T (0,0))):=by
 obtain⟨iT,hi,hs,hz⟩:=hT
 refine .head ZbO ?_
 rw[HO.s2]
 refine .head (Zic HO.a20 hU hB) ?_
 refine .head (ZeK (nv:=.value (.pointer (some ⟨w.heap.size+1,0,none⟩))) (w':=wCh w (.chan none) T (0,0)) HO.a21 (fun _ h=>by cases h) (fun o ho=>?_) (fun o ho=>?_) (.inl rfl)) ?_
 ·unfold execOp
  simp only[ho]
  exact Zf (fun _=>Zfg) fun _ _=>Zn
 ·have hzr:(zeroValue T).run P {w with heap:=w.heap.push (.chan 0 #[] false 0 0 false)}= .ok (.chan none) {w with heap:=w.heap.push (.chan 0 #[] false 0 0 false)}:=by
   have:=ZeV (w:={w with heap:=w.heap.push (.chan 0 #[] false 0 0 false)}) (es:= #[]) hi hz
   rw[Sem.runT_eq]at this
   exact congrArg Prod.fst this
  unfold execOp
  simp only[ho]
  simp only[Instr.alloc,Sem.run_bind,hzr,Result.andThen_ok,newVar,newRow,newObj,Value.cells]
  simp[Sem.run,wCh]
 refine .head (ZeK (nv:=.skip) (v:=undef) (w':=wCh w (.chan (some w.heap.size)) T (0,0)) HO.a22 (fun _ h=>by cases h) (fun o ho=>?_) (fun o ho=>?_) (.inr ⟨rfl,rfl⟩)) ?_
 ·unfold execOp
  simp only[ho]
  exact Zf (fun _=>ZcK) fun _ _=>Zn
 ·have e1:Qw (ZZ (ZZ t (some 37) (.chan (some w.heap.size))) (some 11) (.pointer (some ⟨w.heap.size+1,0,none⟩))) (.tmp 11)= .pointer (some ⟨w.heap.size+1,0,none⟩):=Xh (by simp only[Z2];omega)
  have e2:Qw (ZZ (ZZ t (some 37) (.chan (some w.heap.size))) (some 11) (.pointer (some ⟨w.heap.size+1,0,none⟩))) (.tmp 37)= .chan (some w.heap.size):=(Yp (by decide)).trans (Xh (by omega))
  unfold execOp
  simp only[ho,e1,e2]
  have hsr:(sizeOf T).run P (wCh w (.chan none) T (0,0))= .ok 1 (wCh w (.chan none) T (0,0)):=by
   have:=Zc9 (w:=wCh w (.chan none) T (0,0)) (es:= #[]) hi
   rw[Sem.runT_eq]at this
   have h:=congrArg Prod.fst this
   unfold sizeOf
   have h:(typeInfo T).run P (wCh w (.chan none) T (0,0))= .ok iT (wCh w (.chan none) T (0,0)):=h
   rw[Sem.run_bind,h,Result.andThen_ok,hs]
   rfl
  simp only[Instr.storeAt,Instr.sureAddr,Sem.run_bind,Sem.run_pure,Result.andThen_ok,storeVar,hsr]
  rw[if_neg (by simp[Value.cells])]
  have hc:(wCh w (.chan none) T (0,0)).cell? (Addr.add ⟨w.heap.size+1,0,none⟩ 0)=some (.chan none):=Zc8
  have hfz:(wCh w (.chan none) T (0,0)).frozen? (Addr.add ⟨w.heap.size+1,0,none⟩ 0)=false:=by
   unfold World.frozen?
   rw[show(Addr.add ⟨w.heap.size+1,0,none⟩ 0).block=w.heap.size+1 from rfl,Zcx]
   simp
  have hset:(wCh w (.chan none) T (0,0)).setCell (Addr.add ⟨w.heap.size+1,0,none⟩ 0) (.chan (some w.heap.size))=wCh w (.chan (some w.heap.size)) T (0,0):=by
   unfold World.setCell wCh
   simp only[World.mk.injEq,and_true]
   apply Array.ext_getElem?
   intro j
   show(((w.heap.push _).push _).modify (w.heap.size+1) _)[j]? =_
   rw[Array.getElem?_modify]
   by_cases hj:w.heap.size+1=j
   ·subst hj
    rw[if_pos rfl,Array.getElem?_push,if_pos (by simp),Array.getElem?_push,if_pos (by simp)]
    rfl
   ·rw[if_neg hj]
    exact ZkT (by simpa using Ne.symm hj)
  simp[Value.cells,storeCells,store,Sem.run_bind,Sem.run,hc,hfz,hset]
 refine .head YH (.head Zg6 (.head ZbO ?_))
 rw[HO.s3]
 refine .head (ZeK (nv:=.value _) (v:=.func (.func fid) #[] #[.pointer (some ⟨w.heap.size+1,0,none⟩),t.getD 4 undef,t.getD 9 undef,t.getD 10 undef]) (w':=wCh w (.chan (some w.heap.size)) T (0,0)) HO.a30 (fun _ h=>by cases h) (fun o ho=>?_) (fun o ho=>?_) (.inl rfl)) (.refl _)
 ·unfold execOp
  simp only[ho]
  trivial
 ·have e1:(Qw (ZZ (ZZ t (some 37) (.chan (some w.heap.size))) (some 11) (.pointer (some ⟨w.heap.size+1,0,none⟩)))) (.tmp 11)= .pointer (some ⟨w.heap.size+1,0,none⟩):=Xh (by simp only[Z2];omega)
  have e2:(Qw (ZZ (ZZ t (some 37) (.chan (some w.heap.size))) (some 11) (.pointer (some ⟨w.heap.size+1,0,none⟩)))) (.tmp 4)=t.getD 4 undef:=(Yp (by decide)).trans (Yp (by decide))
  have e3:(Qw (ZZ (ZZ t (some 37) (.chan (some w.heap.size))) (some 11) (.pointer (some ⟨w.heap.size+1,0,none⟩)))) (.tmp 9)=t.getD 9 undef:=(Yp (by decide)).trans (Yp (by decide))
  have e4:(Qw (ZZ (ZZ t (some 37) (.chan (some w.heap.size))) (some 11) (.pointer (some ⟨w.heap.size+1,0,none⟩)))) (.tmp 10)=t.getD 10 undef:=(Yp (by decide)).trans (Yp (by decide))
  unfold execOp
  have e0:∀u:Array Value,ZZ u none undef=u:=fun _=>rfl
  simp only[ho,Instr.makeFunc,List.map_toArray,List.map_cons,List.map_nil,e0,e1,e2,e3,e4]
  rfl
theorem Zj4 {fn:Func} {body:Code} (hf:P.funcs[fid]? =some fn) (hb:fn.body=some body) (hn:(fn.name== "runtime.NumGoroutine")=false) (vs:Array Value) (main:Bool) (w:World):
  stepG P main (G (Zab P.funcs.size [{target:=.fn (.func fid) vs,args:= #[]}]) []) w= .go (G (Frame.enter P fid vs .deferred) [Zab P.funcs.size []]) w:=by
 have hr:(invoke (.fn (.func fid) vs) #[]).run P w= .ok (.enter fid vs) w:=by
  have hn:¬fn.name= "runtime.NumGoroutine" :=by simpa using hn
  simp[invoke,callFunc,Sem.run_bind,program,Sem.run,hf,hb,hn]
 have he:(invoke (.fn (.func fid) vs) #[]).events P w #[]= #[]:=by
  have hn:¬fn.name= "runtime.NumGoroutine" :=by simpa using hn
  unfold invoke callFunc Sem.events
  simp only
  show((Sem.bind program _).runT P w #[]).2=_
  rw[Sem.runT_bind',show program.runT P w #[]=(.ok P w, #[])from rfl]
  simp only[hf,hb]
  simp[hn]
 simp[G,stepG,unwind,Zab,callDeferred,hr,he,GStep.after,seen_none]
theorem ZqB {vs:Array Value} {X:Code} (HO:ZaW T I I' fid o2 o3 o4 o5 o6 o7 o8 o9 o10) (h38:Qw t (.tmp 38)= .func (.func fid) #[] vs):
  Zmi P (mkF b t ds (.inRegion o3 [1]:: .code X::k)) cs (mkF b t ds (.inRegion o3 []:: .code X::k)) (Zab P.funcs.size [{target:=.fn (.func fid) vs,args:= #[]}]):=by
 obtain⟨o,ho,hop,hd,hg⟩:=HO.a31.ok
 intro w
 refine⟨#[],?_,fun e he=>by simp at he⟩
 have hf:(mkF b t ds (.inRegion o3 [1]:: .code X::k)).finish undef=mkF b t ds (.inRegion o3 []:: .code X::k):=by
  rw[Q8,ho]
  show mkF b (ZZ t o.dst undef) ds _=_
  rw[hd]
  rfl
 have e:execOp (Qw t) o=pure (.spawn {target:=.fn (.func fid) vs,args:= #[]}):=by
  unfold execOp
  simp only[hop,resolve,h38,Deferred.ofValue]
  simp
 rw[Zcm ho (by simp[Region.wanted,hg]) (fun c=>by rw[hop];intro h;cases h),e,←hf]
 unfold stepG.apply
 have hk:=b.not_early
 simp[GStep.after,G,mkF,seen_none,hk,Zab]
end
section
variable {P:Program} {T I I':TypeId} {fid:FuncId} {o2 o3 o4 o5 o6 o7 o8 o9 o10:Array Oper}
theorem Zor {b:FB} {ds:List Deferred} {k:List Item} {cs:List Frame} {t:Array Value} {w:World} {i6 i7 i8 i9 i10 b0 b1:Nat} (HO:ZaW T I I' fid o2 o3 o4 o5 o6 o7 o8 o9 o10) (hsz:t.size=51):
  Steps P none (ZC (got (mkF b t ds (atR i6 i7 i8 i9 i10 b0 b1 o6 o7 o8 o9 o10 k [0,1]),cs) false false).1 (got (mkF b t ds (atR i6 i7 i8 i9 i10 b0 b1 o6 o7 o8 o9 o10 k [0,1]),cs) false false).2 w)
   (ZC (mkF b (ZZ (ZZ t (some 40) (.tuple #[.bool false,.bool false])) (some 41) (.bool false)) ds k) cs w):=by
 obtain⟨o,ho,hop,hd,hg⟩:=HO.a60.ok
 have e:got (mkF b t ds (atR i6 i7 i8 i9 i10 b0 b1 o6 o7 o8 o9 o10 k [0,1]),cs) false false=(mkF b (ZZ t (some 40) (.tuple #[.bool false,.bool false])) ds (atR i6 i7 i8 i9 i10 b0 b1 o6 o7 o8 o9 o10 k [1]),cs):=by
  unfold got atR
  rw[Q8,ho]
  show(mkF b (ZZ _ o.dst _) ds _,cs)=_
  rw[hd]
 rw[e]
 have e40:Qw (ZZ t (some 40) (.tuple #[.bool false,.bool false])) (.tmp 40)= .tuple #[.bool false,.bool false]:=Xh (by omega)
 unfold atR
 refine .head (ZeK (nv:=.value _) (v:=.bool false) (w':=w) HO.a61 (fun _ h=>by cases h) (fun o ho=>?_) (fun o ho=>?_) (.inl rfl)) ?_
 ·rw[Jn e40 rfl o ho]
  trivial
 ·rw[Jn (v:=.bool false) e40 rfl o ho]
  rfl
 refine .head YH (.head Zg6 (.head (ZkL (v:=false) ?_) (.head (ZkK ?_) (.refl _))))
 ·rw[ZbT]
  exact Xh (by simp only[Z2];omega)
 ·simp[exitTo]
theorem ZtE {R:RC} {t:Array Value} {y n:Int} (hsz:t.size=51) (h12:t.getD 12 undef= .int .i64 y) (h13:t.getD 13 undef= .int .i64 n):SL R (mkS 51 [(12,.int .i64 fun _=>y),(13,.int .i64 fun _=>n)]) t:=by
 refine⟨by rw[hsz];rfl,fun i a hi=>?_⟩
 by_cases e13:i=13
 ·subst e13
  have hi:some (AV.int .i64 fun _=>n)=some a:=hi
  cases hi
  rw[h13]
  exact .pure _ _ (.int _ _)
 by_cases e12:i=12
 ·subst e12
  have hi:some (AV.int .i64 fun _=>y)=some a:=hi
  cases hi
  rw[h12]
  exact .pure _ _ (.int _ _)
 have hi:(((List.replicate 51 AV.undef).set 12 (.int .i64 fun _=>y)).set 13 (.int .i64 fun _=>n))[i]? =some a:=hi
 rw[List.getElem?_set_ne (Ne.symm e13),List.getElem?_set_ne (Ne.symm e12),List.getElem?_replicate]at hi
 split at hi
 ·cases hi
  exact .undef _
 ·cases hi
theorem ZqA {p:Unit→Program} {nb:Nat} {K:Ex→List AV→List Zh→Cd→Prop} {s:List AV} {h:List Zh} {i2 i3 i4 i5 i6 i7 i8 i9 i10 b0 b1:Nat} {x11:Code} (HO:ZaW T I I' fid o2 o3 o4 o5 o6 o7 o8 o9 o10) {dr:ChanDir} {B:TypeId}
  (hU:(p ()).underlying T=some (.chan dr B)) (hT:∃i,(p ()).info? T=some i∧i.size=1∧i.zero=some (.chan none)) (hB:∃i,(p ()).info? B=some i∧i.zero=some (.bool false))
  {fn:Func} {body:Code} (hf:(p ()).funcs[fid]? =some fn) (hb:fn.body=some body) (hn:(fn.name== "runtime.NumGoroutine")=false) (hr:fn.results= #[]) (hlen:s.length=51) (hmain:h[0]? =some .main)
  {x4 x9 x10:AV} (h4:Qr true [] h 5 (s.getD 4 .undef)=x4) (h9:Qr true [] h 5 (s.getD 9 .undef)=x9) (h10:Qr true [] h 5 (s.getD 10 .undef)=x10) {L:List Bool} (child:KC (p ()) fid (fun ch=>[.iptr [.cch ch] 0,x4,x9,x10]) L)
  (rest:HP false nb p [.code x11] K (mkS 51 [(12,.int .i64 fun _=>cnt true L 0),(13,.int .i64 fun _=>cnt false L 0)]) h):
  HP false nb p [.code (.region i2 o2 false),.code (.seq (.region i3 o3 false) (.seq (.region i4 o4 false) (.seq (.seq (.region i5 o5 false) (.block b0 (.loop (lpB i6 i7 i8 i9 i10 b0 b1 o6 o7 o8 o9 o10)))) x11)))] K s h:=by
 refine⟨fun hK R₀ h₀ hnb R t hi hs b ds k cs hd=>?_⟩
 have hcx:R.cx=none:=hi.hr.blk 0 .main hmain
 have hsz:t.size=51:=hs.1.trans hlen
 have S1:=ZlP (P:=p ()) (b:=b.1) (ds:=ds) (k:=k) (cs:=cs) (t:=t) (i2:=i2) (i3:=i3) (X:=.seq (.region i4 o4 false) (.seq (.seq (.region i5 o5 false) (.block b0 (.loop (lpB i6 i7 i8 i9 i10 b0 b1 o6 o7 o8 o9 o10)))) x11)) HO hU hT (hB.imp fun _ h=>h.1) hsz R.w
 generalize hvs:(#[.pointer (some ⟨R.w.heap.size+1,0,none⟩),t.getD 4 undef,t.getD 9 undef,t.getD 10 undef]:Array Value)=vs at S1
 generalize ht3:ZZ (ZZ (ZZ t (some 37) (.chan (some R.w.heap.size))) (some 11) (.pointer (some ⟨R.w.heap.size+1,0,none⟩))) (some 38) (.func (.func fid) #[] vs)=t3 at S1
 have hsz3:t3.size=51:=by rw[←ht3];simp only[Z2];exact hsz
 have h38:Qw t3 (.tmp 38)= .func (.func fid) #[] vs:=by rw[←ht3];exact Xh (by simp only[Z2];omega)
 have h11:t3.getD 11 undef= .pointer (some ⟨R.w.heap.size+1,0,none⟩):=by rw[←ht3];exact(QH (by decide)).trans (Yg (by simp only[Z2];omega))
 have h37:t3.getD 37 undef= .chan (some R.w.heap.size):=by rw[←ht3];exact(QH (by decide)).trans ((QH (by decide)).trans (Yg (by omega)))
 have hgo:=ZqB (P:=p ()) (b:=b.1) (ds:=ds) (k:=k) (cs:=cs) (X:=.seq (.region i4 o4 false) (.seq (.seq (.region i5 o5 false) (.block b0 (.loop (lpB i6 i7 i8 i9 i10 b0 b1 o6 o7 o8 o9 o10)))) x11)) HO h38
 obtain⟨hkf,hE⟩:=ZlQ (P:=p ()) (ch:=R.w.heap.size) (cell:=R.w.heap.size+1) (b:=b.1) (ds:=ds) (k:=k) (cs:=cs) HO hU hB (t:=t3) (by omega) h11 h37 rfl hgo
 obtain⟨R₃,r1,r2,r3,r4,r5,r6⟩:=ZoU hi.hr T
 have hrow:XV R₃ [.iptr [.cch R.w.heap.size] 0,x4,x9,x10] vs:=by
  subst hvs
  refine⟨rfl,fun j c hj=>?_⟩
  match j,hj with
  |0,hj=>cases hj;exact r6
  |1,hj=>
   cases hj
   rw[←h4]
   exact r5 5 _ _ (hs.getD 4)
  |2,hj=>
   cases hj
   rw[←h9]
   exact r5 5 _ _ (hs.getD 9)
  |3,hj=>
   cases hj
   rw[←h10]
   exact r5 5 _ _ (hs.getD 10)
  |j+4,hj=>simp at hj
 obtain⟨tc,todo,wc,sc,rc,tmc,ts,ty,c,g1,g2,g3,g4,g5,g6,g7⟩:=child.run R.w.heap.size R₃ vs r4 r2 r3 hrow [Zab (p ()).funcs.size []]
 rw[r1]at g1 g3 g4 g5 g6 g7
 have hFz:Fz (R.w.heap.size+1) (wCh R.w (.chan (some R.w.heap.size)) T (0,1)) (wCh R.w (.chan (some R.w.heap.size)) T (0,0)):=by
  refine⟨rfl,rfl,rfl,rfl,by rw[Zbb,Zbb],fun j hj=>?_,_,T,(0,0),Zcx,Zcx⟩
  exact ZkT (by simpa using hj)
 obtain⟨w',hw',S2⟩:=Zow (P:=p ()) hkf hgo hE Zmw Zc8 (by omega) (fun main w=>Zj4 hf hb hn vs main w) hFz g1 g2 (ZoZ hf hr)
 have S3:=Zor (P:=p ()) (b:=b.1) (ds:=ds) (k:=.code x11::k) (cs:=cs) (t:=L.foldl stp (st0 R.w.heap.size t3)) (w:=w'.setChan R.w.heap.size 0 #[] true sc sc tmc) (i6:=i6) (i7:=i7) (i8:=i8) (i9:=i9) (i10:=i10) (b0:=b0) (b1:=b1) HO ((ZhB (by omega) h11 L).size.trans hsz3)
 have hst:=ZhB (ch:=R.w.heap.size) (cell:=R.w.heap.size+1) (t:=t3) (by omega) h11 L
 generalize htz:ZZ (ZZ (L.foldl stp (st0 R.w.heap.size t3)) (some 40) (.tuple #[.bool false,.bool false])) (some 41) (.bool false)=tz at S3
 have hszz:tz.size=51:=by rw[←htz];simp only[Z2];exact hst.size.trans hsz3
 have hz12:tz.getD 12 undef= .int .i64 (cnt true L 0):=by rw[←htz];exact(QH (by decide)).trans ((QH (by decide)).trans hst.c12)
 have hz13:tz.getD 13 undef= .int .i64 (cnt false L 0):=by rw[←htz];exact(QH (by decide)).trans ((QH (by decide)).trans hst.c13)
 generalize hwz:w'.setChan R.w.heap.size 0 #[] true sc sc tmc=wz at S2 S3
 have hheap:∀b,b<R.w.heap.size→wz.heap[b]? =R.w.heap[b]? :=fun b hb=>by
  rw[←hwz]
  show(w'.heap.setIfInBounds R.w.heap.size _)[b]? =_
  rw[Array.getElem?_setIfInBounds_ne (by omega),hw'.ne b (by omega)]
  exact(g3 b (by rw[Zbb];omega) (by omega)).trans (Zjv hb)
 have hsize:R.w.heap.size≤wz.heap.size:=by
  rw[←hwz]
  show _≤(w'.heap.setIfInBounds R.w.heap.size _).size
  rw[Array.size_setIfInBounds,hw'.size]
  rw[Zbb]at g4
  exact Nat.le_trans (by omega) g4
 have hos:wz.os=R.w.os:=by rw[←hwz];exact hw'.os.trans g5
 have htape:wz.tape=R.w.tape:=by rw[←hwz];exact hw'.tape.trans g6
 have hout:wz.output=R.w.output:=by rw[←hwz];exact hw'.output.trans g7
 let R':RC:={R with w:=wz,ok:=fun b o n=>b<wz.heap.size∧Gof R₀ h₀ b o n∧ZfZ R h b o n}
 have hok:∀b o n,R.ok b o n→R'.ok b o n:=fun b o n k=>by
  obtain⟨h1,h2,h3⟩:=(hi.hr.okd _ _ _).1 k
  exact⟨by omega,h2,h3⟩
 have hkeep:∀b o n,R.ok b o n→∀j,j<n→R'.w.cell? ⟨b,o+j,none⟩=R.w.cell? ⟨b,o+j,none⟩:=fun b o n k j hj=>Zi2 (hheap b ((hi.hr.okd _ _ _).1 k).1) _
 have hle:R.le R':=⟨Nat.le_refl _,fun _ _=>rfl,fun _ _=>⟨Int.le_refl _,fun _=>rfl⟩,fun _ _=>.refl _,hok,hkeep,fun b k es clk e=>(hheap b ((hi.hr.okd _ _ _).1 k).1).trans e,rfl⟩
 have hH:HR (Gof R₀ h₀) R' h:=⟨hi.hr.len,fun _ _ _=>Iff.rfl,fun id blk hid=>(hi.hr.blk id blk hid).mono hle rfl rfl rfl rfl fun b hp=>hheap b (hi.hr.phys_lt hid hp),hi.hr.dis,hi.hr.cl,fun b o n hb=>hi.hr.fresh b o n (Nat.le_trans hsize hb),hi.hr.tokG,hi.hr.n0m⟩
 have hx:Xe R h R' h:=⟨rfl,hos,htape,hout,hsize,Nat.le_refl _,fun _ _=>rfl,hok,hkeep,fun b hb _=>hheap b hb,fun id blk b hid hp=>.inr ⟨id,blk,hid,hp,.inl rfl⟩⟩
 have hi':JL R₀ h₀ R' h:=hi.step hH hx hle
 obtain⟨e,s',h',R'',t',ds',a1,a2,a5,a6,a7,a8⟩:=rest.run hK R₀ h₀ hnb R' tz hi' (ZtE hszz hz12 hz13) b ds k cs (hd.ext hi.hr hx)
 refine⟨e,s',h',R'',t',ds',a1,a2,a5,a6,a7,?_⟩
 have hcx':R'.cx=none:=hcx
 rw[hcx']at a8
 rw[hcx]
 exact Arr.of_steps (Steps.trans S1 (Steps.trans S2 S3)) a8
end
end Go.Proofs.YtjgpiclllehgmaaGreat.Vm
namespace Go.Proofs.YtjgpiclllehgmaaGreat.Vm
open Go Go.Conc Go.Proofs Go.Proofs.YtjgpiclllehgmaaGreat.Conc1
def ZoV (ch:Nat) (L:List Bool) (e:Ex) (s:List AV) (h:List Zh) (c:Cd):Prop:=match e with
 |.exit _=>False
 |_=>chk c (∃h2,h= .gob (.chq ch fun _=>L)::h2)
theorem ZgM {ch:Nat} {L:List Bool} {e:Ex} {s:List AV} {h:List Zh} {c:Cd} (H:ZoV ch L e s h c):ZQ c∧(∀id,e≠ .exit id)∧∃h2,h= .gob (.chq ch fun _=>L)::h2:=by
 cases e with
 |exit id=>exact H.elim
 |normal=>exact⟨(Z1 H).1,(fun _ h=>by cases h),(Z1 H).2⟩
 |ret=>exact⟨(Z1 H).1,(fun _ h=>by cases h),(Z1 H).2⟩
theorem Zhc {P:Program} {T:TypeId} {dr:ChanDir} {B:TypeId} {w:World} {a:Addr} {v:Value} (hU:P.underlying T=some (.chan dr B)) (hw:w.cell? a=some v):(Instr.loadAt T (.pointer (some a))).run P w= .ok v w:=by
 have h1:(isAgg T).run P w= .ok false w:=by
  unfold isAgg
  have:=ZeW (w:=w) (es:= #[]) hU
  rw[Sem.runT_eq]at this
  have h:(underlying T).run P w= .ok (.chan dr B) w:=congrArg Prod.fst this
  rw[Sem.run_bind,h,Result.andThen_ok]
  rfl
 simp only[Instr.loadAt,Instr.sureAddr,Sem.run_bind,Sem.run_pure,Result.andThen_ok,loadVar,h1,Bool.false_eq_true,if_false]
 simp[load,Sem.run,hw]
theorem ZoT {p:Unit→Program} {fid:FuncId} {fn:Func} {i0:Nat} {o0:Array Oper} {x1:Code} {T:TypeId} {dr:ChanDir} {B:TypeId} {ts:Array TypeId} {L:List Bool} {ys:List AV} (hf:(p ()).funcs[fid]? =some fn) (hb:fn.body=some (.seq (.region i0 o0 false) x1)) (hs0:List.range o0.size=[0,1])
  (a0:Jf o0 0 (some 6) (.load T (.tmp 0))) (a1:Jf o0 1 none (.defer {callee:=.builtin .close,args:= #[.tmp 6],argTypes:=ts})) (hU:(p ()).underlying T=some (.chan dr B)) (hnt:6<fn.ntmps)
  (H:∀ch,HP false 1 p [.code x1] (ZoV ch L) ((entry fn.ntmps (.iptr [.cch ch] 0::ys)).set 6 (.cch ch)) [.gob (.chq ch fun _=>[])]):KC (p ()) fid (fun ch=>.iptr [.cch ch] 0::ys) L:=by
 refine⟨fun ch R vs HH hcx hn0 ha cs=>?_⟩
 obtain⟨ha1,ha2⟩:=ha
 have hfr:Frame.enter (p ()) fid vs .deferred=mkF ⟨fid,true,none,[]⟩ (vs++Array.replicate (fn.ntmps-vs.size) undef) [] [.code (.seq (.region i0 o0 false) x1)]:=by
  simp[Frame.enter,mkF,FB.kind,hf,hb]
 have hsl:SL R (entry fn.ntmps (.iptr [.cch ch] 0::ys)) (vs++Array.replicate (fn.ntmps-vs.size) undef):=by
  refine⟨by simp[entry,←ha1];omega,fun i a hi=>?_⟩
  rw[entry,List.getElem?_append]at hi
  split at hi
  ·rename_i hlt
   have:=ha2 i a hi
   rw[Array.getD_eq_getD_getElem?]at this⊢
   rw[Array.getElem?_append_left (by omega)]
   exact this
  ·rw[List.getElem?_replicate]at hi
   split at hi
   ·cases hi
    exact .undef _
   ·cases hi
 generalize ht:vs++Array.replicate (fn.ntmps-vs.size) undef=t at hfr hsl
 have hv0:∃a:Addr,t.getD 0 undef= .pointer (some a)∧R.w.cell? a=some (.chan (some ch)):=by
  have h0:=hsl.getD 0
  have h0:VR R (.iptr [.cch ch] 0) (t.getD 0 undef):=h0
  generalize t.getD 0 undef=v at h0
  cases h0 with
  |pure _ _ hp=>
   cases hp with
   |iptr _ _ b o us h1 h2 h3=>
    have e:=h1 0 _ rfl
    have e2:=h2 0 _ rfl
    refine⟨_,rfl,?_⟩
    cases hu:us 0 with
    |chan c=>
     rw[hu]at e2 e
     cases e2
     exact e
    |_=>rw[hu]at e2;cases e2
 obtain⟨a,hv0,hcell⟩:=hv0
 have hsz:6<t.size:=by
  have:=hsl.1
  rw[this]
  simp only[entry,List.length_append,List.length_replicate]
  omega
 have hno:(⟨fid,true,none,[]⟩:FB).roundOf=none:=rfl
 obtain⟨o,ho,hop,hdst,hg⟩:=a1.ok
 let t1:=ZZ t (some 6) (.chan (some ch))
 let D:=ZhM ts o.type #[false] ch
 have S0:StepsC (p ()) (some ch) (ZC (mkF ⟨fid,true,none,[]⟩ t [] [.code (.seq (.region i0 o0 false) x1)]) cs R.w) (ZC (mkF ⟨fid,true,none,[]⟩ t1 [] [.inRegion o0 [1],.code x1]) cs R.w):=by
  refine .head Zg6 (.head ZbO ?_)
  rw[hs0]
  refine .one (ZeK (nv:=.value _) (v:=.chan (some ch)) (w':=R.w) a0 (fun _ h=>by cases h) (fun o ho=>?_) (fun o ho=>?_) (.inl rfl))
  ·unfold execOp
   simp only[ho]
   exact Zf (fun _=>Zd2) fun _ _=>Zn
  ·have e:Qw t (.tmp 0)= .pointer (some a):=hv0
   unfold execOp
   simp only[ho,e,Sem.run_bind,Zhc hU hcell,Result.andThen_ok,Sem.run_pure]
 have S1:One (p ()) (some ch) (ZC (mkF ⟨fid,true,none,[]⟩ t1 [] [.inRegion o0 [1],.code x1]) cs R.w) (ZC (mkF ⟨fid,true,none,[]⟩ t1 [D] [.inRegion o0 [],.code x1]) cs R.w):=by
  refine QS fun main w=>?_
  have e6:Qw t1 (.tmp 6)= .chan (some ch):=Xh hsz
  have e:execOp (Qw t1) o=pure (.defer D):=by
   unfold execOp
   simp only[hop,resolve,List.map_toArray,List.map_cons,List.map_nil,e6]
   rfl
  have hop2:(mkF ⟨fid,true,none,[]⟩ t1 [] [.inRegion o0 [1],.code x1]).oper?=some o:=by simp[Frame.oper?,mkF,ho]
  have he:(mkF ⟨fid,true,none,[]⟩ t1 [] [.inRegion o0 [1],.code x1]).eval=Qw t1:=ZbT _
  have h2:stepG (p ()) main (G (mkF ⟨fid,true,none,[]⟩ t1 [] [.inRegion o0 [1],.code x1]) cs) w=stepG.oper (p ()) true (mkF ⟨fid,true,none,[]⟩ t1 [] [.inRegion o0 [1],.code x1]) cs none w:=by
   simp[stepG,stepG.exec,mkF,G,ho,Region.wanted,hg]
  rw[h2]
  unfold stepG.oper
  simp only[hop2,he,e]
  unfold stepG.apply
  have hk:(mkF ⟨fid,true,none,[]⟩ t1 [D] [.inRegion o0 [1],.code x1]).finish undef=mkF ⟨fid,true,none,[]⟩ t1 [D] [.inRegion o0 [],.code x1]:=by
   rw[Q8,ho]
   show mkF _ (ZZ t1 o.dst undef) _ _=_
   rw[hdst]
   rfl
  rw[←hk]
  simp[GStep.after,G,mkF,seen_none,FB.kind]
 have S2:One (p ()) (some ch) (ZC (mkF ⟨fid,true,none,[]⟩ t1 [D] [.inRegion o0 [],.code x1]) cs R.w) (ZC (mkF ⟨fid,true,none,[D]⟩ t1 [D] ([.code x1]++[])) cs R.w):=YH
 have hn0':([.gob (.chq ch fun _=>[])]:List Zh).length≤R.n0:=by rw[hn0];exact Nat.le_refl 1
 have hsl1:SL R ((entry fn.ntmps (.iptr [.cch ch] 0::ys)).set 6 (.cch ch)) t1:=hsl.set (.pure _ _ (.cch ch)) 6
 obtain⟨e,s',h',R',t',ds',⟨c,hk⟩,hi,hs,hd,_,hA⟩:=(H ch).run (fun e s h c hk=>(ZgM hk).1) R [.gob (.chq ch fun _=>[])] (by rw[hn0];exact Nat.le_refl 1) R t1 (JL.refl HH hn0') hsl1 ⟨⟨fid,true,none,[D]⟩,fun _=>rfl⟩ [D] [] cs ⟨[],rfl,List.nodup_nil,fun r hr=>by cases hr⟩
 obtain⟨hc,hne,h2,rfl⟩:=ZgM hk
 rw[hcx]at hA
 have hret:∃todo,Steps (p ()) (some ch) (ZC (mkF ⟨fid,true,none,[D]⟩ t1 [D] ([.code x1]++[])) cs R.w) (ZC {mkF ⟨fid,true,none,[D]⟩ t' ds' todo with mode:=.returning} cs R'.w):=by
  cases e with
  |exit id=>exact absurd rfl (hne id)
  |normal=>exact⟨[],Steps.trans hA (.one (ZnW rfl))⟩
  |ret=>
   obtain⟨todo,hA⟩:=hA
   exact⟨.code .ret::todo,Steps.trans hA (.one (ZnT rfl))⟩
 obtain⟨todo,hst⟩:=hret
 obtain⟨rs,rfl,hnd,hrs⟩:=hd
 obtain⟨R2,hi2,hle2,hst2⟩:=Zcl (P:=p ()) (b:=⟨fid,true,none,[D]⟩) (base:=[D]) (t:=t') (todo:=todo) (cs:=cs) rs R' hnd hi hrs
 have hcx2:R'.cx=some ch:=hi.le.cx.trans hcx
 rw[hcx2]at hst2
 obtain⟨ob,hob,_,hq,_,sN,rN,tmN,rfl⟩:=hi2.hr.blk 0 _ rfl
 have hα:(R2.α 0).b=(R.α 0).b:=by
  have:R2.α 0=R.α 0:=hi2.le.α 0 (by rw[←HH.len];exact Nat.zero_lt_one)
  rw[this]
 refine⟨t',todo,R2.w,sN,rN,tmN,ts,o.type, #[false],?_,?_,fun b hb hne=>?_,hi2.ext.size,hi2.ext.os,hi2.ext.tape,hi2.ext.output⟩
 ·rw[hfr]
  exact S0.trans (.head S1 (.head S2 (hst.trans hst2)))
 ·rw[←hq]
  exact hob
 ·refine hi2.ext.frame b hb fun id blk hid hp=>?_
  cases id with
  |zero=>
   cases hid
   have hp:(R.α 0).b=b:=hp
   rw[←hα,hq]at hp
   exact hne hp.symm
  |succ id=>simp at hid
attribute [local irreducible] Dn
open Go Go.Proofs Sp
set_option maxRecDepth 100000
set_option maxHeartbeats 4000000
def Zcg (t:Ze) (f r st:Int):Nat→List Bool
 |0=>[]
 |i+1=>Zcg t f r st i++[Ym t f r st i]
theorem ZuC (t:Ze) (f r st:Int) (hw:ZG t) (hc:ZaX t f r st):KC Tryz.prog 151 (fun ch=>.iptr [.cch ch] 0::[XW t,.iptr [.int .i64 fun _=>f,.int .i64 fun _=>ZJ (Sp.Zk (callsOf t) f) st] 0,.iptr [.int .i64 fun _=>r,.int .i64 fun _=>Zt (Sp.Zk (callsOf t) r) st] 0]) (Zcg t f r st (Z7 t)):=by
 obtain⟨nt,hnt⟩:=Zr
 have k382:=ZqU t
 have k435:=fun B0 B1 B2 B3 B4 B5 stop=>ZqS t hw B0 B1 B2 B3 B4 B5 stop
 have hl1:=fun x=> @Zai t x _ _ hc.1
 have hl2:=fun x=> @Zai t x _ _ hc.2
 have hkb:∀i,Ym t f r st i=decide ((ZR t (Zl t i) f (ZJ (Sp.Zk (callsOf t) f) st)).comes≤(ZR t (Zl t i) r (Zt (Sp.Zk (callsOf t) r) st)).goes):=fun _=>rfl
 have hL0:Zcg t f r st 0=[]:=rfl
 have hLS:∀i,Zcg t f r st (i+1)=Zcg t f r st i++[Ym t f r st i]:=fun _=>rfl
 generalize Zcg t f r st=KL at*
 generalize Ym t f r st=KB at*
 generalize ZJ (Sp.Zk (callsOf t) f) st=fo at*
 generalize Zt (Sp.Zk (callsOf t) r) st=to at*
 generalize ZR t=HH at*
 generalize Zl t=TA at*
 generalize Qg t=HL at*
 refine ZoT (p:=fun _=>Tryz.prog) (dr:=.both) (B:=4) Tryz.func151 (show Tryz.f151.body=_ from rfl) rfl ⟨_,rfl,rfl,rfl,rfl⟩ ⟨_,rfl,rfl,rfl,rfl⟩ (by kernel_rfl) (by decide) fun ch=>?_
 unfold XW ZU at*
 simp only[Za hnt,Zb,Zz]at*
 refine Zd7 false false [] [] false ?_
 refine wS ?_
 refine ZW (k382) (by first|rfl|(simp only[Zc,Zd,Zg,Zb,Za hnt];rfl)) fun r h₂ hp=>?_
 (try simp only[Zc,Zd,Zg,Zb,Za hnt]at hp)
 obtain⟨rfl,rfl⟩:=hp
 refine wS ?_
 refine Ze1 [0,2,3,8] [.tok 1 fun _=>0,.tok 1 fun _=>0,.tok 1 fun _=>0,.tok 1 fun _=>0] [(0,.gob (.chq ch fun _=>KL 0))] (fid:=135) (first:=[]) ?_ rfl ?_ ?_
 ·rw[hL0]
  (refine To.of [(1,false),(1,false),(1,false),(1,false)] ?_;cbv;(try simp only[nc]);(repeat' (first|exact trivial|exact ZI.refl _|exact ZP.refl _|refine⟨?_,?_⟩|refine ZP.cells ?_|refine ZI.agg ?_|refine ZI.tup ?_));(all_goals (first|exact Yt|skip)))
 ·exact XL
 refine SC.mono (k435 (fun i=>.gob (.chq ch fun _=>KL i)) (fun _=>_) (fun _=>_) (fun _=>_) (fun _=>_) (fun _=>_) (fun _=>false) ?_ ?_ ?_ ?_ ?_ ?_ ?_) ?_
 iterate 6 exact fun i=>Qt.of rfl
 ·intro i hi hno
  have e1:(((HL (TA i)).lookup [f,fo]).getD []).headD 0=(HH (TA i) f fo).comes:=by rw[hl1];rfl
  have e2:(((HL (TA i)).lookup [r,to]).getD []).tail.tail.headD 0=(HH (TA i) r to).goes:=by rw[hl2];rfl
  refine YC.less (Zck false false [] rfl rfl ?_)
  refine wS ?_
  simp only[e1,e2,←hkb,←hLS]
  refine⟨.bool fun _=>true,_,?_,rfl,rfl⟩
  exact ZL
 ·intro v h hh
  obtain⟨m,hm,rfl⟩:=hh
  have hmN:m=Z7 t:=by
   rcases hm with h|⟨_,_,_,h,_⟩
   ·exact h.1
   ·cases h
  subst hmN
  refine wS ?_
  exact⟨_,rfl⟩
theorem Zk0 {o:Option TypeInfo} {n:Nat} {z:Option Value} (h:o.map (fun i=>(i.size,i.zero))=some (n,z)):∃i,o=some i∧i.size=n∧i.zero=z:=by
 cases o with
 |none=>cases h
 |some i=>
  have h:some (i.size,i.zero)=some (n,z):=h
  simp only[Option.some.injEq,Prod.mk.injEq]at h
  exact⟨i,rfl,h.1,h.2⟩
theorem ZfG (w v:Bool):∀(l:List Bool) (n:Int),cnt w (l++[v]) n=if v=w then IntKind.i64.wrap (cnt w l n+1)else cnt w l n
 |[],_=>rfl
 |x::l,n=>ZfG w v l _
theorem ZeF {x:Int} (h:0≤x∧x<1000000):IntKind.i64.wrap x=x:=Za8 x ⟨by omega,by omega⟩
theorem ZkU {ds:List Qf} (h:∀d∈ds,d.by_.length≤3):∀m,m≤ds.length→Yx ds m≤3^ m
 |0,_=>Nat.le_refl _
 |m+1,hm=>by
  unfold Yx
  rw[Nat.pow_succ]
  refine Nat.mul_le_mul (ZkU h m (by omega)) ?_
  unfold lenAt
  rw[List.getD_eq_getElem?_getD,List.getElem?_eq_getElem hm]
  exact h _ (List.getElem_mem hm)
theorem Zqu {t:Ze} (hw:ZG t):Z7 t≤729:=by
 have h:=ZkU (fun d hd=>(hw.d d hd).2.1) t.delays.length (Nat.le_refl _)
 have h2:3^ t.delays.length≤3^ 6:=Nat.pow_le_pow_right (by omega) hw.dlen
 exact Nat.le_trans h (Nat.le_trans h2 (by decide))
theorem ZfE (p:Nat→Bool):∀n,0≤QZ p n∧QZ p n≤n
 |0=>⟨Int.le_refl _,Int.le_refl _⟩
 |n+1=>by
  have:=ZfE p n
  unfold QZ
  split<;>omega
theorem ZoR (t:Ze) (f r st:Int):∀n,n≤729→cnt true (Zcg t f r st n) 0=QZ (Ym t f r st) n∧cnt false (Zcg t f r st n) 0=QZ (fun i=> !Ym t f r st i) n
 |0,_=>⟨rfl,rfl⟩
 |n+1,h=>by
  have ih:=ZoR t f r st n (by omega)
  have b1:=ZfE (Ym t f r st) n
  have b2:=ZfE (fun i=> !Ym t f r st i) n
  unfold Zcg
  rw[ZfG,ZfG,ih.1,ih.2,ZeF (by omega),ZeF (by omega)]
  have e1:∀p,QZ p (n+1)=if p n then QZ p n+1 else QZ p n:=fun _=>rfl
  rw[e1,e1]
  cases Ym t f r st n<;>exact⟨rfl,rfl⟩
theorem ZsO (t : Ze) (f r st : Int) (hw : ZG t) (hc : ZaX t f r st) : SC (fun _ => Tryz.prog) 97 [.iptr (ZU t) 0, .int .i64 fun _ => f, .int .i64 fun _ => r, .int .i64 fun _ => st] [.main] fun v h => v = .int .i64 (fun _ => Yl t f r st) ∧ h = [.main] := by
  obtain ⟨nt, hnt⟩ := Zr
  have h1 := hc.1
  have h2 := hc.2
  have hro1 := (Js hw.calls h1).2.2
  have hro2 := (Js hw.calls h2).2.2
  unfold StopIn at h1 h2
  rw [YI hnt] at h1 h2 hro1 hro2
  have k395 := ZqT (nt (List Sp.Call) [] (callsOf t) f) st (by omega)
  have k396 := ZsP (nt (List Sp.Call) [] (callsOf t) r) st (by omega)
  have hcl := hw.calls.len
  have kc := ZuC t f r st hw hc
  obtain ⟨hy, hn⟩ := ZoR t f r st (Z7 t) (Zqu hw)
  have hV : Yl t f r st = Zcy (QZ (Ym t f r st) (Z7 t)) (QZ (fun i => !Ym t f r st i) (Z7 t)) := rfl
  have k416 := ZuY (QZ (Ym t f r st) (Z7 t)) (QZ (fun i => !Ym t f r st i) (Z7 t))
  rw [← hV] at k416
  rw [YI hnt, YI hnt] at kc
  generalize Yl t f r st = V at *
  generalize QZ (Ym t f r st) (Z7 t) = CY at *
  generalize QZ (fun i => !Ym t f r st i) (Z7 t) = CN at *
  generalize Zcg t f r st (Z7 t) = KL at *
  unfold XW at kc
  unfold ZU at *
  simp only [Za hnt, Zb, Zz] at *
  generalize ZJ (nt (List Sp.Call) [] (callsOf t) f) st = fo at *
  generalize Zt (nt (List Sp.Call) [] (callsOf t) r) st = to at *
  refine SC.less (ZsI false false [] [2] false 1 Tryz.func97 (body := Zj Tryz.f97) rfl (by decide +kernel) rfl ?_)
  refine vS ?_
  repeat' first
    | (with_reducible refine Zmh.mk ?_ ?_)
    | (with_reducible refine Chk.mk (Qb) ?_)
    | (refine ZW k395 (by first | rfl | (simp only [Zc, Zd, Zg, Zb, Za hnt]; rfl)) fun r h₂ hp => ?_
       obtain ⟨rfl, rfl⟩ := hp
       refine vS ?_)
    | (refine ZW k396 (by first | rfl | (simp only [Zc, Zd, Zg, Zb, Za hnt]; rfl)) fun r h₂ hp => ?_
       obtain ⟨rfl, rfl⟩ := hp
       refine vS ?_)
  all_goals
    refine ZqA (p := fun _ => Tryz.prog) (dr := .both) (B := 4) ⟨rfl, rfl, rfl, rfl, rfl, rfl, rfl, rfl, rfl, ⟨_, rfl, rfl, rfl, rfl⟩, ⟨_, rfl, rfl, rfl, rfl⟩, ⟨_, rfl, rfl, rfl, rfl⟩, ⟨_, rfl, rfl, rfl, rfl⟩, ⟨_, rfl, rfl, rfl, rfl⟩, ⟨_, rfl, rfl, rfl, rfl⟩, ⟨_, rfl, rfl, rfl, rfl⟩, ⟨_, rfl, rfl, rfl, rfl⟩, ⟨_, rfl, rfl, rfl, rfl⟩, ⟨_, rfl, rfl, rfl, rfl⟩, ⟨_, rfl, rfl, rfl, rfl⟩, ⟨_, rfl, rfl, rfl, rfl⟩, ⟨_, rfl, rfl, rfl, rfl⟩, ⟨_, rfl, rfl, rfl, rfl⟩, ⟨_, rfl, rfl, rfl, rfl⟩, ⟨_, rfl, rfl, rfl, rfl⟩, ⟨_, rfl, rfl, rfl, rfl⟩, ⟨_, rfl, rfl, rfl, rfl⟩, ⟨_, rfl, rfl, rfl, rfl⟩⟩ (by kernel_rfl) (Zk0 (by kernel_rfl)) ((Zk0 (n := 1) (z := some (.bool false)) (by kernel_rfl)).imp fun i h => ⟨h.1, h.2.2⟩)
      Tryz.func151 rfl (by decide +kernel) rfl rfl rfl rfl rfl rfl kc ?_
    rw [hy, hn]
    refine Zd7 false false [] [] false ?_
    refine wS ?_
    refine ZW (k416) (by first | rfl | (simp only [Zc, Zd, Zg, Zb, Za hnt]; rfl)) fun r h₂ hp => ?_
    (try simp only [Zc, Zd, Zg, Zb, Za hnt] at hp)
    obtain ⟨rfl, rfl⟩ := hp
    refine wS ?_
    refine ⟨_, _, ?_, rfl, rfl⟩
    exact ZL
theorem PR.nilw {w:World} {ok:Nat→Nat→Nat→Prop} {s s':Nat} {m m':Unit→Int} {f f':(Unit→Int)→List AV} {v:Value} (h:PR w ok (.isl s m f .nil) v) (hm:m' ()=0):PR w ok (.isl s' m' f' .none) v:=by
 cases h with
 |isl0 _ _ _ _ hz h1=>exact .isl0 _ _ _ _ hm rfl
 |islE _ _ _ _ a hz h1=>exact .islE _ _ _ _ a hm (.inl rfl)
 |isl _ _ _ _ b o len cap us hn hc h1=>rcases h1 with h|h<;>cases h
theorem Zug (m:Int):SC (fun _=>Tryz.prog) 69 [.int .i64 fun _=>m] [] fun v h=>v=Zg (Z5 m)∧h=[]:=by
 obtain⟨nt,hnt⟩:=Zr
 have k1:=Zks 0 0 60
 have k2:=Zks 1 100 110
 have k3:=Zks 2 160 0
 have k4:=Zks 1 0 120
 have k5:=Zks 3 200 0
 have k6:=Zks 1 0 180
 have k7:=Zks 3 260 0
 refine SC.less (Qs Tryz.func69 (body:=Zj Tryz.f69) rfl (by decide+kernel) ?_)
 refine wS ?_
 refine ZoY (k1) ?_
 refine wS ?_
 refine ZoY (k2) ?_
 refine wS ?_
 refine ZoY (k3) ?_
 refine wS ?_
 refine ZoY (k4) ?_
 refine wS ?_
 refine ZoY (k5) ?_
 refine wS ?_
 refine ZoY (k6) ?_
 refine wS ?_
 refine ZoY (k7) ?_
 refine wS ?_
 refine⟨Zg (Z5 m),[],?_,rfl,rfl⟩
 unfold Zg
 simp only[Za hnt,encTrain,encZone,Zz]
 (refine To.of [] ?_;cbv;(try simp only[nc]);(repeat' (first|exact trivial|exact ZI.refl _|exact ZP.refl _|refine⟨?_,?_⟩|refine ZP.cells ?_|refine ZI.agg ?_|refine ZI.tup ?_));(all_goals (first|exact Yt|skip)))
 ·refine Zj1 hnt (fun z:Sp.Zone=>[.int .i64 fun _=>z.base,.isl 2 (fun _=>(z.chs.length:Int)) (fun e=>JG (nt Chg default z.chs (e ()))) .none]) default [⟨0,[]⟩] _ ?_ fun i hi=>?_
  ·rfl
  match i,hi with
  |0,_=>exact Y7.two fun w ok v h=>h.nilw rfl
 ·refine Zj1 hnt (fun t:Sp.Train=>[.int .i64 fun _=>t.number,.int .i64 fun _=>t.days,.isl 4 (fun _=>(t.stops.length:Int)) (fun e=>QD (nt Stop default t.stops (e ()))) .none]) default (Z5 m).book.old _ ?_ fun i hi=>?_
  ·rfl
  match i,hi with
  |0,_=>
   refine Y7.three fun w ok v h=>h.wk rfl (fun j hj=>?_) (.inl rfl)
   match j,hj with
   |0,_=>(rw[hnt];rfl)
   |1,_=>(rw[hnt];rfl)
   |2,_=>(rw[hnt];rfl)
   |j+3,hj=>exact absurd hj (by show¬((j+3:Nat):Int)<3;omega)
  |1,_=>
   refine Y7.three fun w ok v h=>h.wk rfl (fun j hj=>?_) (.inl rfl)
   match j,hj with
   |0,_=>(rw[hnt];rfl)
   |1,_=>(rw[hnt];rfl)
   |j+2,hj=>exact absurd hj (by show¬((j+2:Nat):Int)<2;omega)
  |2,_=>
   refine Y7.three fun w ok v h=>h.wk rfl (fun j hj=>?_) (.inl rfl)
   match j,hj with
   |0,_=>(rw[hnt];rfl)
   |1,_=>(rw[hnt];rfl)
   |j+2,hj=>exact absurd hj (by show¬((j+2:Nat):Int)<2;omega)
 ·refine Zj1 hnt (fun t:Sp.Qf=>[.int .i64 fun _=>t.run,.int .i64 fun _=>t.leg,.isl 1 (fun _=>(t.by_.length:Int)) (fun e=>XJ (nt Int 0 t.by_ (e ()))) .none]) default (Z5 m).delays _ ?_ fun i hi=>?_
  ·rfl
  match i,hi with
  |0,_=>
   refine Y7.three fun w ok v h=>h.wk rfl (fun j hj=>?_) (.inl rfl)
   match j,hj with
   |0,_=>(rw[hnt];rfl)
   |1,_=>(rw[hnt];rfl)
   |2,_=>(rw[hnt];rfl)
   |j+3,hj=>exact absurd hj (by show¬((j+3:Nat):Int)<3;omega)
theorem Zu7 (l:List Sp.ZfV) (hlen:l.length≤100000):SC (fun _=>Tryz.prog) 26 [lst 2 Jg default l,lst 2 Jg default l] [] fun v h=>v= .bool (fun _=>true)∧h=[]:=by
 obtain⟨nt,hnt⟩:=Zr
 refine Qs Tryz.func26 (body:=Zj Tryz.f26) rfl (by decide+kernel) ?_
 simp only[Za hnt]
 refine wS ?_
 refine Br.isF (by simp) ?_
 refine wS ?_
 refine ZV false false [] [0,1,5] [] (fun(i:Nat)=>[(5,.int .i64 fun _=>(i:Int))]) (fun _=>[]) (fun i=>i≤l.length) (fun i=>l.length-i+0) 0 (Nat.zero_le _) ?_ ?_
 ·exact ZL
 intro i hi
 refine wS ?_
 refine⟨fun hb=>?_,fun hb=>?_⟩
 ·simp only[decide_eq_true_eq]at hb
  refine wS ?_
  refine Br.isF (by simp) ?_
  refine wS ?_
  refine⟨i+1,by omega,by omega,?_⟩
  exact ZL
 ·(cbv;(try simp only[nc]at*);(try refine Chk.mk (Qb) ?_))
  (try first|exact⟨rfl,trivial⟩|exact⟨trivial,trivial⟩)
theorem Zbc (m:Int):Xj (Z5 m):=⟨⟨by show 1≤1000000;decide,by show 3≤1000000;decide,by show 0≤1000000;decide,fun z hz=>by simp only[Z5,List.mem_singleton]at hz;subst hz;decide,fun t ht=>by simp only[Z5,List.mem_cons,List.not_mem_nil,or_false]at ht;rcases ht with rfl|rfl|rfl<;>decide,fun t ht=>by cases ht⟩,by show 3≤1000000;decide,by show 1≤1000000;decide,by show 1≤1000000;decide,fun d hd=>by simp only[Z5,List.mem_singleton]at hd;subst hd;decide⟩
theorem Zvf:SC (fun _=>Tryz.prog) 17 [] [.main] fun v h=>v= .bool (fun _=>true)∧h=[.main]:=by
 obtain⟨nt,hnt⟩:=Zr
 have kt30:=Zug 30
 have kt15:=Zug 15
 have hw:∀t,Zm t=0→ZG t:=fun t h=>Q1 h
 have k1:=Zvd (Z5 30) 1 (Zbc 30) (hw _)
 have k2:=Zuh (Z5 15) 0 (Zbc 15) ZsO
 have k3:=Zu8 (Z5 15) ZiL (Zbc 15) (by decide) (hw _)
 have k4:=Zva (Z5 30) 0 (Zbc 30)
 have k5:=Zvb (Z5 15) ZlS 0 (Zbc 15) (by decide) (hw _)
 have hte:Jr (Z5 30) 1=0:=by
  unfold Jr
  rw[if_neg (fun h=>h ZsD.2)]
  rfl
 rw[hte,if_pos rfl,if_pos rfl,ZoC]at k1
 rw[ZlV]at k2
 rw[Zkb]at k3
 rw[ZoD.1]at k4
 rw[ZqI]at k5
 have kh:=Zuf
 have ki:=Zu6
 have ks:=Zu7 [⟨120,140⟩,⟨200,220⟩] (by decide)
 have kz:=c39 [0,1] [0,1] (by decide)
 have kp1:=ZsR 200 260
 have kp2:=ZsR 120 140
 have kp3:=ZsR 200 220
 generalize ZhK (Z5 30) 1=C at*
 generalize Z5 30=T30 at*
 generalize Z5 15=T15 at*
 generalize ZiL=H1 at*
 generalize ZlS=H2 at*
 unfold Zg XT Jg at*
 simp only[Za hnt,Zb,Zz,XQ]at*
 refine SC.less (Qs Tryz.func17 (body:=Zj Tryz.f17) rfl (by decide+kernel) ?_)
 refine wS ?_
 refine ZoY (kt30) ?_
 refine wS ?_
 refine ZoY (k1) ?_
 refine wS ?_
 refine ZoY (kt15) ?_
 refine wS ?_
 refine cL1 [0] (k2) fun r h₂ hp=>?_
 (try simp only[Zc,Zd,Zg,Zb,Za hnt]at hp)
 obtain⟨rfl,rfl⟩:=hp
 refine wS ?_
 refine ZoY (kt15) ?_
 refine wS ?_
 refine ZoY (kh) ?_
 refine wS ?_
 refine ZoY (k3) ?_
 refine wS ?_
 refine ZoY (kt30) ?_
 refine wS ?_
 refine ZoY (k4) ?_
 refine wS ?_
 refine ZoY (kt15) ?_
 refine wS ?_
 refine ZoY (ki) ?_
 refine wS ?_
 refine ZoY (k5) ?_
 refine vS ?_
 refine Chk.mk (by simp only[nc,QY,QX,Xd,QW,Cn.p,beq_self_eq_true,cond_true,imp_self,and_true,true_and];(repeat' (first|apply And.intro|intro _))<;>first|rfl|trivial|exact Or.inl rfl|decide|decide+kernel|(simp;done)) ?_
 repeat (first
  |(with_reducible refine Br.isT rfl ?_;refine vS ?_)
  |(with_reducible refine Chk.mk (by simp only[nc,QY,QX,Xd,QW,Cn.p,beq_self_eq_true,cond_true,imp_self,and_true,true_and];(repeat' (first|apply And.intro|intro _))<;>first|rfl|trivial|exact Or.inl rfl|decide|decide+kernel|(simp;done)) ?_))
 refine ZoY (kp1) ?_
 refine vS ?_
 repeat (first
  |(with_reducible refine Br.isT rfl ?_;refine vS ?_)
  |(with_reducible refine Chk.mk (by simp only[nc,QY,QX,Xd,QW,Cn.p,beq_self_eq_true,cond_true,imp_self,and_true,true_and];(repeat' (first|apply And.intro|intro _))<;>first|rfl|trivial|exact Or.inl rfl|decide|decide+kernel|(simp;done)) ?_))
 refine ZoY (kp2) ?_
 refine vS ?_
 repeat (first
  |(with_reducible refine Br.isT rfl ?_;refine vS ?_)
  |(with_reducible refine Chk.mk (by simp only[nc,QY,QX,Xd,QW,Cn.p,beq_self_eq_true,cond_true,imp_self,and_true,true_and];(repeat' (first|apply And.intro|intro _))<;>first|rfl|trivial|exact Or.inl rfl|decide|decide+kernel|(simp;done)) ?_))
 refine ZoY (kp3) ?_
 refine vS ?_
 repeat (first
  |(with_reducible refine Br.isT rfl ?_;refine vS ?_)
  |(with_reducible refine Chk.mk (by simp only[nc,QY,QX,Xd,QW,Cn.p,beq_self_eq_true,cond_true,imp_self,and_true,true_and];(repeat' (first|apply And.intro|intro _))<;>first|rfl|trivial|exact Or.inl rfl|decide|decide+kernel|(simp;done)) ?_))
 refine ZbC ks (by(refine To.of [] ?_;cbv;(try simp only[nc]);(repeat' (first|exact trivial|exact ZI.refl _|exact ZP.refl _|refine⟨?_,?_⟩|refine ZP.cells ?_|refine ZI.agg ?_|refine ZI.tup ?_));(all_goals (first|exact Yt|skip)));all_goals exact lit_nt hnt Jg default _ _ rfl) (by first|rfl|(simp only[Zc,Zd,Zg,Zb,Za hnt];rfl)) fun r h₂ hp=>?_
 obtain⟨rfl,rfl⟩:=hp
 refine vS ?_
 repeat (first
  |(with_reducible refine Br.isT rfl ?_;refine vS ?_)
  |(with_reducible refine Chk.mk (by simp only[nc,QY,QX,Xd,QW,Cn.p,beq_self_eq_true,cond_true,imp_self,and_true,true_and];(repeat' (first|apply And.intro|intro _))<;>first|rfl|trivial|exact Or.inl rfl|decide|decide+kernel|(simp;done)) ?_))
 refine ZbC (kz) (by(try simp only[Zc,Zd,Zg,Zb,Za hnt]);exact ZL) (by first|rfl|(simp only[Zc,Zd,Zg,Zb,Za hnt];rfl)) fun r h₂ hp=>?_
 (try simp only[Zc,Zd,Zg,Zb,Za hnt]at hp)
 obtain⟨rfl,rfl⟩:=hp
 refine vS ?_
 repeat (first
  |(with_reducible refine Br.isT rfl ?_;refine vS ?_)
  |(with_reducible refine Chk.mk (by simp only[nc,QY,QX,Xd,QW,Cn.p,beq_self_eq_true,cond_true,imp_self,and_true,true_and];(repeat' (first|apply And.intro|intro _))<;>first|rfl|trivial|exact Or.inl rfl|decide|decide+kernel|(simp;done)) ?_))
 refine⟨.bool fun _=>true,[.main],?_,rfl,rfl⟩
 (refine To.of [] ?_;cbv;(try simp only[nc]);(repeat' (first|exact trivial|exact ZI.refl _|exact ZP.refl _|refine⟨?_,?_⟩|refine ZP.cells ?_|refine ZI.agg ?_|refine ZI.tup ?_));(all_goals (first|exact Yt|skip)))
 all_goals exact .bool rfl
end Go.Proofs.YtjgpiclllehgmaaGreat.Vm
namespace Go.Proofs.YtjgpiclllehgmaaGreat.Vm
open Go Go.Proofs Sp
set_option maxRecDepth 100000
set_option maxHeartbeats 1600000
set_option maxHeartbeats 8000000
theorem Zg4 {t:Ze} (h:Zm t=0):Xj t:=by
 have hw:=Q1 h
 obtain⟨h1,h2,h3,h4,h5,h6⟩:=Zed h
 have hc:=ZbZ h1
 have hr:=hw.calls.len
 have hl:(callsOf t).length=t.runs.length:=by unfold callsOf;rw[List.length_map]
 exact⟨⟨by have:=hc.zlen;omega,by have:=hc.olen;omega,by have:=hc.nlen;omega,fun z hz=>by have:=(ZbF (hc.zones z hz)).2.2.1;omega,⟨fun t ht=>by have:=(hc.old t ht).len;omega,fun t ht=>by have:=(hc.new t ht).len;omega⟩⟩,by omega,by omega,by omega,fun d hd=>by have:=(hw.d d hd).2.1;omega⟩
attribute [local irreducible] Dn
end Go.Proofs.YtjgpiclllehgmaaGreat.Vm
namespace Go.Proofs.YtjgpiclllehgmaaGreat.Sp
open Vm
def Zc4 (t:Ze) (f r st:Int):Int×Int:=
 if Zm t≠0 then(0,Zm t)else if QB f 0 ((t.runs.length:Int)-1)=true then(0,3)else if QB r 0 ((t.runs.length:Int)-1)=true then(0,3)
 else if ZJ (Zk (callsOf t) f) st<0 then(0,3)else if Zt (Zk (callsOf t) r) st<0 then(0,3)else(Yl t f r st,0)
theorem ZqQ {t:Ze} {f r st:Int} (hf:0≤f∧f<(callsOf t).length) (hr:0≤r∧r<(callsOf t).length) (h1:¬ZJ (Zk (callsOf t) f) st<0) (h2:¬Zt (Zk (callsOf t) r) st<0):ZaX t f r st:=by
 have s1:=Yv (Zk (callsOf t) f) 1 st
 have s2:=Yv (Zk (callsOf t) r) 0 st
 refine⟨⟨hf.1,hf.2,by omega,by unfold ZJ;omega⟩,⟨hr.1,hr.2,by omega,?_⟩⟩
 unfold Zt at*
 split<;>omega
theorem Zoq {t:Ze} (he:Zm t=0) {f r st:Int} (h:ZaX t f r st):Zc4 t f r st=(Yl t f r st,0):=by
 have hl:(callsOf t).length=t.runs.length:=by unfold callsOf;rw[List.length_map]
 have o:∀q:Int,0≤q→q<(callsOf t).length→QB q 0 ((t.runs.length:Int)-1)=false:=fun q g1 g2=>by
  unfold QB Yu
  simp only[Bool.not_eq_false',Bool.and_eq_true,decide_eq_true_eq]
  omega
 unfold Zc4
 rw[if_neg (fun hn=>hn he),o _ h.1.1 h.1.2.1,if_neg Bool.false_ne_true,o _ h.2.1 h.2.2.1,if_neg Bool.false_ne_true,if_neg (by have:=h.1.2.2.1;omega),if_neg (by have:=h.2.2.2.1;omega)]
end Go.Proofs.YtjgpiclllehgmaaGreat.Sp
namespace Go.Proofs.YtjgpiclllehgmaaGreat.Vm
attribute [local irreducible] Dn
open Go Go.Proofs Sp
set_option maxRecDepth 100000
set_option maxHeartbeats 4000000
theorem Zvc (t:Ze) (f r st:Int) (hf:Xj t) (hw:Zm t=0→ZG t):SC (fun _=>Tryz.prog) 30 [Zg t,.int .i64 fun _=>f,.int .i64 fun _=>r,.int .i64 fun _=>st] [.main] fun v h=>v= .tup [.int .i64 fun _=>(Zc4 t f r st).1,.int .i64 fun _=>(Zc4 t f r st).2]∧h=[.main]:=by
 obtain⟨nt,hnt⟩:=Zr
 have k:=ZoW t hf
 by_cases hb:Zm t=0
 ·have hw:=hw hb
  have hrl:=hf.runs
  have hlen:(callsOf t).length=t.runs.length:=by unfold callsOf;rw[List.length_map]
  have k1:=ZbD f 0 ((t.runs.length:Int)-1)
  have k2:=ZbD r 0 ((t.runs.length:Int)-1)
  have hE:Zc4 t f r st=if QB f 0 ((t.runs.length:Int)-1)=true then(0,3)else if QB r 0 ((t.runs.length:Int)-1)=true then(0,3)else if ZJ (Sp.Zk (callsOf t) f) st<0 then(0,3)else if Zt (Sp.Zk (callsOf t) r) st<0 then(0,3)else(Yl t f r st,0):=by
   unfold Zc4
   rw[if_neg (fun hn=>hn hb)]
  have hci:=fun a b c d=>ZsO t f r st hw (ZqQ (t:=t) (f:=f) (r:=r) (st:=st) a b c d)
  have hmem:∀i:Int,QB i 0 ((t.runs.length:Int)-1)=false→(0≤i∧i<(callsOf t).length)∧(Sp.Zk (callsOf t) i).length≤4:=fun i h=>by
   have b:=Xg h
   refine⟨by omega,(hw.calls.row _ ?_).2⟩
   unfold Sp.Zk
   rw[List.getD_eq_getElem?_getD,List.getElem?_eq_getElem (by omega)]
   exact List.getElem_mem _
  have m1:=hmem f
  have m2:=hmem r
  rw[YI hnt]at m1 m2
  rw[YI hnt]at hci hE
  rw[YI hnt]at hci hE
  have k395:=fun h=>ZqT (nt (List Sp.Call) [] (callsOf t) f) st h
  have k396:=fun h=>ZsP (nt (List Sp.Call) [] (callsOf t) r) st h
  clear hmem
  unfold Qz at k
  rw[if_pos hb,hb]at k
  unfold ZU Zg at*
  simp only[Za hnt,Zb,Zz]at*
  generalize Zc4 t f r st=KR at*
  generalize QB f 0 ((t.runs.length:Int)-1)=b1 at*
  generalize QB r 0 ((t.runs.length:Int)-1)=b2 at*
  generalize ZJ (nt (List Sp.Call) [] (callsOf t) f) st=C at*
  generalize Zt (nt (List Sp.Call) [] (callsOf t) r) st=D at*
  generalize Yl t f r st=V at*
  refine SC.less (Qs Tryz.func30 (body:=Zj Tryz.f30) rfl (by decide+kernel) ?_)
  refine wS ?_
  refine ZoY (k) ?_
  refine wS ?_
  refine Br.isF rfl ?_
  refine wS ?_
  refine ZoY (k1) ?_
  refine wS ?_
  cases b1
  case true=>
   rw[if_pos rfl]at hE
   subst hE
   refine Br.isF rfl ?_
   refine vS ?_
   refine Chk.mk (by simp[nc,QY,QX,Xd,QW,Cn.p]) ?_
   refine Br.isF rfl ?_
   refine vS ?_
   refine Chk.mk (by simp[nc,QY,QX,Xd,QW,Cn.p]) ?_
   refine Br.isF rfl ?_
   refine wS ?_
   refine Br.isT rfl ?_
   refine wS ?_
   refine⟨_,_,?_,rfl,rfl⟩
   exact ZL
  rw[if_neg Bool.false_ne_true]at hE
  have m1:=m1 rfl
  refine Br.isT rfl ?_
  refine wS ?_
  refine ZoY (k2) ?_
  refine wS ?_
  cases b2
  case true=>
   rw[if_pos rfl]at hE
   subst hE
   refine Br.isF rfl ?_
   refine vS ?_
   refine Chk.mk (by simp[nc,QY,QX,Xd,QW,Cn.p]) ?_
   refine Br.isF rfl ?_
   refine wS ?_
   refine Br.isT rfl ?_
   refine wS ?_
   refine⟨_,_,?_,rfl,rfl⟩
   exact ZL
  rw[if_neg Bool.false_ne_true]at hE
  have m2:=m2 rfl
  have k395:=k395 (by omega)
  have k396:=k396 (by omega)
  have hci:=hci m1.1 m2.1
  refine Br.isT rfl ?_
  refine wS ?_
  refine ZoY (k395) ?_
  refine wS ?_
  by_cases hC:C<0
  ·rw[if_pos hC]at hE
   subst hE
   refine Br.isF (by simp[hC]) ?_
   refine wS ?_
   refine Br.isT (by simp[hC]) ?_
   refine wS ?_
   refine⟨_,_,?_,rfl,rfl⟩
   exact ZL
  rw[if_neg hC]at hE
  refine Br.isT (by simp[hC]) ?_
  refine wS ?_
  refine ZoY (k396) ?_
  refine wS ?_
  by_cases hD:D<0
  ·rw[if_pos hD]at hE
   subst hE
   refine Br.isT (by simp[hC,hD]) ?_
   refine wS ?_
   refine⟨_,_,?_,rfl,rfl⟩
   exact ZL
  rw[if_neg hD]at hE
  have hci:=hci hC hD
  subst hE
  refine Br.isF (by simp[hC,hD]) ?_
  refine wS ?_
  refine cL1 [0] (hci) fun r h₂ hp=>?_
  (try simp only[Zc,Zd,Zg,Zb,Za hnt]at hp)
  obtain⟨rfl,rfl⟩:=hp
  refine wS ?_
  refine⟨_,_,?_,rfl,rfl⟩
  exact ZL
 ·have hE:Zc4 t f r st=(0,Zm t):=by
   unfold Zc4
   rw[if_pos hb]
  rw[hE]
  unfold Qz at k
  rw[if_neg hb]at k
  generalize Zm t=e at*
  refine SC.less (Qs Tryz.func30 (body:=Zj Tryz.f30) rfl (by decide+kernel) ?_)
  unfold Zg at*
  simp only[Za hnt,Zb,Zz]at*
  refine wS ?_
  refine ZoY (k) ?_
  refine wS ?_
  refine⟨fun h=>?_,fun h=>?_⟩
  ·refine wS ?_
   refine⟨_,_,?_,rfl,rfl⟩
   exact ZL
  ·exact absurd (by simpa only[bne_eq_false_iff_eq]using h) hb
set_option maxHeartbeats 1600000
set_option maxHeartbeats 4000000
end Go.Proofs.YtjgpiclllehgmaaGreat.Vm
namespace Go.Proofs.YtjgpiclllehgmaaGreat.Vm
open Go Go.Proofs Sp
set_option maxRecDepth 100000
set_option maxHeartbeats 8000000
attribute [local irreducible] Dn
theorem Zqz {t:Ze} (he:Zm t=0) {f r st:Int} (h:ZaX t f r st):SC (fun _=>Tryz.prog) 30 [Zg t,.int .i64 fun _=>f,.int .i64 fun _=>r,.int .i64 fun _=>st] [.main] fun v h=>v= .tup [.int .i64 fun _=>Yl t f r st,.int .i64 fun _=>0]∧h=[.main]:=by
 have k:=Zvc t f r st (Zg4 he) (fun h=>Q1 h)
 rw[Zoq he h]at k
 exact k
theorem Zpl {t:Ze} (he:Zm t=0) {w n:Int} (hw:0≤w∧w<t.waits.length) (hn:0≤n∧n≤60):SC (fun _=>Tryz.prog) 43 [Zg t,.int .i64 fun _=>w,.int .i64 fun _=>n] [] fun v h=>v= .tup [Zg (Zv t w n),.int .i64 fun _=>0]∧h=[]:=by
 have k:=Zu9 t w n (Zg4 he)
 have e1:Qa t w=0:=by
  unfold Qa
  rw[if_pos he,JW hw.1 (by omega),if_neg Bool.false_ne_true]
 have e:Zeh t w n=(Zv t w n,0):=by
  unfold Zeh
  rw[if_neg (fun h=>h e1),JW hn.1 hn.2,if_neg Bool.false_ne_true]
 rw[e]at k
 exact k
theorem Zl2 {t:Ze} (he:Zm t=0) {w:Int} (hw:0≤w∧w<t.waits.length):∃n e:Int,SC (fun _=>Tryz.prog) 45 [Zg t,.int .i64 fun _=>w] [.main] (fun v h=>v= .tup [.int .i64 fun _=>n,.int .i64 fun _=>e]∧h=[.main])∧(e=0∨e=11)∧
  ∀m:Nat,m≤60→(Yl (Zv t w m) (waitAt t w).feeder (waitAt t w).train (waitAt t w).station==1)=(bif e==0 then decide (n≤(m:Int))else false):=by
 have k:=Zuh t w (Zg4 he) ZsO
 have e1:Qa t w=0:=by
  unfold Qa
  rw[if_pos he,JW hw.1 (by omega),if_neg Bool.false_ne_true]
 refine⟨_,_,k,?_,fun m hm=>?_⟩
 ·unfold YZ
  rw[if_neg (fun h=>h e1)]
  split
  ·exact .inl rfl
  ·exact .inr rfl
 ·have h:=Zko he hw hm
  unfold YZ
  rw[if_neg (fun h=>h e1)]
  cases hb:(Qp (QT t w) 0 61).2 with
  |true=>
   rw[if_pos rfl]
   rw[hb]at h
   by_cases h2:(Qp (QT t w) 0 61).1≤(m:Int)
   ·rw[h.2 ⟨rfl,h2⟩,decide_eq_true h2];rfl
   ·rw[decide_eq_false h2]
    show(_==_)=false
    rw[beq_eq_false_iff_ne]
    exact fun e=>h2 (h.1 e).2
  |false=>
   rw[if_neg Bool.false_ne_true]
   rw[hb]at h
   show(_==_)=false
   rw[beq_eq_false_iff_ne]
   exact fun e=>Bool.false_ne_true (h.1 e).1
theorem cL3 (l:List Nat) {f:FuncId} {xs ys:List AV} {h hc:List Zh} {Post Q:AV→List Zh→Prop} (H:SC (fun _=>Tryz.prog) f ys hc Q) (hq:∀ r h₂,Q r h₂→Post (ren (YK l h.length) 5 r) (back l h h₂)) (hn:l.Nodup:=by decide) (hl:∀ i∈l,i<h.length:=by simp) (hx:xs.map (Qr false l h 5)=ys:=by first|rfl|(simp only[Zc,Zd,Zg,Zb,Xi,Zi,Za hnt];rfl)) (hh:sel false l h=hc:=by first|rfl|(simp only[Zc,Zd,Zg,Zb,Xi,Zi,Za hnt];rfl)):SC (fun _=>Tryz.prog) f xs h Post:=ZO l H hn hl hx hh hq
theorem Zvg (l:List Int) (hl:(l.length:Int)≤9223372036854775807):SC (fun _=>Tryz.prog) 8 [lst 1 XJ 0 l] [.main] fun r _=>r= .bool fun _=>true:=by
 obtain⟨nt,hnt⟩:=Zr
 refine Qs Tryz.func8 (body:=Zj Tryz.f8) rfl (by decide+kernel) ?_
 refine wS ?_
 refine ZW (c14 l hl) (by first|rfl|(simp only[Zc,Zd,Zg,Zb,Xi,Zi,Za hnt];rfl)) fun r h₂ hp=>?_
 (try simp only[Zc,Zd,Zg,Zb,Xi,Zi,Za hnt]at hp)
 obtain⟨s,rfl,rfl⟩:=hp
 refine wS ?_
 refine cL3 [1] (Zve s 3 2 2 (by omega) (by omega) (by omega)) fun r h₂ hp=>?_
 (try simp only[Zc,Zd,Zg,Zb,Xi,Zi,Za hnt]at hp)
 obtain⟨t,s',ht,rfl,rfl⟩:=hp
 have he:=ht.1.begin
 have hw2:=ht.2.2.1
 have kE:=fun(i:Nat) (hi:i<t.waits.length)=>Zl2 he (w:=(i:Int)) ⟨by omega,by omega⟩
 have kW:=fun(i m:Nat) (hi:i<t.waits.length) (hm:m≤60)=>Zpl he (w:=(i:Int)) (n:=(m:Int)) ⟨by omega,by omega⟩ ⟨by omega,by omega⟩
 have kK:=fun(i m:Nat) (hi:i<t.waits.length) (hm:m≤60)=>Zqz (t:=Zv t (i:Int) (m:Int)) (Jp he (w:=(i:Int)) (n:=(m:Int)) ⟨by omega,by omega⟩) (ZcV he (w:=(i:Int)) ⟨by omega,by omega⟩)
 have hwl:∀i m:Nat,(Zv t (i:Int) (m:Int)).waits.length=t.waits.length:=fun i m=>by show(t.waits.set _ _).length=_;rw[List.length_set]
 have hwm:∀i m:Nat,i<t.waits.length→(nt Sp.QN default (Zv t (i:Int) (m:Int)).waits (i:Int)).minutes=(m:Int):=fun i m hi=>by
  rw[hnt]
  show(waitAt (Zv t (i:Int) (m:Int)) (i:Int)).minutes=_
  rw[Zgk ⟨by omega,by omega⟩]
 have hwa:∀i:Nat,waitAt t (i:Int)=nt Sp.QN default t.waits (i:Int):=fun i=>by rw[hnt];rfl
 simp only[hwa]at kE kK
 refine wS ?_
 refine ZV false false [] [3,4] [] (fun(i:Nat)=>[(4,.int .i64 fun _=>(i:Int))]) (fun _=>[]) (fun i=>i≤t.waits.length) (fun i=>t.waits.length-i+0) 0 (Nat.zero_le _) ?_ ?_
 ·exact ZL
 intro i hi
 have hi:i≤t.waits.length:=hi
 refine wS ?_
 refine⟨fun hb=>?_,fun hb=>?_⟩
 ·simp only[decide_eq_true_eq]at hb
  obtain⟨n,e,kE,he2,hV⟩:=kE i (by omega)
  have kW:=fun m=>kW i m (by omega)
  have kK:=fun m=>kK i m (by omega)
  have hwl:=hwl i
  have hwm:=fun m=>hwm i m (by omega)
  refine wS ?_
  refine cL3 [0] (kE) fun r h₂ hp=>?_
  (try simp only[Zc,Zd,Zg,Zb,Xi,Zi,Za hnt]at hp)
  obtain⟨rfl,rfl⟩:=hp
  refine wS ?_
  refine Br.isF (by rcases he2 with h|h<;>rw[h]<;>rfl) ?_
  refine wS ?_
  refine Zah fun Q hQ=>?_
  refine ZV false false [] [3,4,5,6,7] [] (fun(m:Nat)=>[(7,.int .i64 fun _=>(m:Int))]) (fun _=>[]) (fun m=>m≤61) (fun m=>61-m+0) 0 (Nat.zero_le _) ?_ ?_
  ·exact ZL
  intro m hm
  have hm:m≤61:=hm
  refine wS ?_
  refine⟨fun hb2=>?_,fun hb2=>?_⟩
  ·simp only[decide_eq_true_eq]at hb2
   have kW:=kW m (by omega)
   have kK:=kK m (by omega)
   have hV:=hV m (by omega)
   have hwl:=hwl m
   have hwm:=hwm m
   generalize Yl (Zv t (i:Int) (m:Int)) (nt Sp.QN default t.waits (i:Int)).feeder (nt Sp.QN default t.waits (i:Int)).train (nt Sp.QN default t.waits (i:Int)).station=V at*
   generalize Zv t (i:Int) (m:Int)=t2 at*
   refine wS ?_
   refine ZW (kW) (by first|rfl|(simp only[Zc,Zd,Zg,Zb,Xi,Zi,Za hnt];rfl)) fun r h₂ hp=>?_
   (try simp only[Zc,Zd,Zg,Zb,Xi,Zi,Za hnt]at hp)
   obtain⟨rfl,rfl⟩:=hp
   refine wS ?_
   refine Br.isF (by
    show(bif (bif (0:Int) !=0 then true else((t2.waits.length:Int) !=(t.waits.length:Int)))then true else((nt Sp.QN default t2.waits (i:Int)).minutes !=(m:Int)))=false
    rw[hwm,hwl]
    simp) ?_
   refine wS ?_
   refine cL3 [0] (kK) fun r h₂ hp=>?_
   (try simp only[Zc,Zd,Zg,Zb,Xi,Zi,Za hnt]at hp)
   obtain⟨rfl,rfl⟩:=hp
   refine wS ?_
   refine Br.isF (by
    show(bif (0:Int) !=0 then true else((V==1) !=(bif e==0 then decide (n≤(m:Int))else false)))=false
    rw[hV]
    simp) ?_
   refine wS ?_
   refine⟨m+1,by show m+1≤61;omega,by show 61-(m+1)+0<61-m+0;omega,?_⟩
   exact ZL
  ·refine wS ?_
   refine hQ _ _ _ ?_
   refine wS ?_
   refine⟨i+1,by show i+1≤_;omega,by show t.waits.length-(i+1)+0<t.waits.length-i+0;omega,?_⟩
   exact ZL
 ·refine wS ?_
  refine cL3 [0] (Zvf) fun r h₂ hp=>?_
  (try simp only[Zc,Zd,Zg,Zb,Xi,Zi,Za hnt]at hp)
  obtain⟨rfl,rfl⟩:=hp
  exact wZ
end Go.Proofs.YtjgpiclllehgmaaGreat.Vm
