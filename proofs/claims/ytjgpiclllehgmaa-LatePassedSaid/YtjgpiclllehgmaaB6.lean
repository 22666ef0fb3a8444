/- kept's channel, its goroutine and the answers: by hand, as one piece. -/
import Derived.Test.YtjgpiclllehgmaaB5
import Derived.Test.YtjgpiclllehgmaaB3
import Derived.Test.YtjgpiclllehgmaaB4
set_option linter.all false
namespace Go.Proofs.Ytjgpiclllehgmaa.Vm
open Go Go.Conc Go.Proofs Go.Proofs.Ytjgpiclllehgmaa.Conc1
section
variable {P:Program} {b:FB} {ds:List Deferred} {k:List Item} {cs:List Frame} {t:Array Value}
theorem Zke {cx:Option Nat} {ops:Array Oper} {i:Nat} {rest:List Nat} {d:Option Tmp} {op:Op} {v:Value} {nv:Next} {w w':World} (H:Zg2 ops i d op) (hd:∀c,op≠ .defer c) (hm:∀o:Oper,o.op=op→ZaF P (fun _=>False) (execOp (evT t) o))
  (hr:∀o:Oper,o.op=op→(execOp (evT t) o).run P w= .ok nv w') (hnv:nv= .value v∨(nv= .skip∧v=undef)):
  One P cx (ZaT (mkF b t ds (.inRegion ops (i::rest)::k)) cs w) (ZaT (mkF b (Zbt t d v) ds (.inRegion ops rest::k)) cs w'):=by
 obtain⟨o,ho,hop,hdst,hg⟩:=H.ok
 rw[←hdst]
 exact ZeP ho (by simp[Region.wanted,hg]) (fun c=>by rw[hop];exact hd c) (hm o hop) (hr o hop) hnv
theorem Zlk {ops:Array Oper} {rest:List Nat} {i d:Nat} {T:TypeId} {dr:ChanDir} {B:TypeId} {w:World} (H:Zg2 ops i (some d) (.makeChan T (.const (.int .i64 0)))) (hU:P.underlying T=some (.chan dr B)) (hB:∃i,P.info? B=some i):
  One P none (ZaT (mkF b t ds (.inRegion ops (i::rest)::k)) cs w) (ZaT (mkF b (Zbt t (some d) (.chan (some w.heap.size))) ds (.inRegion ops rest::k)) cs {w with heap:=w.heap.push (.chan 0 #[] false 0 0 false)}):=by
 obtain⟨o,ho,hop,hdst,hg⟩:=H.ok
 obtain⟨iB,hi⟩:=hB
 have hr:∀w:World,(execOp (evT t) o).runT P w #[]=(.ok (.value (.chan (some w.heap.size))) {w with heap:=w.heap.push (.chan 0 #[] false 0 0 false)}, #[]):=fun w=>by
  have e:execOp (evT t) o=(Instr.makeChan T (.int .i64 0)>>=fun x=>pure (.value x)):=by
   unfold execOp
   simp only[hop]
   rfl
  rw[e]
  unfold Instr.makeChan
  show(Sem.bind (Sem.bind (underlying T) _) _).runT P w #[]=_
  rw[Sem.runT_bind',Sem.runT_bind',Zjq hU]
  dsimp only
  rw[show∀f:TypeInfo→Sem Value,(typeInfo B>>=f)=Sem.bind (typeInfo B) f from fun _=>rfl,Sem.runT_bind',Zhn hi]
  dsimp only
  rw[if_neg (by simp[IntKind.max];decide)]
  rfl
 refine StepsC.main ?_
 refine .one (.head (.own ⟨Nat,Sem.new (.chan 0 #[] false 0 0 false) Sem.pure,fun n=>(mkF b (Zbt t (some d) (.chan (some n))) ds (.inRegion ops rest::k),cs),w.heap.size, #[],fun main w w' x es h=>?_,rfl,rfl,fun e he=>by simp at he⟩) (.refl _))
 have h:((.ok w.heap.size {w with heap:=w.heap.push (.chan 0 #[] false 0 0 false)}:Result Nat),(#[]:Array Event))=(.ok x w',es):=h
 simp only[Prod.mk.injEq,Result.ok.injEq]at h
 obtain⟨⟨rfl,rfl⟩,rfl⟩:=h
 have:=Zib (P:=P) (b:=b) (ds:=ds) (k:=k) (cs:=cs) (rest:=rest) ho hg (fun c=>by rw[hop];intro h;cases h) (hr w) main
 rw[hdst]at this
 exact this
theorem ZoL {α:Type} {A:Array α} {x y:α} {j:Nat} (h:j≠A.size):(A.push x)[j]? =(A.push y)[j]? :=by
 rw[Array.getElem?_push,Array.getElem?_push,if_neg h,if_neg h]
theorem VR.setCx {R:RC} {a:AV} {v:Value} (c:Option Nat) (h:VR R a v):VR {R with cx:=c} a v:=by
 induction h with
 |pure a v h=>exact .pure a v h
 |undef v=>exact .undef v
 |ptr id off h=>exact .ptr (R:={R with cx:=c}) id off h
 |own s n f id v h hp hn he=>exact .own s n f id v h hp hn he
 |aptr id s e off i h he=>exact .aptr (R:={R with cx:=c}) id s e off i h he
 |msl id s lo n c i len cap h hlo hn hc hle=>exact .msl (R:={R with cx:=_}) id s lo n c i len cap h hlo hn hc hle
 |gsl id n a l c h hn he hl=>exact .gsl id n a l c h hn he hl
 |gptr id s n e off a h hn he=>exact .gptr id s n e off a h hn he
 |nsub id e l a ll c us i h hv he hu hl=>exact .nsub id e l a ll c us i h hv he hu hl
 |nptr id s e k off us i b o l c j h hv he hu hk=>exact .nptr id s e k off us i b o l c j h hv he hu hk
 |lit s cs b o us hs h1 h2 h3 ih=>exact .lit s cs b o us hs h1 ih h3
 |map id h=>exact .map (R:={R with cx:=c}) id h
 |mit id h h0=>exact .mit (R:={R with cx:=c}) id h h0
 |fn f xs bs us vs ha hb h1 h2 ih1 ih2=>exact .fn f xs bs us vs ha hb ih1 ih2
 |yld id h=>exact .yld (R:={R with cx:=c}) id h
 |agg cs us ha h ih=>exact .agg cs us ha ih
 |tup cs us ha h ih=>exact .tup cs us ha ih
 |gd g a v h ih=>exact .gd g a v ih
 |ob g b v h1 h2=>exact .ob g b v h1 h2
structure KC (P:Program) (fid:FuncId) (xs:Nat→List AV) (L:List Bool):Prop where
 run:∀(ch:Nat) (R:RC) (vs:Array Value),HR (fun _ _ _=>True) R [.gob (.chq ch fun _=>[])]→R.cx=some ch→R.n0=1→Ze8 R (xs ch) vs→∀cs,∃t todo w' s r tm ts ty c,
  StepsC P (some ch) ⟨Frame.enter P fid vs .deferred,cs,R.w⟩ ⟨{mkF ⟨fid,true,none,[]⟩ t [ZmI ts ty c ch] todo with mode:=.returning},cs,w'⟩∧w'.heap[ch]? =some (.chan 0 (L.map Value.bool).toArray false s r tm)∧
  (∀b,b<R.w.heap.size→b≠ch→w'.heap[b]? =R.w.heap[b]?)∧R.w.heap.size≤w'.heap.size∧w'.os=R.w.os∧w'.tape=R.w.tape∧w'.output=R.w.output
def wCh (w:World) (v:Value) (T:TypeId) (f:Nat×Nat):World:={w with heap:=(w.heap.push (.chan 0 #[] false 0 0 false)).push (.cells #[v] T f)}
theorem Zof {w:World} {v:Value} {T:TypeId} {f:Nat×Nat} {b:Nat} (h:b<w.heap.size):(wCh w v T f).heap[b]? =w.heap[b]? :=by
 show((w.heap.push _).push _)[b]? =_
 rw[Array.getElem?_push,if_neg (by simp;omega),Array.getElem?_push,if_neg (by omega)]
theorem ZrO {w:World} {v:Value} {T:TypeId} {f:Nat×Nat}:(wCh w v T f).heap[w.heap.size]? =some (.chan 0 #[] false 0 0 false):=by
 show((w.heap.push _).push _)[w.heap.size]? =_
 rw[Array.getElem?_push,if_neg (by simp),Array.getElem?_push,if_pos rfl]
theorem Zg3 {w:World} {v:Value} {T:TypeId} {f:Nat×Nat}:(wCh w v T f).heap[w.heap.size+1]? =some (.cells #[v] T f):=by
 show((w.heap.push _).push _)[w.heap.size+1]? =_
 rw[Array.getElem?_push,if_pos (by simp)]
theorem ZfL {w:World} {v:Value} {T:TypeId} {f:Nat×Nat}:(wCh w v T f).heap.size=w.heap.size+2:=by
 show((w.heap.push _).push _).size=_
 simp
theorem Zhe {w:World} {v:Value} {T:TypeId} {f:Nat×Nat}:(wCh w v T f).cell? ⟨w.heap.size+1,0,none⟩=some v:=by
 unfold World.cell?
 rw[Zg3]
 rfl
theorem ZmK {w w':World} {b:Nat} (h:w'.heap[b]? =w.heap[b]?) (i:Nat):w'.cell? ⟨b,i,none⟩=w.cell? ⟨b,i,none⟩:=by
 unfold World.cell?
 simp only[h]
end
theorem ZrB {G:Nat→Nat→Nat→Prop} {R:RC} {h:List Blk} (H:HR G R h) (T:TypeId):∃R₃:RC,R₃.w=wCh R.w (.chan (some R.w.heap.size)) T (0,1)∧R₃.cx=some R.w.heap.size∧R₃.n0=1∧HR (fun _ _ _=>True) R₃ [.gob (.chq R.w.heap.size fun _=>[])]∧
  (∀k a v,VR R a v→VR R₃ (Zb6 true [] h k a) v)∧VR R₃ (.iptr [.cch R.w.heap.size] 0) (.pointer (some ⟨R.w.heap.size+1,0,none⟩)):=by
 obtain⟨R₂,acx,a0,a1,a2,a3,a4,a5,a6,a7,a8⟩:=H.sel (fz:=true) (ι:=[]) (fun _ _ _=>True) (fun _ _ _ _=>trivial) (fun _ _ _ _ _ _ _ _=>trivial) (fun _ _ _ _=>trivial) (fun _ _ _ _ _ _ _ _ _=>trivial) List.nodup_nil (fun i hi=>by cases hi) (fun _ _ _ _ _ _ _ _ _=>trivial) 0 (Nat.zero_le _) (fun _=>Nat.zero_le _)
 let n:=R.w.heap.size
 let R₃:RC:={R₂ with w:=wCh R.w (.chan (some n)) T (0,1),cx:=some n,m:=1,n0:=1,α:=fun _=>⟨n,0⟩,ok:=fun b _ _=>b<n+2∧b≠n}
 have hs:R₃.w.heap.size=n+2:=ZfL
 have hle:({R₂ with cx:=some n}:RC).le R₃:=by
  refine⟨by show R₂.m≤1;rw[a2];exact Nat.zero_le _,fun id hi=>?_,fun id hi=>?_,fun id hi=>?_,fun b o m hk=>?_,fun b o m hk j hj=>?_,fun b hk es clk e=>?_,rfl⟩
  ·have hi:id<R₂.m:=hi
   rw[a2]at hi
   exact absurd hi (Nat.not_lt_zero _)
  ·have hi:id<R₂.m:=hi
   rw[a2]at hi
   exact absurd hi (Nat.not_lt_zero _)
  ·have hi:id<R₂.m:=hi
   rw[a2]at hi
   exact absurd hi (Nat.not_lt_zero _)
  ·have:=((a6.okd b o m).1 hk).1
   rw[a1]at this
   exact⟨by show b<R.w.heap.size+2;omega,by show b≠R.w.heap.size;omega⟩
  ·have:=((a6.okd b o m).1 hk).1
   rw[a1]at this
   show(wCh R.w _ T (0,1)).cell? _=R₂.w.cell? _
   rw[a1]
   exact ZmK (Zof this) _
  ·have:=((a6.okd b 0 1).1 hk).1
   rw[a1]at this
   show(wCh R.w _ T (0,1)).heap[b]? =_
   rw[Zof this,←a1]
   exact e
 refine⟨R₃,rfl,rfl,rfl,⟨rfl,fun b o m=>?_,fun id blk hi=>?_,fun i j bi bj b hij hi hj=>?_,fun _ _ _ _ _ _ _ _=>trivial,fun _ _ _ _=>trivial,fun _ _ _ _ _ _ _ _=>trivial,Nat.le_refl 1⟩,fun k a v hv=>((a8 k a v hv).setCx (some n)).mono hle,.pure _ _ (.iptr _ _ _ _ (fun _=>.chan (some n)) (fun j c hj=>?_) (fun j c hj=>?_) ?_)⟩
 ·rw[hs]
  refine⟨fun hk=>⟨hk.1,trivial,fun id blk hi=>?_⟩,fun hk=>⟨hk.1,fun e=>?_⟩⟩
  ·cases id with
   |zero=>
    cases hi
    show¬n=b
    exact fun e=>hk.2 e.symm
   |succ id=>simp at hi
  ·exact hk.2.2 0 _ rfl (show n=b from e.symm)
 ·cases id with
  |zero=>
   cases hi
   exact⟨.chan 0 #[] false 0 0 false,ZrO,rfl,rfl,rfl,0,0,false,rfl⟩
  |succ id=>simp at hi
 ·cases i with
  |zero=>
   cases j with
   |zero=>exact absurd rfl hij
   |succ j=>simp at hj
  |succ i=>simp at hi
 ·cases j with
  |zero=>
   cases hj
   exact Zhe
  |succ j=>simp at hj
 ·cases j with
  |zero=>
   cases hj
   exact .cch n
  |succ j=>simp at hj
 ·exact⟨by show n+1<n+2;omega,by show n+1≠n;omega⟩
section
variable {P:Program} {b:FB} {ds:List Deferred} {k:List Item} {cs:List Frame} {t:Array Value}
variable {T I I':TypeId} {fid:FuncId} {o2 o3 o4 o5 o6 o7 o8 o9 o10:Array Oper}
theorem Zo6 {i2 i3:Nat} {X:Code} (HO:ZfJ T I I' fid o2 o3 o4 o5 o6 o7 o8 o9 o10) {dr:ChanDir} {B:TypeId} (hU:P.underlying T=some (.chan dr B)) (hT:∃i,P.info? T=some i∧i.size=1∧i.zero=some (.chan none)) (hB:∃i,P.info? B=some i) (hsz:t.size=51) (w:World):
  Steps P none (ZaT (mkF b t ds (.code (.region i2 o2 false):: .code (.seq (.region i3 o3 false) X)::k)) cs w)
   (ZaT (mkF b (Zbt (Zbt (Zbt t (some 37) (.chan (some w.heap.size))) (some 11) (.pointer (some ⟨w.heap.size+1,0,none⟩))) (some 38) (.func (.func fid) #[] #[.pointer (some ⟨w.heap.size+1,0,none⟩),t.getD 4 undef,t.getD 9 undef,t.getD 10 undef])) ds (.inRegion o3 [1]:: .code X::k)) cs (wCh w (.chan (some w.heap.size)) T (0,0))):=by
 obtain⟨iT,hi,hs,hz⟩:=hT
 refine .head ZfP ?_
 rw[HO.s2]
 refine .head (Zlk HO.a20 hU hB) ?_
 refine .head (Zke (nv:=.value (.pointer (some ⟨w.heap.size+1,0,none⟩))) (w':=wCh w (.chan none) T (0,0)) HO.a21 (fun _ h=>by cases h) (fun o ho=>?_) (fun o ho=>?_) (.inl rfl)) ?_
 ·unfold execOp
  simp only[ho]
  exact Zab (fun _=>ZiM) fun _ _=>Zaj
 ·have hzr:(zeroValue T).run P {w with heap:=w.heap.push (.chan 0 #[] false 0 0 false)}= .ok (.chan none) {w with heap:=w.heap.push (.chan 0 #[] false 0 0 false)}:=by
   have:=ZiC (w:={w with heap:=w.heap.push (.chan 0 #[] false 0 0 false)}) (es:= #[]) hi hz
   rw[Sem.runT_eq]at this
   exact congrArg Prod.fst this
  unfold execOp
  simp only[ho]
  simp only[Instr.alloc,Sem.run_bind,hzr,Result.andThen_ok,newVar,newRow,newObj,Value.cells]
  simp[Sem.run,wCh]
 refine .head (Zke (nv:=.skip) (v:=undef) (w':=wCh w (.chan (some w.heap.size)) T (0,0)) HO.a22 (fun _ h=>by cases h) (fun o ho=>?_) (fun o ho=>?_) (.inr ⟨rfl,rfl⟩)) ?_
 ·unfold execOp
  simp only[ho]
  exact Zab (fun _=>ZgN) fun _ _=>Zaj
 ·have e1:evT (Zbt (Zbt t (some 37) (.chan (some w.heap.size))) (some 11) (.pointer (some ⟨w.heap.size+1,0,none⟩))) (.tmp 11)= .pointer (some ⟨w.heap.size+1,0,none⟩):=Zb1 (by simp only[ZaK];omega)
  have e2:evT (Zbt (Zbt t (some 37) (.chan (some w.heap.size))) (some 11) (.pointer (some ⟨w.heap.size+1,0,none⟩))) (.tmp 37)= .chan (some w.heap.size):=(ZdP (by decide)).trans (Zb1 (by omega))
  unfold execOp
  simp only[ho,e1,e2]
  have hsr:(sizeOf T).run P (wCh w (.chan none) T (0,0))= .ok 1 (wCh w (.chan none) T (0,0)):=by
   have:=Zhn (w:=wCh w (.chan none) T (0,0)) (es:= #[]) hi
   rw[Sem.runT_eq]at this
   have h:=congrArg Prod.fst this
   unfold sizeOf
   have h:(typeInfo T).run P (wCh w (.chan none) T (0,0))= .ok iT (wCh w (.chan none) T (0,0)):=h
   rw[Sem.run_bind,h,Result.andThen_ok,hs]
   rfl
  simp only[Instr.storeAt,Instr.sureAddr,Sem.run_bind,Sem.run_pure,Result.andThen_ok,storeVar,hsr]
  rw[if_neg (by simp[Value.cells])]
  have hc:(wCh w (.chan none) T (0,0)).cell? (Addr.add ⟨w.heap.size+1,0,none⟩ 0)=some (.chan none):=Zhe
  have hfz:(wCh w (.chan none) T (0,0)).frozen? (Addr.add ⟨w.heap.size+1,0,none⟩ 0)=false:=by
   unfold World.frozen?
   rw[show(Addr.add ⟨w.heap.size+1,0,none⟩ 0).block=w.heap.size+1 from rfl,Zg3]
   simp
  have hset:(wCh w (.chan none) T (0,0)).setCell (Addr.add ⟨w.heap.size+1,0,none⟩ 0) (.chan (some w.heap.size))=wCh w (.chan (some w.heap.size)) T (0,0):=by
   unfold World.setCell wCh
   simp only[World.mk.injEq,and_true]
   apply Array.ext_getElem?
   intro j
   show(((w.heap.push _).push _).modify (w.heap.size+1) _)[j]? =_
   rw[Array.getElem?_modify]
   by_cases hj:w.heap.size+1=j
   ·subst hj
    rw[if_pos rfl,Array.getElem?_push,if_pos (by simp),Array.getElem?_push,if_pos (by simp)]
    rfl
   ·rw[if_neg hj]
    exact ZoL (by simpa using Ne.symm hj)
  simp[Value.cells,storeCells,store,Sem.run_bind,Sem.run,hc,hfz,hset]
 refine .head Zc5 (.head Zl5 (.head ZfP ?_))
 rw[HO.s3]
 refine .head (Zke (nv:=.value _) (v:=.func (.func fid) #[] #[.pointer (some ⟨w.heap.size+1,0,none⟩),t.getD 4 undef,t.getD 9 undef,t.getD 10 undef]) (w':=wCh w (.chan (some w.heap.size)) T (0,0)) HO.a30 (fun _ h=>by cases h) (fun o ho=>?_) (fun o ho=>?_) (.inl rfl)) (.refl _)
 ·unfold execOp
  simp only[ho]
  trivial
 ·have e1:(evT (Zbt (Zbt t (some 37) (.chan (some w.heap.size))) (some 11) (.pointer (some ⟨w.heap.size+1,0,none⟩)))) (.tmp 11)= .pointer (some ⟨w.heap.size+1,0,none⟩):=Zb1 (by simp only[ZaK];omega)
  have e2:(evT (Zbt (Zbt t (some 37) (.chan (some w.heap.size))) (some 11) (.pointer (some ⟨w.heap.size+1,0,none⟩)))) (.tmp 4)=t.getD 4 undef:=(ZdP (by decide)).trans (ZdP (by decide))
  have e3:(evT (Zbt (Zbt t (some 37) (.chan (some w.heap.size))) (some 11) (.pointer (some ⟨w.heap.size+1,0,none⟩)))) (.tmp 9)=t.getD 9 undef:=(ZdP (by decide)).trans (ZdP (by decide))
  have e4:(evT (Zbt (Zbt t (some 37) (.chan (some w.heap.size))) (some 11) (.pointer (some ⟨w.heap.size+1,0,none⟩)))) (.tmp 10)=t.getD 10 undef:=(ZdP (by decide)).trans (ZdP (by decide))
  unfold execOp
  have e0:∀u:Array Value,Zbt u none undef=u:=fun _=>rfl
  simp only[ho,Instr.makeFunc,List.map_toArray,List.map_cons,List.map_nil,e0,e1,e2,e3,e4]
  rfl
theorem Zny {fn:Func} {body:Code} (hf:P.funcs[fid]? =some fn) (hb:fn.body=some body) (hn:(fn.name== "runtime.NumGoroutine")=false) (vs:Array Value) (main:Bool) (w:World):
  stepG P main (G (Zgj P.funcs.size [{target:=.fn (.func fid) vs,args:= #[]}]) []) w= .go (G (Frame.enter P fid vs .deferred) [Zgj P.funcs.size []]) w:=by
 have hr:(invoke (.fn (.func fid) vs) #[]).run P w= .ok (.enter fid vs) w:=by
  have hn:¬fn.name= "runtime.NumGoroutine" :=by simpa using hn
  simp[invoke,callFunc,Sem.run_bind,program,Sem.run,hf,hb,hn]
 have he:(invoke (.fn (.func fid) vs) #[]).events P w #[]= #[]:=by
  have hn:¬fn.name= "runtime.NumGoroutine" :=by simpa using hn
  unfold invoke callFunc Sem.events
  simp only
  show((Sem.bind program _).runT P w #[]).2=_
  rw[Sem.runT_bind',show program.runT P w #[]=(.ok P w, #[])from rfl]
  simp only[hf,hb]
  simp[hn]
 simp[G,stepG,unwind,Zgj,callDeferred,hr,he,GStep.after,seen_none]
theorem ZtR {vs:Array Value} {X:Code} (HO:ZfJ T I I' fid o2 o3 o4 o5 o6 o7 o8 o9 o10) (h38:evT t (.tmp 38)= .func (.func fid) #[] vs):
  Zuw P (mkF b t ds (.inRegion o3 [1]:: .code X::k)) cs (mkF b t ds (.inRegion o3 []:: .code X::k)) (Zgj P.funcs.size [{target:=.fn (.func fid) vs,args:= #[]}]):=by
 obtain⟨o,ho,hop,hd,hg⟩:=HO.a31.ok
 intro w
 refine⟨#[],?_,fun e he=>by simp at he⟩
 have hf:(mkF b t ds (.inRegion o3 [1]:: .code X::k)).finish undef=mkF b t ds (.inRegion o3 []:: .code X::k):=by
  rw[ZbF,ho]
  show mkF b (Zbt t o.dst undef) ds _=_
  rw[hd]
  rfl
 have e:execOp (evT t) o=pure (.spawn {target:=.fn (.func fid) vs,args:= #[]}):=by
  unfold execOp
  simp only[hop,resolve,h38,Deferred.ofValue]
  simp
 rw[Zhh ho (by simp[Region.wanted,hg]) (fun c=>by rw[hop];intro h;cases h),e,←hf]
 unfold stepG.apply
 have hk:=b.not_early
 simp[GStep.after,G,mkF,seen_none,hk,Zgj]
end
section
variable {P:Program} {T I I':TypeId} {fid:FuncId} {o2 o3 o4 o5 o6 o7 o8 o9 o10:Array Oper}
theorem Zrf {b:FB} {ds:List Deferred} {k:List Item} {cs:List Frame} {t:Array Value} {w:World} {i6 i7 i8 i9 i10 b0 b1:Nat} (HO:ZfJ T I I' fid o2 o3 o4 o5 o6 o7 o8 o9 o10) (hsz:t.size=51):
  Steps P none (ZaT (got (mkF b t ds (atR i6 i7 i8 i9 i10 b0 b1 o6 o7 o8 o9 o10 k [0,1]),cs) false false).1 (got (mkF b t ds (atR i6 i7 i8 i9 i10 b0 b1 o6 o7 o8 o9 o10 k [0,1]),cs) false false).2 w)
   (ZaT (mkF b (Zbt (Zbt t (some 40) (.tuple #[.bool false,.bool false])) (some 41) (.bool false)) ds k) cs w):=by
 obtain⟨o,ho,hop,hd,hg⟩:=HO.a60.ok
 have e:got (mkF b t ds (atR i6 i7 i8 i9 i10 b0 b1 o6 o7 o8 o9 o10 k [0,1]),cs) false false=(mkF b (Zbt t (some 40) (.tuple #[.bool false,.bool false])) ds (atR i6 i7 i8 i9 i10 b0 b1 o6 o7 o8 o9 o10 k [1]),cs):=by
  unfold got atR
  rw[ZbF,ho]
  show(mkF b (Zbt _ o.dst _) ds _,cs)=_
  rw[hd]
 rw[e]
 have e40:evT (Zbt t (some 40) (.tuple #[.bool false,.bool false])) (.tmp 40)= .tuple #[.bool false,.bool false]:=Zb1 (by omega)
 unfold atR
 refine .head (Zke (nv:=.value _) (v:=.bool false) (w':=w) HO.a61 (fun _ h=>by cases h) (fun o ho=>?_) (fun o ho=>?_) (.inl rfl)) ?_
 ·rw[Zdw e40 rfl o ho]
  trivial
 ·rw[Zdw (v:=.bool false) e40 rfl o ho]
  rfl
 refine .head Zc5 (.head Zl5 (.head (Zor (v:=false) ?_) (.head (Zoq ?_) (.refl _))))
 ·rw[Zgm]
  exact Zb1 (by simp only[ZaK];omega)
 ·simp[exitTo]
theorem Zwd {R:RC} {t:Array Value} {y n:Int} (hsz:t.size=51) (h12:t.getD 12 undef= .int .i64 y) (h13:t.getD 13 undef= .int .i64 n):SL R (mkS 51 [(12,.int .i64 fun _=>y),(13,.int .i64 fun _=>n)]) t:=by
 refine⟨by rw[hsz];rfl,fun i a hi=>?_⟩
 by_cases e13:i=13
 ·subst e13
  have hi:some (AV.int .i64 fun _=>n)=some a:=hi
  cases hi
  rw[h13]
  exact .pure _ _ (.int _ _)
 by_cases e12:i=12
 ·subst e12
  have hi:some (AV.int .i64 fun _=>y)=some a:=hi
  cases hi
  rw[h12]
  exact .pure _ _ (.int _ _)
 have hi:(((List.replicate 51 AV.undef).set 12 (.int .i64 fun _=>y)).set 13 (.int .i64 fun _=>n))[i]? =some a:=hi
 rw[List.getElem?_set_ne (Ne.symm e13),List.getElem?_set_ne (Ne.symm e12),List.getElem?_replicate]at hi
 split at hi
 ·cases hi
  exact .undef _
 ·cases hi
theorem ZtQ {p:Unit→Program} {nb:Nat} {K:Ex→List AV→List Blk→Cd→Prop} {s:List AV} {h:List Blk} {i2 i3 i4 i5 i6 i7 i8 i9 i10 b0 b1:Nat} {x11:Code} (HO:ZfJ T I I' fid o2 o3 o4 o5 o6 o7 o8 o9 o10) {dr:ChanDir} {B:TypeId}
  (hU:(p ()).underlying T=some (.chan dr B)) (hT:∃i,(p ()).info? T=some i∧i.size=1∧i.zero=some (.chan none)) (hB:∃i,(p ()).info? B=some i∧i.zero=some (.bool false))
  {fn:Func} {body:Code} (hf:(p ()).funcs[fid]? =some fn) (hb:fn.body=some body) (hn:(fn.name== "runtime.NumGoroutine")=false) (hr:fn.results= #[]) (hlen:s.length=51) (hmain:h[0]? =some .main)
  {x4 x9 x10:AV} (h4:Zb6 true [] h 5 (s.getD 4 .undef)=x4) (h9:Zb6 true [] h 5 (s.getD 9 .undef)=x9) (h10:Zb6 true [] h 5 (s.getD 10 .undef)=x10) {L:List Bool} (child:KC (p ()) fid (fun ch=>[.iptr [.cch ch] 0,x4,x9,x10]) L)
  (rest:HP false nb p [.code x11] K (mkS 51 [(12,.int .i64 fun _=>cnt true L 0),(13,.int .i64 fun _=>cnt false L 0)]) h):
  HP false nb p [.code (.region i2 o2 false),.code (.seq (.region i3 o3 false) (.seq (.region i4 o4 false) (.seq (.seq (.region i5 o5 false) (.block b0 (.loop (lpB i6 i7 i8 i9 i10 b0 b1 o6 o7 o8 o9 o10)))) x11)))] K s h:=by
 refine⟨fun hK R₀ h₀ hnb R t hi hs b ds k cs hd=>?_⟩
 have hcx:R.cx=none:=hi.hr.blk 0 .main hmain
 have hsz:t.size=51:=hs.1.trans hlen
 have S1:=Zo6 (P:=p ()) (b:=b.1) (ds:=ds) (k:=k) (cs:=cs) (t:=t) (i2:=i2) (i3:=i3) (X:=.seq (.region i4 o4 false) (.seq (.seq (.region i5 o5 false) (.block b0 (.loop (lpB i6 i7 i8 i9 i10 b0 b1 o6 o7 o8 o9 o10)))) x11)) HO hU hT (hB.imp fun _ h=>h.1) hsz R.w
 generalize hvs:(#[.pointer (some ⟨R.w.heap.size+1,0,none⟩),t.getD 4 undef,t.getD 9 undef,t.getD 10 undef]:Array Value)=vs at S1
 generalize ht3:Zbt (Zbt (Zbt t (some 37) (.chan (some R.w.heap.size))) (some 11) (.pointer (some ⟨R.w.heap.size+1,0,none⟩))) (some 38) (.func (.func fid) #[] vs)=t3 at S1
 have hsz3:t3.size=51:=by rw[←ht3];simp only[ZaK];exact hsz
 have h38:evT t3 (.tmp 38)= .func (.func fid) #[] vs:=by rw[←ht3];exact Zb1 (by simp only[ZaK];omega)
 have h11:t3.getD 11 undef= .pointer (some ⟨R.w.heap.size+1,0,none⟩):=by rw[←ht3];exact(Zbq (by decide)).trans (ZcR (by simp only[ZaK];omega))
 have h37:t3.getD 37 undef= .chan (some R.w.heap.size):=by rw[←ht3];exact(Zbq (by decide)).trans ((Zbq (by decide)).trans (ZcR (by omega)))
 have hgo:=ZtR (P:=p ()) (b:=b.1) (ds:=ds) (k:=k) (cs:=cs) (X:=.seq (.region i4 o4 false) (.seq (.seq (.region i5 o5 false) (.block b0 (.loop (lpB i6 i7 i8 i9 i10 b0 b1 o6 o7 o8 o9 o10)))) x11)) HO h38
 obtain⟨hkf,hE⟩:=Zo7 (P:=p ()) (ch:=R.w.heap.size) (cell:=R.w.heap.size+1) (b:=b.1) (ds:=ds) (k:=k) (cs:=cs) HO hU hB (t:=t3) (by omega) h11 h37 rfl hgo
 obtain⟨R₃,r1,r2,r3,r4,r5,r6⟩:=ZrB hi.hr T
 have hrow:Ze8 R₃ [.iptr [.cch R.w.heap.size] 0,x4,x9,x10] vs:=by
  subst hvs
  refine⟨rfl,fun j c hj=>?_⟩
  match j,hj with
  |0,hj=>cases hj;exact r6
  |1,hj=>
   cases hj
   rw[←h4]
   exact r5 5 _ _ (hs.getD 4)
  |2,hj=>
   cases hj
   rw[←h9]
   exact r5 5 _ _ (hs.getD 9)
  |3,hj=>
   cases hj
   rw[←h10]
   exact r5 5 _ _ (hs.getD 10)
  |j+4,hj=>simp at hj
 obtain⟨tc,todo,wc,sc,rc,tmc,ts,ty,c,g1,g2,g3,g4,g5,g6,g7⟩:=child.run R.w.heap.size R₃ vs r4 r2 r3 hrow [Zgj (p ()).funcs.size []]
 rw[r1]at g1 g3 g4 g5 g6 g7
 have hFz:Fz (R.w.heap.size+1) (wCh R.w (.chan (some R.w.heap.size)) T (0,1)) (wCh R.w (.chan (some R.w.heap.size)) T (0,0)):=by
  refine⟨rfl,rfl,rfl,rfl,by rw[ZfL,ZfL],fun j hj=>?_,_,T,(0,0),Zg3,Zg3⟩
  exact ZoL (by simpa using hj)
 obtain⟨w',hw',S2⟩:=Zri (P:=p ()) hkf hgo hE ZrO Zhe (by omega) (fun main w=>Zny hf hb hn vs main w) hFz g1 g2 (ZrD hf hr)
 have S3:=Zrf (P:=p ()) (b:=b.1) (ds:=ds) (k:=.code x11::k) (cs:=cs) (t:=L.foldl stp (st0 R.w.heap.size t3)) (w:=w'.setChan R.w.heap.size 0 #[] true sc sc tmc) (i6:=i6) (i7:=i7) (i8:=i8) (i9:=i9) (i10:=i10) (b0:=b0) (b1:=b1) HO ((ZlA (by omega) h11 L).size.trans hsz3)
 have hst:=ZlA (ch:=R.w.heap.size) (cell:=R.w.heap.size+1) (t:=t3) (by omega) h11 L
 generalize htz:Zbt (Zbt (L.foldl stp (st0 R.w.heap.size t3)) (some 40) (.tuple #[.bool false,.bool false])) (some 41) (.bool false)=tz at S3
 have hszz:tz.size=51:=by rw[←htz];simp only[ZaK];exact hst.size.trans hsz3
 have hz12:tz.getD 12 undef= .int .i64 (cnt true L 0):=by rw[←htz];exact(Zbq (by decide)).trans ((Zbq (by decide)).trans hst.c12)
 have hz13:tz.getD 13 undef= .int .i64 (cnt false L 0):=by rw[←htz];exact(Zbq (by decide)).trans ((Zbq (by decide)).trans hst.c13)
 generalize hwz:w'.setChan R.w.heap.size 0 #[] true sc sc tmc=wz at S2 S3
 have hheap:∀b,b<R.w.heap.size→wz.heap[b]? =R.w.heap[b]? :=fun b hb=>by
  rw[←hwz]
  show(w'.heap.setIfInBounds R.w.heap.size _)[b]? =_
  rw[Array.getElem?_setIfInBounds_ne (by omega),hw'.ne b (by omega)]
  exact(g3 b (by rw[ZfL];omega) (by omega)).trans (Zof hb)
 have hsize:R.w.heap.size≤wz.heap.size:=by
  rw[←hwz]
  show _≤(w'.heap.setIfInBounds R.w.heap.size _).size
  rw[Array.size_setIfInBounds,hw'.size]
  rw[ZfL]at g4
  exact Nat.le_trans (by omega) g4
 have hos:wz.os=R.w.os:=by rw[←hwz];exact hw'.os.trans g5
 have htape:wz.tape=R.w.tape:=by rw[←hwz];exact hw'.tape.trans g6
 have hout:wz.output=R.w.output:=by rw[←hwz];exact hw'.output.trans g7
 let R':RC:={R with w:=wz,ok:=fun b o n=>b<wz.heap.size∧Gof R₀ h₀ b o n∧Zj5 R h b o n}
 have hok:∀b o n,R.ok b o n→R'.ok b o n:=fun b o n k=>by
  obtain⟨h1,h2,h3⟩:=(hi.hr.okd _ _ _).1 k
  exact⟨by omega,h2,h3⟩
 have hkeep:∀b o n,R.ok b o n→∀j,j<n→R'.w.cell? ⟨b,o+j,none⟩=R.w.cell? ⟨b,o+j,none⟩:=fun b o n k j hj=>ZmK (hheap b ((hi.hr.okd _ _ _).1 k).1) _
 have hle:R.le R':=⟨Nat.le_refl _,fun _ _=>rfl,fun _ _=>⟨Int.le_refl _,fun _=>rfl⟩,fun _ _=>.refl _,hok,hkeep,fun b k es clk e=>(hheap b ((hi.hr.okd _ _ _).1 k).1).trans e,rfl⟩
 have hH:HR (Gof R₀ h₀) R' h:=⟨hi.hr.len,fun _ _ _=>Iff.rfl,fun id blk hid=>(hi.hr.blk id blk hid).mono hle rfl rfl rfl rfl fun b hp=>hheap b (hi.hr.phys_lt hid hp),hi.hr.dis,hi.hr.cl,fun b o n hb=>hi.hr.fresh b o n (Nat.le_trans hsize hb),hi.hr.tokG,hi.hr.n0m⟩
 have hx:Ext R h R' h:=⟨rfl,hos,htape,hout,hsize,Nat.le_refl _,fun _ _=>rfl,hok,hkeep,fun b hb _=>hheap b hb,fun id blk b hid hp=>.inr ⟨id,blk,hid,hp,.inl rfl⟩⟩
 have hi':Inv R₀ h₀ R' h:=hi.step hH hx hle
 obtain⟨e,s',h',R'',t',ds',a1,a2,a5,a6,a7,a8⟩:=rest.run hK R₀ h₀ hnb R' tz hi' (Zwd hszz hz12 hz13) b ds k cs (hd.ext hi.hr hx)
 refine⟨e,s',h',R'',t',ds',a1,a2,a5,a6,a7,?_⟩
 have hcx':R'.cx=none:=hcx
 rw[hcx']at a8
 rw[hcx]
 exact Arr.of_steps (Steps.trans S1 (Steps.trans S2 S3)) a8
end
end Go.Proofs.Ytjgpiclllehgmaa.Vm
namespace Go.Proofs.Ytjgpiclllehgmaa.Vm
open Go Go.Conc Go.Proofs Go.Proofs.Ytjgpiclllehgmaa.Conc1
def Zr7 (ch:Nat) (L:List Bool) (e:Ex) (s:List AV) (h:List Blk) (c:Cd):Prop:=match e with
 |.exit _=>False
 |_=>chk c (∃h2,h= .gob (.chq ch fun _=>L)::h2)
theorem Zk1 {ch:Nat} {L:List Bool} {e:Ex} {s:List AV} {h:List Blk} {c:Cd} (H:Zr7 ch L e s h c):Zbf c∧(∀id,e≠ .exit id)∧∃h2,h= .gob (.chq ch fun _=>L)::h2:=by
 cases e with
 |exit id=>exact H.elim
 |normal=>exact⟨(ZaX H).1,(fun _ h=>by cases h),(ZaX H).2⟩
 |ret=>exact⟨(ZaX H).1,(fun _ h=>by cases h),(ZaX H).2⟩
theorem Zkj {P:Program} {T:TypeId} {dr:ChanDir} {B:TypeId} {w:World} {a:Addr} {v:Value} (hU:P.underlying T=some (.chan dr B)) (hw:w.cell? a=some v):(Instr.loadAt T (.pointer (some a))).run P w= .ok v w:=by
 have h1:(isAgg T).run P w= .ok false w:=by
  unfold isAgg
  have:=Zjq (w:=w) (es:= #[]) hU
  rw[Sem.runT_eq]at this
  have h:(underlying T).run P w= .ok (.chan dr B) w:=congrArg Prod.fst this
  rw[Sem.run_bind,h,Result.andThen_ok]
  rfl
 simp only[Instr.loadAt,Instr.sureAddr,Sem.run_bind,Sem.run_pure,Result.andThen_ok,loadVar,h1,Bool.false_eq_true,if_false]
 simp[load,Sem.run,hw]
theorem ZrA {p:Unit→Program} {fid:FuncId} {fn:Func} {i0:Nat} {o0:Array Oper} {x1:Code} {T:TypeId} {dr:ChanDir} {B:TypeId} {ts:Array TypeId} {L:List Bool} {ys:List AV} (hf:(p ()).funcs[fid]? =some fn) (hb:fn.body=some (.seq (.region i0 o0 false) x1)) (hs0:List.range o0.size=[0,1])
  (a0:Zg2 o0 0 (some 6) (.load T (.tmp 0))) (a1:Zg2 o0 1 none (.defer {callee:=.builtin .close,args:= #[.tmp 6],argTypes:=ts})) (hU:(p ()).underlying T=some (.chan dr B)) (hnt:6<fn.ntmps)
  (H:∀ch,HP false 1 p [.code x1] (Zr7 ch L) ((entry fn.ntmps (.iptr [.cch ch] 0::ys)).set 6 (.cch ch)) [.gob (.chq ch fun _=>[])]):KC (p ()) fid (fun ch=>.iptr [.cch ch] 0::ys) L:=by
 refine⟨fun ch R vs HH hcx hn0 ha cs=>?_⟩
 obtain⟨ha1,ha2⟩:=ha
 have hfr:Frame.enter (p ()) fid vs .deferred=mkF ⟨fid,true,none,[]⟩ (vs++Array.replicate (fn.ntmps-vs.size) undef) [] [.code (.seq (.region i0 o0 false) x1)]:=by
  simp[Frame.enter,mkF,FB.kind,hf,hb]
 have hsl:SL R (entry fn.ntmps (.iptr [.cch ch] 0::ys)) (vs++Array.replicate (fn.ntmps-vs.size) undef):=by
  refine⟨by simp[entry,←ha1];omega,fun i a hi=>?_⟩
  rw[entry,List.getElem?_append]at hi
  split at hi
  ·rename_i hlt
   have:=ha2 i a hi
   rw[Array.getD_eq_getD_getElem?]at this⊢
   rw[Array.getElem?_append_left (by omega)]
   exact this
  ·rw[List.getElem?_replicate]at hi
   split at hi
   ·cases hi
    exact .undef _
   ·cases hi
 generalize ht:vs++Array.replicate (fn.ntmps-vs.size) undef=t at hfr hsl
 have hv0:∃a:Addr,t.getD 0 undef= .pointer (some a)∧R.w.cell? a=some (.chan (some ch)):=by
  have h0:=hsl.getD 0
  have h0:VR R (.iptr [.cch ch] 0) (t.getD 0 undef):=h0
  generalize t.getD 0 undef=v at h0
  cases h0 with
  |pure _ _ hp=>
   cases hp with
   |iptr _ _ b o us h1 h2 h3=>
    have e:=h1 0 _ rfl
    have e2:=h2 0 _ rfl
    refine⟨_,rfl,?_⟩
    cases hu:us 0 with
    |chan c=>
     rw[hu]at e2 e
     cases e2
     exact e
    |_=>rw[hu]at e2;cases e2
 obtain⟨a,hv0,hcell⟩:=hv0
 have hsz:6<t.size:=by
  have:=hsl.1
  rw[this]
  simp only[entry,List.length_append,List.length_replicate]
  omega
 have hno:(⟨fid,true,none,[]⟩:FB).roundOf=none:=rfl
 obtain⟨o,ho,hop,hdst,hg⟩:=a1.ok
 let t1:=Zbt t (some 6) (.chan (some ch))
 let D:=ZmI ts o.type #[false] ch
 have S0:StepsC (p ()) (some ch) (ZaT (mkF ⟨fid,true,none,[]⟩ t [] [.code (.seq (.region i0 o0 false) x1)]) cs R.w) (ZaT (mkF ⟨fid,true,none,[]⟩ t1 [] [.inRegion o0 [1],.code x1]) cs R.w):=by
  refine .head Zl5 (.head ZfP ?_)
  rw[hs0]
  refine .one (Zke (nv:=.value _) (v:=.chan (some ch)) (w':=R.w) a0 (fun _ h=>by cases h) (fun o ho=>?_) (fun o ho=>?_) (.inl rfl))
  ·unfold execOp
   simp only[ho]
   exact Zab (fun _=>ZhC) fun _ _=>Zaj
  ·have e:evT t (.tmp 0)= .pointer (some a):=hv0
   unfold execOp
   simp only[ho,e,Sem.run_bind,Zkj hU hcell,Result.andThen_ok,Sem.run_pure]
 have S1:One (p ()) (some ch) (ZaT (mkF ⟨fid,true,none,[]⟩ t1 [] [.inRegion o0 [1],.code x1]) cs R.w) (ZaT (mkF ⟨fid,true,none,[]⟩ t1 [D] [.inRegion o0 [],.code x1]) cs R.w):=by
  refine ZbH fun main w=>?_
  have e6:evT t1 (.tmp 6)= .chan (some ch):=Zb1 hsz
  have e:execOp (evT t1) o=pure (.defer D):=by
   unfold execOp
   simp only[hop,resolve,List.map_toArray,List.map_cons,List.map_nil,e6]
   rfl
  have hop2:(mkF ⟨fid,true,none,[]⟩ t1 [] [.inRegion o0 [1],.code x1]).oper?=some o:=by simp[Frame.oper?,mkF,ho]
  have he:(mkF ⟨fid,true,none,[]⟩ t1 [] [.inRegion o0 [1],.code x1]).eval=evT t1:=Zgm _
  have h2:stepG (p ()) main (G (mkF ⟨fid,true,none,[]⟩ t1 [] [.inRegion o0 [1],.code x1]) cs) w=stepG.oper (p ()) true (mkF ⟨fid,true,none,[]⟩ t1 [] [.inRegion o0 [1],.code x1]) cs none w:=by
   simp[stepG,stepG.exec,mkF,G,ho,Region.wanted,hg]
  rw[h2]
  unfold stepG.oper
  simp only[hop2,he,e]
  unfold stepG.apply
  have hk:(mkF ⟨fid,true,none,[]⟩ t1 [D] [.inRegion o0 [1],.code x1]).finish undef=mkF ⟨fid,true,none,[]⟩ t1 [D] [.inRegion o0 [],.code x1]:=by
   rw[ZbF,ho]
   show mkF _ (Zbt t1 o.dst undef) _ _=_
   rw[hdst]
   rfl
  rw[←hk]
  simp[GStep.after,G,mkF,seen_none,FB.kind]
 have S2:One (p ()) (some ch) (ZaT (mkF ⟨fid,true,none,[]⟩ t1 [D] [.inRegion o0 [],.code x1]) cs R.w) (ZaT (mkF ⟨fid,true,none,[D]⟩ t1 [D] ([.code x1]++[])) cs R.w):=Zc5
 have hn0':([.gob (.chq ch fun _=>[])]:List Blk).length≤R.n0:=by rw[hn0];exact Nat.le_refl 1
 have hsl1:SL R ((entry fn.ntmps (.iptr [.cch ch] 0::ys)).set 6 (.cch ch)) t1:=hsl.set (.pure _ _ (.cch ch)) 6
 obtain⟨e,s',h',R',t',ds',⟨c,hk⟩,hi,hs,hd,_,hA⟩:=(H ch).run (fun e s h c hk=>(Zk1 hk).1) R [.gob (.chq ch fun _=>[])] (by rw[hn0];exact Nat.le_refl 1) R t1 (Inv.refl HH hn0') hsl1 ⟨⟨fid,true,none,[D]⟩,fun _=>rfl⟩ [D] [] cs ⟨[],rfl,List.nodup_nil,fun r hr=>by cases hr⟩
 obtain⟨hc,hne,h2,rfl⟩:=Zk1 hk
 rw[hcx]at hA
 have hret:∃todo,Steps (p ()) (some ch) (ZaT (mkF ⟨fid,true,none,[D]⟩ t1 [D] ([.code x1]++[])) cs R.w) (ZaT {mkF ⟨fid,true,none,[D]⟩ t' ds' todo with mode:=.returning} cs R'.w):=by
  cases e with
  |exit id=>exact absurd rfl (hne id)
  |normal=>exact⟨[],Steps.trans hA (.one (ZrS rfl))⟩
  |ret=>
   obtain⟨todo,hA⟩:=hA
   exact⟨.code .ret::todo,Steps.trans hA (.one (ZrR rfl))⟩
 obtain⟨todo,hst⟩:=hret
 obtain⟨rs,rfl,hnd,hrs⟩:=hd
 obtain⟨R2,hi2,hle2,hst2⟩:=Zgg (P:=p ()) (b:=⟨fid,true,none,[D]⟩) (base:=[D]) (t:=t') (todo:=todo) (cs:=cs) rs R' hnd hi hrs
 have hcx2:R'.cx=some ch:=hi.le.cx.trans hcx
 rw[hcx2]at hst2
 obtain⟨ob,hob,_,hq,_,sN,rN,tmN,rfl⟩:=hi2.hr.blk 0 _ rfl
 have hα:(R2.α 0).b=(R.α 0).b:=by
  have:R2.α 0=R.α 0:=hi2.le.α 0 (by rw[←HH.len];exact Nat.zero_lt_one)
  rw[this]
 refine⟨t',todo,R2.w,sN,rN,tmN,ts,o.type, #[false],?_,?_,fun b hb hne=>?_,hi2.ext.size,hi2.ext.os,hi2.ext.tape,hi2.ext.output⟩
 ·rw[hfr]
  exact S0.trans (.head S1 (.head S2 (hst.trans hst2)))
 ·rw[←hq]
  exact hob
 ·refine hi2.ext.frame b hb fun id blk hid hp=>?_
  cases id with
  |zero=>
   cases hid
   have hp:(R.α 0).b=b:=hp
   rw[←hα,hq]at hp
   exact hne hp.symm
  |succ id=>simp at hid
end Go.Proofs.Ytjgpiclllehgmaa.Vm
namespace Go.Proofs.Ytjgpiclllehgmaa.Vm
attribute [local irreducible] Dn
open Go Go.Proofs Sp
set_option maxRecDepth 100000
set_option maxHeartbeats 4000000
def Zio (t:Zad) (f r st:Int):Nat→List Bool
 |0=>[]
 |i+1=>Zio t f r st i++[ZeB t f r st i]
theorem ZxO (t:Zad) (f r st:Int) (hw:Zay t) (hc:Zja t f r st):KC Try.prog 75 (fun ch=>.iptr [.cch ch] 0::[Zdy t,.iptr [.int .i64 fun _=>f,.int .i64 fun _=>ZaI (Sp.Zap (callsOf t) f) st] 0,.iptr [.int .i64 fun _=>r,.int .i64 fun _=>ZaR (Sp.Zap (callsOf t) r) st] 0]) (Zio t f r st (Za9 t)):=by
 obtain⟨nt,hnt⟩:=Zat
 have k382:=Zv0 t
 have k435:=fun B0 B1 B2 B3 B4 B5 stop=>ZvZ t hw B0 B1 B2 B3 B4 B5 stop
 have hl1:=fun x=> @ZeC t x _ _ hc.1
 have hl2:=fun x=> @ZeC t x _ _ hc.2
 have hkb:∀i,ZeB t f r st i=decide ((Za0 t (Zai t i) f (ZaI (Sp.Zap (callsOf t) f) st)).comes≤(Za0 t (Zai t i) r (ZaR (Sp.Zap (callsOf t) r) st)).goes):=fun _=>rfl
 have hL0:Zio t f r st 0=[]:=rfl
 have hLS:∀i,Zio t f r st (i+1)=Zio t f r st i++[ZeB t f r st i]:=fun _=>rfl
 generalize Zio t f r st=KL at*
 generalize ZeB t f r st=KB at*
 generalize ZaI (Sp.Zap (callsOf t) f) st=fo at*
 generalize ZaR (Sp.Zap (callsOf t) r) st=to at*
 generalize Za0 t=HH at*
 generalize Zai t=TA at*
 generalize Za7 t=HL at*
 refine ZrA (p:=fun _=>Try.prog) (dr:=.both) (B:=4) Try.func75 (show Try.f75.body=_ from rfl) rfl ⟨_,rfl,rfl,rfl,rfl⟩ ⟨_,rfl,rfl,rfl,rfl⟩ (by kernel_rfl) (by decide) fun ch=>?_
 unfold Zdy Za1 at*
 simp only[Zaa hnt,Zac,Zaz]at*
 refine ZkO false false [] [] false ?_
 refine wS ?_
 refine Za3 (k382) (by first|rfl|(simp only[Zae,Zaf,Zah,Zac,Zaa hnt];rfl)) fun r h₂ hp=>?_
 (try simp only[Zae,Zaf,Zah,Zac,Zaa hnt]at hp)
 obtain⟨rfl,rfl⟩:=hp
 refine wS ?_
 refine Zkm [0,2,3,8] [.tok 1 fun _=>0,.tok 1 fun _=>0,.tok 1 fun _=>0,.tok 1 fun _=>0] [(0,.gob (.chq ch fun _=>KL 0))] (fid:=42) (first:=[]) ?_ rfl ?_ ?_
 ·rw[hL0]
  (refine To.of [(1,false),(1,false),(1,false),(1,false)] ?_;cbv;(try simp only[nc]);(repeat' (first|exact trivial|exact WkN.refl _|exact WkB.refl _|refine⟨?_,?_⟩|refine WkB.cells ?_|refine WkN.agg ?_|refine WkN.tup ?_));(all_goals (first|exact okt|skip)))
 ·exact Zcq
 refine SC.mono (k435 (fun i=>.gob (.chq ch fun _=>KL i)) (fun _=>_) (fun _=>_) (fun _=>_) (fun _=>_) (fun _=>_) (fun _=>false) ?_ ?_ ?_ ?_ ?_ ?_ ?_) ?_
 iterate 6 exact fun i=>ZbD.of rfl
 ·intro i hi hno
  have e1:(((HL (TA i)).lookup [f,fo]).getD []).headD 0=(HH (TA i) f fo).comes:=by rw[hl1];rfl
  have e2:(((HL (TA i)).lookup [r,to]).getD []).tail.tail.headD 0=(HH (TA i) r to).goes:=by rw[hl2];rfl
  refine YC.less (Zha false false [] rfl rfl ?_)
  refine wS ?_
  simp only[e1,e2,←hkb,←hLS]
  refine⟨.bool fun _=>true,_,?_,rfl,rfl⟩
  exact toT
 ·intro v h hh
  obtain⟨m,hm,rfl⟩:=hh
  have hmN:m=Za9 t:=by
   rcases hm with h|⟨_,_,_,h,_⟩
   ·exact h.1
   ·cases h
  subst hmN
  refine wS ?_
  exact⟨_,rfl⟩
end Go.Proofs.Ytjgpiclllehgmaa.Vm
namespace Go.Proofs.Ytjgpiclllehgmaa.Vm
attribute [local irreducible] Dn
open Go Go.Proofs Sp
set_option maxRecDepth 100000
set_option maxHeartbeats 4000000
theorem Zpb {o:Option TypeInfo} {n:Nat} {z:Option Value} (h:o.map (fun i=>(i.size,i.zero))=some (n,z)):∃i,o=some i∧i.size=n∧i.zero=z:=by
 cases o with
 |none=>cases h
 |some i=>
  have h:some (i.size,i.zero)=some (n,z):=h
  simp only[Option.some.injEq,Prod.mk.injEq]at h
  exact⟨i,rfl,h.1,h.2⟩
theorem ZjT (w v:Bool):∀(l:List Bool) (n:Int),cnt w (l++[v]) n=if v=w then IntKind.i64.wrap (cnt w l n+1)else cnt w l n
 |[],_=>rfl
 |x::l,n=>ZjT w v l _
theorem Zit {x:Int} (h:0≤x∧x<1000000):IntKind.i64.wrap x=x:=ZfK x ⟨by omega,by omega⟩
theorem ZoM {ds:List ZaW} (h:∀d∈ds,d.by_.length≤3):∀m,m≤ds.length→ZdZ ds m≤3^ m
 |0,_=>Nat.le_refl _
 |m+1,hm=>by
  unfold ZdZ
  rw[Nat.pow_succ]
  refine Nat.mul_le_mul (ZoM h m (by omega)) ?_
  unfold lenAt
  rw[List.getD_eq_getElem?_getD,List.getElem?_eq_getElem hm]
  exact h _ (List.getElem_mem hm)
theorem ZtJ {t:Zad} (hw:Zay t):Za9 t≤729:=by
 have h:=ZoM (fun d hd=>(hw.d d hd).2.1) t.delays.length (Nat.le_refl _)
 have h2:3^ t.delays.length≤3^ 6:=Nat.pow_le_pow_right (by omega) hw.dlen
 exact Nat.le_trans h (Nat.le_trans h2 (by decide))
theorem ZjS (p:Nat→Bool):∀n,0≤Zcw p n∧Zcw p n≤n
 |0=>⟨Int.le_refl _,Int.le_refl _⟩
 |n+1=>by
  have:=ZjS p n
  unfold Zcw
  split<;>omega
theorem Zr6 (t:Zad) (f r st:Int):∀n,n≤729→cnt true (Zio t f r st n) 0=Zcw (ZeB t f r st) n∧cnt false (Zio t f r st n) 0=Zcw (fun i=> !ZeB t f r st i) n
 |0,_=>⟨rfl,rfl⟩
 |n+1,h=>by
  have ih:=Zr6 t f r st n (by omega)
  have b1:=ZjS (ZeB t f r st) n
  have b2:=ZjS (fun i=> !ZeB t f r st i) n
  unfold Zio
  rw[ZjT,ZjT,ih.1,ih.2,Zit (by omega),Zit (by omega)]
  have e1:∀p,Zcw p (n+1)=if p n then Zcw p n+1 else Zcw p n:=fun _=>rfl
  rw[e1,e1]
  cases ZeB t f r st n<;>exact⟨rfl,rfl⟩
theorem Zx8 (t : Zad) (f r st : Int) (hw : Zay t) (hc : Zja t f r st) : SC (fun _ => Try.prog) 50 [.iptr (Za1 t) 0, .int .i64 fun _ => f, .int .i64 fun _ => r, .int .i64 fun _ => st] [.main] fun v h => v = .int .i64 (fun _ => ZlB t f r st) ∧ h = [.main] := by
  obtain ⟨nt, hnt⟩ := Zat
  have h1 := hc.1
  have h2 := hc.2
  have hro1 := (ZdX hw.calls h1).2.2
  have hro2 := (ZdX hw.calls h2).2.2
  unfold StopIn at h1 h2
  rw [Zfe hnt] at h1 h2 hro1 hro2
  have k395 := Zwr (nt (List Sp.Call) [] (callsOf t) f) st (by omega)
  have k396 := ZxD (nt (List Sp.Call) [] (callsOf t) r) st (by omega)
  have hcl := hw.calls.len
  have kc := ZxO t f r st hw hc
  obtain ⟨hy, hn⟩ := Zr6 t f r st (Za9 t) (ZtJ hw)
  have hV : ZlB t f r st = Zje (Zcw (ZeB t f r st) (Za9 t)) (Zcw (fun i => !ZeB t f r st i) (Za9 t)) := rfl
  have k416 := Zx2 (Zcw (ZeB t f r st) (Za9 t)) (Zcw (fun i => !ZeB t f r st i) (Za9 t))
  rw [← hV] at k416
  rw [Zfe hnt, Zfe hnt] at kc
  generalize ZlB t f r st = V at *
  generalize Zcw (ZeB t f r st) (Za9 t) = CY at *
  generalize Zcw (fun i => !ZeB t f r st i) (Za9 t) = CN at *
  generalize Zio t f r st (Za9 t) = KL at *
  unfold Zdy at kc
  unfold Za1 at *
  simp only [Zaa hnt, Zac, Zaz] at *
  generalize ZaI (nt (List Sp.Call) [] (callsOf t) f) st = fo at *
  generalize ZaR (nt (List Sp.Call) [] (callsOf t) r) st = to at *
  refine SC.less (Zwn false false [] [2] false 1 Try.func50 (body := Zal Try.f50) rfl (by decide +kernel) rfl ?_)
  refine vS ?_
  repeat' first
    | (with_reducible refine Zuv.mk ?_ ?_)
    | (with_reducible refine Chk.mk (okc) ?_)
    | (refine Za3 k395 (by first | rfl | (simp only [Zae, Zaf, Zah, Zac, Zaa hnt]; rfl)) fun r h₂ hp => ?_
       obtain ⟨rfl, rfl⟩ := hp
       refine vS ?_)
    | (refine Za3 k396 (by first | rfl | (simp only [Zae, Zaf, Zah, Zac, Zaa hnt]; rfl)) fun r h₂ hp => ?_
       obtain ⟨rfl, rfl⟩ := hp
       refine vS ?_)
  all_goals
    refine ZtQ (p := fun _ => Try.prog) (dr := .both) (B := 4) ⟨rfl, rfl, rfl, rfl, rfl, rfl, rfl, rfl, rfl, ⟨_, rfl, rfl, rfl, rfl⟩, ⟨_, rfl, rfl, rfl, rfl⟩, ⟨_, rfl, rfl, rfl, rfl⟩, ⟨_, rfl, rfl, rfl, rfl⟩, ⟨_, rfl, rfl, rfl, rfl⟩, ⟨_, rfl, rfl, rfl, rfl⟩, ⟨_, rfl, rfl, rfl, rfl⟩, ⟨_, rfl, rfl, rfl, rfl⟩, ⟨_, rfl, rfl, rfl, rfl⟩, ⟨_, rfl, rfl, rfl, rfl⟩, ⟨_, rfl, rfl, rfl, rfl⟩, ⟨_, rfl, rfl, rfl, rfl⟩, ⟨_, rfl, rfl, rfl, rfl⟩, ⟨_, rfl, rfl, rfl, rfl⟩, ⟨_, rfl, rfl, rfl, rfl⟩, ⟨_, rfl, rfl, rfl, rfl⟩, ⟨_, rfl, rfl, rfl, rfl⟩, ⟨_, rfl, rfl, rfl, rfl⟩, ⟨_, rfl, rfl, rfl, rfl⟩⟩ (by kernel_rfl) (Zpb (by kernel_rfl)) ((Zpb (n := 1) (z := some (.bool false)) (by kernel_rfl)).imp fun i h => ⟨h.1, h.2.2⟩)
      Try.func75 rfl (by decide +kernel) rfl rfl rfl rfl rfl rfl kc ?_
    rw [hy, hn]
    refine ZkO false false [] [] false ?_
    refine wS ?_
    refine Za3 (k416) (by first | rfl | (simp only [Zae, Zaf, Zah, Zac, Zaa hnt]; rfl)) fun r h₂ hp => ?_
    (try simp only [Zae, Zaf, Zah, Zac, Zaa hnt] at hp)
    obtain ⟨rfl, rfl⟩ := hp
    refine wS ?_
    refine ⟨_, _, ?_, rfl, rfl⟩
    exact toT
end Go.Proofs.Ytjgpiclllehgmaa.Vm
namespace Go.Proofs.Ytjgpiclllehgmaa.Vm
attribute [local irreducible] Dn
open Go Go.Proofs Sp
set_option maxRecDepth 100000
set_option maxHeartbeats 4000000
theorem Ziq {f:FuncId} {xs ys:List AV} {h:List Blk} {Post Q:AV→List Blk→Prop} {B:Prop} (H:SC (fun _=>Try.prog) f ys [] Q) (k:B) (t:SC (fun _=>Try.prog) f ys [] Q→HdW B→SC (fun _=>Try.prog) f xs h Post:=by intro hH hW;refine Za3 hH (by first|rfl|(simp only[Zae,Zaf,Zah,Zac,Zaa hnt];rfl)) fun r h₂ hp=>?_;(try simp only[Zae,Zaf,Zah,Zac,Zaa hnt]at hp);obtain⟨rfl,rfl⟩:=hp;exact hW.out):SC (fun _=>Try.prog) f xs h Post:=t H ⟨k⟩
theorem PR.nilw {w:World} {ok:Nat→Nat→Nat→Prop} {s s':Nat} {m m':Unit→Int} {f f':(Unit→Int)→List AV} {v:Value} (h:PR w ok (.isl s m f .nil) v) (hm:m' ()=0):PR w ok (.isl s' m' f' .none) v:=by
 cases h with
 |isl0 _ _ _ _ hz h1=>exact .isl0 _ _ _ _ hm (fun id e=>by cases e)
 |islE _ _ _ _ a hz h1=>exact .islE _ _ _ _ a hm (.inl rfl)
 |isl _ _ _ _ b o len cap us hn hc h1=>rcases h1 with h|h<;>cases h
theorem ZxF (m:Int):SC (fun _=>Try.prog) 25 [.int .i64 fun _=>m] [] fun v h=>v=Zah (ZaQ m)∧h=[]:=by
 obtain⟨nt,hnt⟩:=Zat
 have k1:=Zub 0 0 60
 have k2:=Zub 1 100 110
 have k3:=Zub 2 160 0
 have k4:=Zub 1 0 120
 have k5:=Zub 3 200 0
 have k6:=Zub 1 0 180
 have k7:=Zub 3 260 0
 refine SC.less (con Try.func25 (body:=Zal Try.f25) rfl (by decide+kernel) ?_)
 refine wS ?_
 refine Ziq (k1) ?_
 refine wS ?_
 refine Ziq (k2) ?_
 refine wS ?_
 refine Ziq (k3) ?_
 refine wS ?_
 refine Ziq (k4) ?_
 refine wS ?_
 refine Ziq (k5) ?_
 refine wS ?_
 refine Ziq (k6) ?_
 refine wS ?_
 refine Ziq (k7) ?_
 refine wS ?_
 refine⟨Zah (ZaQ m),[],?_,rfl,rfl⟩
 unfold Zah
 simp only[Zaa hnt,encTrain,encZone,Zaz]
 (refine To.of [] ?_;cbv;(try simp only[nc]);(repeat' (first|exact trivial|exact WkN.refl _|exact WkB.refl _|refine⟨?_,?_⟩|refine WkB.cells ?_|refine WkN.agg ?_|refine WkN.tup ?_));(all_goals (first|exact okt|skip)))
 ·refine Zo2 hnt (fun z:Sp.Zone=>[.int .i64 fun _=>z.base,.isl 2 (fun _=>(z.chs.length:Int)) (fun e=>ZgS (nt Chg default z.chs (e ()))) .none]) default [⟨0,[]⟩] _ ?_ fun i hi=>?_
  ·rfl
  match i,hi with
  |0,_=>exact ZeG.two fun w ok v h=>h.nilw rfl
 ·refine Zo2 hnt (fun t:Sp.Train=>[.int .i64 fun _=>t.number,.int .i64 fun _=>t.days,.isl 4 (fun _=>(t.stops.length:Int)) (fun e=>ZbJ (nt Stop default t.stops (e ()))) .none]) default (ZaQ m).book.old _ ?_ fun i hi=>?_
  ·rfl
  match i,hi with
  |0,_=>
   refine ZeG.three fun w ok v h=>h.wk rfl (fun j hj=>?_) (.inl rfl)
   match j,hj with
   |0,_=>(rw[hnt];rfl)
   |1,_=>(rw[hnt];rfl)
   |2,_=>(rw[hnt];rfl)
   |j+3,hj=>exact absurd hj (by show¬((j+3:Nat):Int)<3;omega)
  |1,_=>
   refine ZeG.three fun w ok v h=>h.wk rfl (fun j hj=>?_) (.inl rfl)
   match j,hj with
   |0,_=>(rw[hnt];rfl)
   |1,_=>(rw[hnt];rfl)
   |j+2,hj=>exact absurd hj (by show¬((j+2:Nat):Int)<2;omega)
  |2,_=>
   refine ZeG.three fun w ok v h=>h.wk rfl (fun j hj=>?_) (.inl rfl)
   match j,hj with
   |0,_=>(rw[hnt];rfl)
   |1,_=>(rw[hnt];rfl)
   |j+2,hj=>exact absurd hj (by show¬((j+2:Nat):Int)<2;omega)
 ·refine Zo2 hnt (fun t:Sp.ZaW=>[.int .i64 fun _=>t.run,.int .i64 fun _=>t.leg,.isl 1 (fun _=>(t.by_.length:Int)) (fun e=>Ze3 (nt Int 0 t.by_ (e ()))) .none]) default (ZaQ m).delays _ ?_ fun i hi=>?_
  ·rfl
  match i,hi with
  |0,_=>
   refine ZeG.three fun w ok v h=>h.wk rfl (fun j hj=>?_) (.inl rfl)
   match j,hj with
   |0,_=>(rw[hnt];rfl)
   |1,_=>(rw[hnt];rfl)
   |2,_=>(rw[hnt];rfl)
   |j+3,hj=>exact absurd hj (by show¬((j+3:Nat):Int)<3;omega)
theorem Zyc (l:List Sp.ZpN) (hlen:l.length≤100000):SC (fun _=>Try.prog) 13 [lst 2 Ze7 default l,lst 2 Ze7 default l] [] fun v h=>v= .bool (fun _=>true)∧h=[]:=by
 obtain⟨nt,hnt⟩:=Zat
 refine con Try.func13 (body:=Zal Try.f13) rfl (by decide+kernel) ?_
 simp only[Zaa hnt]
 refine wS ?_
 refine Br.isF (by simp) ?_
 refine wS ?_
 refine Za2 false false [] [0,1,5] [] (fun(i:Nat)=>[(5,.int .i64 fun _=>(i:Int))]) (fun _=>[]) (fun i=>i≤l.length) (fun i=>l.length-i+0) 0 (Nat.zero_le _) ?_ ?_
 ·exact toT
 intro i hi
 refine wS ?_
 refine⟨fun hb=>?_,fun hb=>?_⟩
 ·simp only[decide_eq_true_eq]at hb
  refine wS ?_
  refine Br.isF (by simp) ?_
  refine wS ?_
  refine⟨i+1,by omega,by omega,?_⟩
  exact toT
 ·(cbv;(try simp only[nc]at*);(try refine Chk.mk (okc) ?_))
  (try first|exact⟨rfl,trivial⟩|exact⟨trivial,trivial⟩)
theorem ZfM (m:Int):ZcL (ZaQ m):=⟨⟨by show 1≤1000000;decide,by show 3≤1000000;decide,by show 0≤1000000;decide,fun z hz=>by simp only[ZaQ,List.mem_singleton]at hz;subst hz;decide,fun t ht=>by simp only[ZaQ,List.mem_cons,List.not_mem_nil,or_false]at ht;rcases ht with rfl|rfl|rfl<;>decide,fun t ht=>by cases ht⟩,by show 3≤1000000;decide,by show 1≤1000000;decide,by show 1≤1000000;decide,fun d hd=>by simp only[ZaQ,List.mem_singleton]at hd;subst hd;decide⟩
theorem Zyi:SC (fun _=>Try.prog) 9 [] [.main] fun v h=>v= .bool (fun _=>true)∧h=[.main]:=by
 obtain⟨nt,hnt⟩:=Zat
 have kt30:=ZxF 30
 have kt15:=ZxF 15
 have hw:∀t,Zam t=0→Zay t:=fun t h=>Zdq h
 have k1:=Zyg (ZaQ 30) 1 (ZfM 30) (hw _)
 have k2:=Zye (ZaQ 15) 0 (ZfM 15) Zx8
 have k3:=Zyd (ZaQ 15) Zr2 (ZfM 15) (by decide) (hw _)
 have k4:=ZxG (ZaQ 30) 0 (ZfM 30)
 have k5:=Zyf (ZaQ 15) Zuq 0 (ZfM 15) (by decide) (hw _)
 have hte:ZdW (ZaQ 30) 1=0:=by
  unfold ZdW
  rw[if_neg (fun h=>h Zvw.2)]
  rfl
 rw[hte,if_pos rfl,if_pos rfl,Zro]at k1
 rw[Zpk]at k2
 rw[ZnD]at k3
 rw[Zrp.1]at k4
 rw[Zt2]at k5
 have kh:=ZxE
 have ki:=Zyb
 have ks:=Zyc [⟨120,140⟩,⟨200,220⟩] (by decide)
 have kz:=c39 [0,1] [0,1] (by decide)
 have kp1:=Zwx 200 260
 have kp2:=Zwx 120 140
 have kp3:=Zwx 200 220
 generalize ZmG (ZaQ 30) 1=C at*
 generalize ZaQ 30=T30 at*
 generalize ZaQ 15=T15 at*
 generalize Zr2=H1 at*
 generalize Zuq=H2 at*
 unfold Zah Zdp Ze7 at*
 simp only[Zaa hnt,Zac,Zaz,ZcF]at*
 refine SC.less (con Try.func9 (body:=Zal Try.f9) rfl (by decide+kernel) ?_)
 refine wS ?_
 refine Ziq (kt30) ?_
 refine wS ?_
 refine Ziq (k1) ?_
 refine wS ?_
 refine Ziq (kt15) ?_
 refine wS ?_
 refine ZaY [0] (k2) (by decide) (by simp) (by first|rfl|(simp only[Zae,Zaf,Zah,Zac,Zaa hnt];rfl)) (by first|rfl|(simp only[Zae,Zaf,Zah,Zac,Zaa hnt];rfl)) fun r h₂ hp=>?_
 (try simp only[Zae,Zaf,Zah,Zac,Zaa hnt]at hp)
 obtain⟨rfl,rfl⟩:=hp
 refine wS ?_
 refine Ziq (kt15) ?_
 refine wS ?_
 refine Ziq (kh) ?_
 refine wS ?_
 refine Ziq (k3) ?_
 refine wS ?_
 refine Ziq (kt30) ?_
 refine wS ?_
 refine Ziq (k4) ?_
 refine wS ?_
 refine Ziq (kt15) ?_
 refine wS ?_
 refine Ziq (ki) ?_
 refine wS ?_
 refine Ziq (k5) ?_
 refine vS ?_
 refine Chk.mk (by simp only[nc,Zct,Zcs,ZcK,Zcr,Cn.p,beq_self_eq_true,cond_true,imp_self,and_true,true_and];(repeat' (first|apply And.intro|intro _))<;>first|rfl|trivial|exact Or.inl rfl|decide|decide+kernel|(simp;done)) ?_
 repeat (first
  |(with_reducible refine Br.isT rfl ?_;refine vS ?_)
  |(with_reducible refine Chk.mk (by simp only[nc,Zct,Zcs,ZcK,Zcr,Cn.p,beq_self_eq_true,cond_true,imp_self,and_true,true_and];(repeat' (first|apply And.intro|intro _))<;>first|rfl|trivial|exact Or.inl rfl|decide|decide+kernel|(simp;done)) ?_))
 refine Ziq (kp1) ?_
 refine vS ?_
 repeat (first
  |(with_reducible refine Br.isT rfl ?_;refine vS ?_)
  |(with_reducible refine Chk.mk (by simp only[nc,Zct,Zcs,ZcK,Zcr,Cn.p,beq_self_eq_true,cond_true,imp_self,and_true,true_and];(repeat' (first|apply And.intro|intro _))<;>first|rfl|trivial|exact Or.inl rfl|decide|decide+kernel|(simp;done)) ?_))
 refine Ziq (kp2) ?_
 refine vS ?_
 repeat (first
  |(with_reducible refine Br.isT rfl ?_;refine vS ?_)
  |(with_reducible refine Chk.mk (by simp only[nc,Zct,Zcs,ZcK,Zcr,Cn.p,beq_self_eq_true,cond_true,imp_self,and_true,true_and];(repeat' (first|apply And.intro|intro _))<;>first|rfl|trivial|exact Or.inl rfl|decide|decide+kernel|(simp;done)) ?_))
 refine Ziq (kp3) ?_
 refine vS ?_
 repeat (first
  |(with_reducible refine Br.isT rfl ?_;refine vS ?_)
  |(with_reducible refine Chk.mk (by simp only[nc,Zct,Zcs,ZcK,Zcr,Cn.p,beq_self_eq_true,cond_true,imp_self,and_true,true_and];(repeat' (first|apply And.intro|intro _))<;>first|rfl|trivial|exact Or.inl rfl|decide|decide+kernel|(simp;done)) ?_))
 refine ZgU ks (by(refine To.of [] ?_;cbv;(try simp only[nc]);(repeat' (first|exact trivial|exact WkN.refl _|exact WkB.refl _|refine⟨?_,?_⟩|refine WkB.cells ?_|refine WkN.agg ?_|refine WkN.tup ?_));(all_goals (first|exact okt|skip)));all_goals exact lit_nt hnt Ze7 default _ _ rfl) (by first|rfl|(simp only[Zae,Zaf,Zah,Zac,Zaa hnt];rfl)) fun r h₂ hp=>?_
 obtain⟨rfl,rfl⟩:=hp
 refine vS ?_
 repeat (first
  |(with_reducible refine Br.isT rfl ?_;refine vS ?_)
  |(with_reducible refine Chk.mk (by simp only[nc,Zct,Zcs,ZcK,Zcr,Cn.p,beq_self_eq_true,cond_true,imp_self,and_true,true_and];(repeat' (first|apply And.intro|intro _))<;>first|rfl|trivial|exact Or.inl rfl|decide|decide+kernel|(simp;done)) ?_))
 refine ZgU (kz) (by(try simp only[Zae,Zaf,Zah,Zac,Zaa hnt]);(refine To.of [] ?_;cbv;(try simp only[nc]);(repeat' (first|exact trivial|exact WkN.refl _|exact WkB.refl _|refine⟨?_,?_⟩|refine WkB.cells ?_|refine WkN.agg ?_|refine WkN.tup ?_));(all_goals (first|exact okt|skip)))) (by first|rfl|(simp only[Zae,Zaf,Zah,Zac,Zaa hnt];rfl)) fun r h₂ hp=>?_
 (try simp only[Zae,Zaf,Zah,Zac,Zaa hnt]at hp)
 obtain⟨rfl,rfl⟩:=hp
 refine vS ?_
 repeat (first
  |(with_reducible refine Br.isT rfl ?_;refine vS ?_)
  |(with_reducible refine Chk.mk (by simp only[nc,Zct,Zcs,ZcK,Zcr,Cn.p,beq_self_eq_true,cond_true,imp_self,and_true,true_and];(repeat' (first|apply And.intro|intro _))<;>first|rfl|trivial|exact Or.inl rfl|decide|decide+kernel|(simp;done)) ?_))
 refine⟨.bool fun _=>true,[.main],?_,rfl,rfl⟩
 (refine To.of [] ?_;cbv;(try simp only[nc]);(repeat' (first|exact trivial|exact WkN.refl _|exact WkB.refl _|refine⟨?_,?_⟩|refine WkB.cells ?_|refine WkN.agg ?_|refine WkN.tup ?_));(all_goals (first|exact okt|skip)))
 all_goals exact .bool rfl
end Go.Proofs.Ytjgpiclllehgmaa.Vm
namespace Go.Proofs.Ytjgpiclllehgmaa.Vm
open Go Go.Proofs Sp
set_option maxRecDepth 100000
set_option maxHeartbeats 1600000
theorem Zf1 {n:Int}:∀(l:List Int) (i:Int),0≤i→(0≤Zak (fun x=>decide (x=n)) i l↔n∈l)
 |[],i,h=>by simp[Zak]
 |a::l,i,h=>by
  simp only[Zak]
  by_cases e:a=n
  ·rw[if_pos (by simpa using e)]
   simp[e,h]
  ·rw[if_neg (by simpa using e),Zf1 l (i+1) (by omega)]
   simp[Ne.symm e]
end Go.Proofs.Ytjgpiclllehgmaa.Vm
namespace Go.Proofs.Ytjgpiclllehgmaa.Vm
attribute [local irreducible] Dn
open Go Go.Proofs Sp
set_option maxRecDepth 100000
set_option maxHeartbeats 8000000
theorem ZsG {t:Zad} (h:Zam t=0):ZcL t:=by
 have hw:=Zdq h
 obtain⟨h1,h2,h3,h4,h5,h6⟩:=Zh8 h
 have hc:=Zgw h1
 have hr:=hw.calls.len
 have hl:(callsOf t).length=t.runs.length:=by unfold callsOf;rw[List.length_map]
 exact⟨⟨by have:=hc.zlen;omega,by have:=hc.olen;omega,by have:=hc.nlen;omega,fun z hz=>by have:=(ZgX (hc.zones z hz)).2.2.1;omega,⟨fun t ht=>by have:=(hc.old t ht).len;omega,fun t ht=>by have:=(hc.new t ht).len;omega⟩⟩,by omega,by omega,by omega,fun d hd=>by have:=(hw.d d hd).2.1;omega⟩
theorem Zq2 {t:Zad} (h:Zam t=0) {d:Nat} (hd:d<t.delays.length):SC (fun _=>Try.prog) 7 [Zah t,.int .i64 fun _=>(d:Int)] [] fun v h=>v= .tup [lst 1 Ze3 0 (ZcY t d),.int .i64 fun _=>0]∧h=[]:=by
 have k:=ZxG t (d:Int) (ZsG h)
 have e:ZeH t (d:Int)=(ZcY t d,0):=by
  unfold ZeH
  rw[if_neg (fun hn=>hn h),Zhw (by omega) (by omega),if_neg Bool.false_ne_true]
  rfl
 rw[e]at k
 exact k
theorem ZrZ (kp rs:Bool) (cs:List Nat) {x:Code} {Q:Ex→List AV→List Blk→Prop} {s:List AV} {h:List Blk} {α β:Type} (L:List Nat) (ex:List Blk) (ch:α×β→List (Nat×AV)) (hc:α×β→List (Nat×Blk)) (inv:α×β→Prop) (μ:α×β→Nat) (i:α×β)
  (hi:inv i) (hto:To (Vm.keep L s) h (ZgG (Vm.keep L s) (ch i)) (Zfd (h++ex) (hc i)))
  (step:∀a b,inv (a,b)→Dn (tbX kp rs cs) (fun _=>Try.prog) (Zob L (fun i=>ZgG (Vm.keep L s) (ch i)) (fun i=>Zfd (h++ex) (hc i)) inv μ (a,b) (h++ex).length Q) 100 .none [.code x] (ZgG (Vm.keep L s) (ch (a,b))) (Zfd (h++ex) (hc (a,b))) []):LP false (fun _=>Try.prog) x Q s h:=
 Za2 kp rs cs L ex ch hc inv μ i hi hto fun⟨a,b⟩ h=>step a b h
theorem Zq6 {ws:List Sp.Zck} {i:Nat} {w:Sp.Zck} {m:List Bool} (hw:w=ws.getD i default) (hi:i<ws.length):Zbp (Zbc (ws.take i) m) w=Zbc (ws.take (i+1)) m:=by
 unfold Zbc
 rw[List.take_add_one,List.foldl_append,List.getElem?_eq_getElem hi,hw,List.getD_eq_getElem?_getD,List.getElem?_eq_getElem hi]
 rfl
theorem Zol {nt:(α:Type)→α→List α→Int→α} (hnt:∀(α:Type) (d:α) (l:List α) (i:Int),nt α d l i=l.getD i.toNat d) {n x:Nat} {r:Int} {b:Bool} (h0:0≤r) (h1:r<n) (hx:(x:Int)<n):(bif decide ((x:Int)=0+r)then b else false)=nt Bool false (Zc2 n r b) (x:Int):=by
 rw[hnt,Int.toNat_natCast]
 unfold Zc2
 rw[List.getD_eq_getElem?_getD,List.getElem?_set]
 by_cases h:(x:Int)=r
 ·subst h
  rw[if_pos (Int.toNat_natCast x),if_pos (by rw[List.length_replicate];omega),decide_eq_true (by omega)]
  rfl
 ·rw[if_neg (by omega),decide_eq_false (by omega),List.getElem?_replicate,if_pos (by omega)]
  rfl
theorem ZqN {nt:(α:Type)→α→List α→Int→α} (hnt:∀(α:Type) (d:α) (l:List α) (i:Int),nt α d l i=l.getD i.toNat d) {n x:Nat} {m:List Bool} {w:Sp.Zck} (hf:0≤w.feeder∧w.feeder<n) (ht:0≤w.train∧w.train<n) (hm:m.length=n):
  (bif decide ((x:Int)=0+w.train)then(bif nt Bool false m (0+w.train)then true else nt Bool false m (0+w.feeder))else nt Bool false m (x:Int))=nt Bool false (Zbp m w) (x:Int):=by
 simp only[hnt,Int.toNat_natCast,Int.zero_add]
 unfold Zbp
 rw[List.getD_eq_getElem?_getD (l:=m.set _ _),List.getElem?_set]
 by_cases h:(x:Int)=w.train
 ·rw[if_pos (by omega),if_pos (by omega),decide_eq_true h]
  show(bif m.getD w.train.toNat false then true else m.getD w.feeder.toNat false)=(m.getD w.train.toNat false||m.getD w.feeder.toNat false)
  cases m.getD w.train.toNat false<;>rfl
 ·rw[if_neg (by omega),decide_eq_false h,List.getD_eq_getElem?_getD]
  rfl
theorem ZxS (l:List Int) (hl:(l.length:Int)≤9223372036854775807):SC (fun _=>Try.prog) 3 [lst 1 Ze3 0 l] [.main] fun r _=>r= .bool fun _=>true:=by
 obtain⟨nt,hnt⟩:=Zat
 refine con Try.func3 (body:=Zal Try.f3) rfl (by decide+kernel) ?_
 refine wS ?_
 refine Za3 (c14 l hl) (by first|rfl|(simp only[Zae,Zaf,Zah,Zac,Zag,Zaa hnt];rfl)) fun r h₂ hp=>?_
 (try simp only[Zae,Zaf,Zah,Zac,Zag,Zaa hnt]at hp)
 obtain⟨s,rfl,rfl⟩:=hp
 refine wS ?_
 refine ZaY [1] (Zyh s 4 3 3 (by omega) (by omega) (by omega)) (by decide) (by simp) (by first|rfl|(simp only[Zae,Zaf,Zah,Zac,Zag,Zaa hnt];rfl)) (by first|rfl|(simp only[Zae,Zaf,Zah,Zac,Zag,Zaa hnt];rfl)) fun r h₂ hp=>?_
 (try simp only[Zae,Zaf,Zah,Zac,Zag,Zaa hnt]at hp)
 obtain⟨t,s',ht,rfl,rfl⟩:=hp
 have he:=ht.1.begin
 have hr4:=ht.2.1
 have hw4:=ht.2.2.1
 have hd4:=ht.2.2.2
 have hwf:=Zdq he
 have hk:=fun(d:Nat) (hd:d<t.delays.length)=>Zq2 he hd
 have hwt:∀w∈t.waits,(0≤w.feeder∧w.feeder<t.runs.length)∧(0≤w.train∧w.train<t.runs.length):=Zoe he
 have hdi:=fun(d:Nat) (hd:d<t.delays.length)=>Zg6 he hd
 have hcl:(callsOf t).length=t.runs.length:=by unfold callsOf;rw[List.length_map]
 refine wS ?_
 refine Za2 false false [] [3,4] [] (fun(d:Nat)=>[(4,.int .i64 fun _=>(d:Int))]) (fun _=>[]) (fun d=>d≤t.delays.length) (fun d=>t.delays.length-d+0) 0 (Nat.zero_le _) ?_ ?_
 ·exact toT
 intro d hd
 have hd:d≤t.delays.length:=hd
 refine wS ?_
 refine⟨fun hb=>?_,fun hb=>?_⟩
 ·simp only[decide_eq_true_eq]at hb
  have hb':d<t.delays.length:=by omega
  have kd:=hk d hb'
  have hD:=hdi d hb'
  generalize hL:ZcY t d=L at*
  have hn:nt Sp.ZaW default t.delays (d:Int)=t.delays.getD d default:=by rw[hnt];rfl
  have hrun:=hD.run
  rw[hcl,←hn]at hrun
  have hby:=hD.many
  rw[←hn]at hby
  generalize hM0:Zc2 t.runs.length (nt Sp.ZaW default t.delays (d:Int)).run (decide ((1:Int)<((nt Sp.ZaW default t.delays (d:Int)).by_.length:Int)))=M0
  have hM0l:M0.length=t.runs.length:=by rw[←hM0];unfold Zc2;rw[List.length_set,List.length_replicate]
  refine wS ?_
  refine Za3 (kd) (by first|rfl|(simp only[Zae,Zaf,Zah,Zac,Zag,Zaa hnt];rfl)) fun r h₂ hp=>?_
  (try simp only[Zae,Zaf,Zah,Zac,Zag,Zaa hnt]at hp)
  obtain⟨rfl,rfl⟩:=hp
  refine wS ?_
  refine ZrZ false false [] [3,4,5,6,7,8] [] (fun(⟨k,m⟩:Nat×List Bool)=>[(8,.int .i64 fun _=>k)]) (fun⟨k,m⟩=>[(3,.arr 1 (fun _=>(t.runs.length:Int)) (fun e=>[.bool fun _=>nt Bool false m (e ())]))])
   (fun⟨k,m⟩=>k≤t.runs.length∧m=Za4 t.waits k M0) (fun q=>t.runs.length-q.1+0) (0,M0) ⟨Nat.zero_le _,rfl⟩ ?_ ?_
  ·refine toR ?_
   refine .arr rfl fun x hx=>?_
   show [AV.bool fun _=>_]=[AV.bool fun _=>_]
   refine congrArg (fun y:Bool=>[AV.bool fun _=>y]) ?_
   rw[←hM0]
   exact Zol hnt hrun.1 hrun.2 (by exact hx)
  intro k m hq
  have hk1:k≤t.runs.length:=hq.1
  have hm:m=Za4 t.waits k M0:=hq.2
  clear hq
  have hml:m.length=t.runs.length:=by rw[hm,Zfw,hM0l]
  refine wS ?_
  refine⟨fun hb1=>?_,fun hb1=>?_⟩
  ·simp only[decide_eq_true_eq]at hb1
   refine wS ?_
   refine ZrZ false false [] [3,4,5,6,7,8,9] [] (fun(⟨i,m⟩:Nat×List Bool)=>[(9,.int .i64 fun _=>i)]) (fun⟨i,m⟩=>[(3,.arr 1 (fun _=>(t.runs.length:Int)) (fun e=>[.bool fun _=>nt Bool false m (e ())]))])
    (fun⟨i,m2⟩=>i≤t.waits.length∧m2=Zbc (t.waits.take i) m) (fun q=>t.waits.length-q.1+0) (0,m) ⟨Nat.zero_le _,rfl⟩ ?_ ?_
   ·exact toT
   intro i m2 hq
   have hi1:i≤t.waits.length:=hq.1
   have hm2:m2=Zbc (t.waits.take i) m:=hq.2
   clear hq
   have hml2:m2.length=t.runs.length:=by rw[hm2,Zey,hml]
   refine wS ?_
   refine⟨fun hb2=>?_,fun hb2=>?_⟩
   ·simp only[decide_eq_true_eq]at hb2
    have hwr:=hwt _ (Zb4 (d:=default) hnt (l:=t.waits) (i:=i) (by omega))
    refine wS ?_
    refine⟨(i+1,Zbp m2 (nt Sp.Zck default t.waits (i:Int))),⟨by omega,by rw[hm2];exact Zq6 (by rw[hnt];rfl) (by omega)⟩,by show t.waits.length-(i+1)+0<t.waits.length-i+0;omega,?_⟩
    refine toR ?_
    refine .arr rfl fun x hx=>?_
    show [AV.bool fun _=>_]=[AV.bool fun _=>_]
    refine congrArg (fun y:Bool=>[AV.bool fun _=>y]) ?_
    exact ZqN hnt hwr.1 hwr.2 hml2
   ·simp only[decide_eq_false_iff_not]at hb2
    have hm3:m2=Za4 t.waits (k+1) M0:=by rw[hm2,List.take_of_length_le (by omega),hm];rfl
    refine wS ?_
    refine⟨(k+1,m2),⟨by omega,hm3⟩,by show t.runs.length-(k+1)+0<t.runs.length-k+0;omega,?_⟩
    exact toT
  ·simp only[decide_eq_false_iff_not]at hb1
   have hke:k=t.runs.length:=by omega
   have hma:∀r∈L,(0≤r∧r<t.runs.length)∧m.getD r.toNat false=true:=fun r hr=>by
    have h1:=ZoT he hb' (r:=r) (by rw[hL];exact hr)
    have h0:=(Zkt (t:=t) (d:=d) (r:=r) (by rw[hL];exact hr)).1
    rw[hcl,←hn,show decide (1<(nt Sp.ZaW default t.delays (d:Int)).by_.length)=decide ((1:Int)<((nt Sp.ZaW default t.delays (d:Int)).by_.length:Int))from decide_eq_decide.2 (by omega),hM0,←hke,←hm]at h1
    exact⟨⟨h0,by rw[←hke];exact h1.1⟩,h1.2⟩
   have hasc:L.Pairwise fun a b=>a<b:=by rw[←hL];exact ZoU
   have hown:1<(nt Sp.ZaW default t.delays (d:Int)).by_.length→(nt Sp.ZaW default t.delays (d:Int)).run∈L:=fun h=>by rw[←hL,hn];exact ZoS he hb' (by rw[←hn];exact h)
   have hLl:L.length≤1000000:=by
    rw[←hL]
    unfold ZcY
    rw[List.length_map]
    have:=List.length_filter_le (fun r=>ZdC t d (Za9 t) r) (List.range 4)
    rw[List.length_range]at this
    omega
   have k45:=c45 L (nt Sp.ZaW default t.delays (d:Int)).run hLl
   have hix:¬1<(nt Sp.ZaW default t.delays (d:Int)).by_.length∨0≤Zak (fun x=>decide (x=(nt Sp.ZaW default t.delays (d:Int)).run)) 0 L:=by
    by_cases h:1<(nt Sp.ZaW default t.delays (d:Int)).by_.length
    ·exact .inr ((Zf1 L 0 (Int.le_refl _)).2 (hown h))
    ·exact .inl h
   generalize Zak (fun x=>decide (x=(nt Sp.ZaW default t.delays (d:Int)).run)) 0 L=ix at*
   simp only[Zaa hnt]at k45
   refine vS ?_
   refine Chk.mk (okc) ?_
   by_cases hB:1<(nt Sp.ZaW default t.delays (d:Int)).by_.length
   ·have hBt:decide ((1:Int)<((nt Sp.ZaW default t.delays (d:Int)).by_.length:Int))=true:=decide_eq_true (by omega)
    have hix':0≤ix:=by
     rcases hix with h|h
     ·exact absurd hB h
     ·exact h
    refine Br.isT (by show(bif (!(0:Int) !=0)then decide (1<((nt Sp.ZaW default t.delays (d:Int)).by_.length:Int))else false)=true;rw[hBt];rfl) ?_
    refine vS ?_
    refine Chk.mk (okc) ?_
    refine Za3 (k45) (by first|rfl|(simp only[Zae,Zaf,Zah,Zac,Zag,Zaa hnt];rfl)) fun r h₂ hp=>?_
    (try simp only[Zae,Zaf,Zah,Zac,Zag,Zaa hnt]at hp)
    obtain⟨rfl,rfl⟩:=hp
    refine vS ?_
    refine Chk.mk (okc) ?_
    refine Br.isF (by show(bif ((0:Int) !=0)then true else bif decide ((1:Int)<((nt Sp.ZaW default t.delays (d:Int)).by_.length:Int))then decide (ix<0)else false)=false;rw[hBt,decide_eq_false (show¬ix<0 by omega)];rfl) ?_
    refine vS ?_
    refine Za2 false false [] [3,4,5,7,10] [] (fun(i:Nat)=>[(10,.int .i64 fun _=>(i:Int))]) (fun _=>[]) (fun i=>i≤L.length) (fun i=>L.length-i+0) 0 (Nat.zero_le _) ?_ ?_
    ·exact toT
    intro i hi
    have hi:i≤L.length:=hi
    refine wS ?_
    refine⟨fun hb3=>?_,fun hb3=>?_⟩
    ·simp only[decide_eq_true_eq]at hb3
     have hri:=hma _ (Zb4 (d:=0) hnt (l:=L) (i:=i) (by omega))
     have hx3:nt Bool false m (0+nt Int 0 L (i:Int))=true:=by rw[hnt Bool,Int.zero_add];exact hri.2
     have hpr:(0:Int)<(i:Int)→nt Int 0 L ((i:Int)-1)<nt Int 0 L (i:Int):=fun h=>by
      rw[hnt,hnt,show((i:Int)-1).toNat=i-1 by omega]
      exact ZoP hasc (by omega) (by omega)
     have hx1:decide (nt Int 0 L (i:Int)<0)=false:=decide_eq_false (by omega)
     have hx2:decide ((t.runs.length:Int)≤nt Int 0 L (i:Int))=false:=decide_eq_false (by omega)
     have hx4:(bif decide ((0:Int)<(i:Int))then decide (nt Int 0 L (i:Int)≤nt Int 0 L ((i:Int)-1))else false)=false:=by
      by_cases h:(0:Int)<(i:Int)
      ·have:=hpr h
       rw[decide_eq_true h,decide_eq_false (by omega)]
       rfl
      ·rw[decide_eq_false h];rfl
     refine vS ?_
     refine Chk.mk (by simp only[nc,Zct,Zcs,ZcK,Zcr,Cn.p,and_true,true_and,imp_self,hx1,hx2,hx3,cond_false,cond_true,Bool.not_false,Bool.not_true,decide_eq_true_eq];(repeat' (first|apply And.intro|intro _))<;>first|omega|rfl|trivial|assumption|decide+kernel|(simp[*];done)) ?_
     refine Br.isF (by simp only[hx1,hx2,hx3,hx4,cond_false,cond_true,Bool.not_true]) ?_
     refine wS ?_
     refine⟨i+1,by show i+1≤_;omega,by show L.length-(i+1)+0<L.length-i+0;omega,?_⟩
     exact toT
    ·refine wS ?_
     refine⟨d+1,by show d+1≤_;omega,by show t.delays.length-(d+1)+0<t.delays.length-d+0;omega,?_⟩
     exact toT
   ·have hBf:decide ((1:Int)<((nt Sp.ZaW default t.delays (d:Int)).by_.length:Int))=false:=decide_eq_false (by omega)
    refine Br.isF (by show(bif (!(0:Int) !=0)then decide (1<((nt Sp.ZaW default t.delays (d:Int)).by_.length:Int))else false)=false;rw[hBf];rfl) ?_
    refine vS ?_
    refine Chk.mk (okc) ?_
    refine Br.isF rfl ?_
    refine vS ?_
    refine Za2 false false [] [3,4,5,7,10] [] (fun(i:Nat)=>[(10,.int .i64 fun _=>(i:Int))]) (fun _=>[]) (fun i=>i≤L.length) (fun i=>L.length-i+0) 0 (Nat.zero_le _) ?_ ?_
    ·exact toT
    intro i hi
    have hi:i≤L.length:=hi
    refine wS ?_
    refine⟨fun hb3=>?_,fun hb3=>?_⟩
    ·simp only[decide_eq_true_eq]at hb3
     have hri:=hma _ (Zb4 (d:=0) hnt (l:=L) (i:=i) (by omega))
     have hx3:nt Bool false m (0+nt Int 0 L (i:Int))=true:=by rw[hnt Bool,Int.zero_add];exact hri.2
     have hpr:(0:Int)<(i:Int)→nt Int 0 L ((i:Int)-1)<nt Int 0 L (i:Int):=fun h=>by
      rw[hnt,hnt,show((i:Int)-1).toNat=i-1 by omega]
      exact ZoP hasc (by omega) (by omega)
     have hx1:decide (nt Int 0 L (i:Int)<0)=false:=decide_eq_false (by omega)
     have hx2:decide ((t.runs.length:Int)≤nt Int 0 L (i:Int))=false:=decide_eq_false (by omega)
     have hx4:(bif decide ((0:Int)<(i:Int))then decide (nt Int 0 L (i:Int)≤nt Int 0 L ((i:Int)-1))else false)=false:=by
      by_cases h:(0:Int)<(i:Int)
      ·have:=hpr h
       rw[decide_eq_true h,decide_eq_false (by omega)]
       rfl
      ·rw[decide_eq_false h];rfl
     refine vS ?_
     refine Chk.mk (by simp only[nc,Zct,Zcs,ZcK,Zcr,Cn.p,and_true,true_and,imp_self,hx1,hx2,hx3,cond_false,cond_true,Bool.not_false,Bool.not_true,decide_eq_true_eq];(repeat' (first|apply And.intro|intro _))<;>first|omega|rfl|trivial|assumption|decide+kernel|(simp[*];done)) ?_
     refine Br.isF (by simp only[hx1,hx2,hx3,hx4,cond_false,cond_true,Bool.not_true]) ?_
     refine wS ?_
     refine⟨i+1,by show i+1≤_;omega,by show L.length-(i+1)+0<L.length-i+0;omega,?_⟩
     exact toT
    ·refine wS ?_
     refine⟨d+1,by show d+1≤_;omega,by show t.delays.length-(d+1)+0<t.delays.length-d+0;omega,?_⟩
     exact toT
 ·simp only[decide_eq_false_iff_not]at hb
  refine wS ?_
  refine ZaY [0] (Zyi) (by decide) (by simp) (by first|rfl|(simp only[Zae,Zaf,Zah,Zac,Zag,Zaa hnt];rfl)) (by first|rfl|(simp only[Zae,Zaf,Zah,Zac,Zag,Zaa hnt];rfl)) fun r h₂ hp=>?_
  (try simp only[Zae,Zaf,Zah,Zac,Zag,Zaa hnt]at hp)
  obtain⟨rfl,rfl⟩:=hp
  exact wZ
end Go.Proofs.Ytjgpiclllehgmaa.Vm
