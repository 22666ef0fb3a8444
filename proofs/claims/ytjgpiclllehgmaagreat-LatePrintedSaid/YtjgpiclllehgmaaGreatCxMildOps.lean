/- The operations of a region that touch memory plainly. -/
import Derived.Test.YtjgpiclllehgmaaGreatCxMild
set_option linter.unusedSimpArgs false
set_option linter.unusedVariables false
namespace Go.Proofs.YtjgpiclllehgmaaGreat.Conc1
open Go
section
variable {P:Program} {α β:Type} {K:Nat→Prop}
theorem Zv.of_dies {s:Sem α} (h:Qg P s) (K:Nat→Prop):Zv P K s:=Z9.of_dies h K
theorem ZaS {s:String}:Qg P (stuck s:Sem α):=trivial
theorem Z4 {s:String}:Zv P K (stuck s:Sem α):=trivial
theorem QQ {s:Unsupported}:Zv P K (unsupported s:Sem α):=trivial
theorem Zn {a:α}:Zv P K (pure a:Sem α):=trivial
theorem ZcZ {v:Value}:Qg P (goPanic v:Sem α):=trivial
theorem X2 {c:Prop} [Decidable c] {a b:Sem α} (h1:Zv P K a) (h2:Zv P K b):Zv P K (if c then a else b):=by
 split
 ·exact h1
 ·exact h2
theorem Zf {s:Sem α} {f:α→Sem β} (h:∀K,Zv P K s) (hf:∀a K,Zv P K (f a)):Zv P K (s>>=f):=Z9.bind (h K) fun a K' _ _=>hf a K'
theorem Xb {Q:α→Prop} {s:Sem α} {f:α→Sem β} (h:∀K,Z9 P Q K s) (hf:∀a K,Q a→Zv P K (f a)):Zv P K (s>>=f):=Z9.bind (h K) fun a K' hq _=>hf a K' hq
theorem Zbo {Q:α→Prop} {Q':β→Prop} {s:Sem α} {f:α→Sem β} (h:∀K,Z9 P Q K s) (hf:∀a K,Q a→Z9 P Q' K (f a)):Z9 P Q' K (s>>=f):=Z9.bind (h K) fun a K' hq _=>hf a K' hq
theorem Zdr {a:Addr}:Zv P K (load a):=⟨.inl rfl,fun _=>trivial⟩
theorem Zfg {a:Addr} {v:Value}:Zv P K (store a v):=⟨.inl rfl,trivial⟩
theorem Yl {o:Obj} (h:o.isChan=false):Zv P K (newObj o):=.inl ⟨h,fun _=>trivial⟩
theorem JK {q:Question}:Zv P K (choose q):=fun _=>trivial
theorem Jh:Zv P K program:=trivial
theorem ZhA {n:Nat}:Zv P K (askRoom n):=by
 unfold askRoom
 split
 ·exact .inl ⟨rfl,trivial⟩
 ·trivial
theorem Q5 {r:Nat} {f:Obj→Sem α} (h:∀o,o.isChan=false→Zv P (fun x=>K x∨x=r) (f o)) (hd:∀o,o.isChan=true→Qg P (f o)):Zv P K (getObj r>>=f):=fun o=>⟨hd o,h o⟩
theorem Xn {r:Nat} {o:Obj} (hr:K r) (ho:o.isChan=false):Zv P K (setObj r o):=.inl ⟨hr,ho,trivial⟩
theorem Zbn {t:TypeId}:Z9 P (fun i=>P.info? t=some i) K (typeInfo t):=by
 show Z9 P _ K (match P.info? t with|some i=>pure i|none=>stuck "no such type")
 split
 ·rename_i h;exact h
 ·trivial
theorem YU {t:TypeId}:Zv P K (typeInfo t):=Zbn.mono (fun _ _=>trivial) fun _ h=>h
theorem XL {t:TypeId}:Z9 P (fun i=>P.underlying t=some i) K (underlying t):=by
 show Z9 P _ K (match P.underlying t with|some i=>pure i|none=>stuck "no such type")
 split
 ·rename_i h;exact h
 ·trivial
theorem ZV {t:TypeId}:Zv P K (underlying t):=XL.mono (fun _ _=>trivial) fun _ h=>h
theorem ZhB {t:TypeId}:Z9 P (fun n=>∃i,P.info? t=some i∧n=i.size) K (sizeOf t):=Zbo (fun _=>Zbn) fun i K h=>⟨i,h,rfl⟩
theorem Jr {t:TypeId}:Zv P K (zeroValue t):=Zf (fun _=>YU) fun i K=>by split<;>trivial
theorem Q4 {t:TypeId}:Zv P K (sizeOf t):=Zf (fun _=>YU) fun i K=>trivial
theorem ZaF {t:TypeId}:Zv P K (isAgg t):=Zf (fun _=>ZV) fun i K=>by split<;>trivial
theorem Js {a:Addr}:∀ {n i:Nat} {acc:Array Value} {K:Nat→Prop},Zv P K (loadCellsFrom a i n acc)
 |0,_,_,_=>trivial
 |n+1,_,_,_=>Zf (fun _=>Zdr) fun _ _=>Js
theorem Jt {a:Addr} {n:Nat}:Zv P K (loadCells a n):=Js
theorem Yc {a:Addr}:∀ {vs:List Value} {i:Nat} {K:Nat→Prop},Zv P K (storeCells a vs i)
 |[],_,_=>trivial
 |v::vs,_,_=>Zf (fun _=>Zfg) fun _ _=>Yc
theorem ZaE {t:TypeId} {a:Addr}:Zv P K (loadVar t a):=Zf (fun _=>ZaF) fun b K=>by
 split
 ·exact Zf (fun _=>Q4) fun _ _=>Zf (fun _=>Jt) fun _ _=>trivial
 ·exact Zdr
theorem Zcf {t:TypeId} {a:Addr} {v:Value}:Zv P K (storeVar t a v):=Zf (fun _=>Q4) fun n K=>by
 split
 ·exact Z4
 ·exact Yc
theorem Zd9 {t:TypeId} {c:Array Value}:Zv P K (newRow t c):=Zf (fun _=>Yl rfl) fun _ _=>trivial
theorem Zbj {t:TypeId} {c:Value}:Zv P K (newVar t c):=Zd9
theorem XK {t:TypeId} {c:Array Value} {o:Nat}:Zv P K (part t c o):=Zf (fun _=>ZaF) fun b K=>by
 split
 ·exact Zf (fun _=>Q4) fun _ _=>trivial
 ·split<;>trivial
theorem YE {e:RuntimeError}:Qg P (runtimePanic e:Sem α):=by
 unfold runtimePanic
 cases e with
 |typeAssertion i c a m=>exact(Qg.bind_right (fun e=>Qg.bind_right (fun r=>ZcZ) (newVar e _)) (elemOf P.rt.typeAssertionError):Qg P ((elemOf P.rt.typeAssertionError).bind _))
 |panicNil=>exact(Qg.bind_right (fun e=>Qg.bind_right (fun r=>ZcZ) (newVar e _)) (elemOf P.rt.panicNilError):Qg P ((elemOf P.rt.panicNilError).bind _))
 |_=>exact(trivial:Qg P (goPanic _))
theorem ZS {e:RuntimeError}:Zv P K (runtimePanic e:Sem α):=.of_dies YE _
theorem ZdH {k:IntKind} {x y:Int} {c:BoundsCode}:Qg P (boundsPanic k x y c:Sem α):=by
 unfold boundsPanic
 split<;>exact Qg.bind_right (fun _=>YE) _
theorem Zaf {k:IntKind} {x y:Int} {c:BoundsCode}:Zv P K (boundsPanic k x y c:Sem α):=.of_dies ZdH _
theorem ZaJ {v:Value}:Zv P K (asIntOf v):=by unfold asIntOf;split<;>trivial
theorem ZjW {v:Value}:Zv P K (asInt v):=Zf (fun _=>ZaJ) fun _ _=>trivial
theorem Zeb {v:Value}:Zv P K (asBool v):=by unfold asBool;split<;>trivial
theorem ZjX {v:Value}:Zv P K (asAgg v):=by unfold asAgg;split<;>trivial
theorem Zec {v:Value}:Zv P K (asAddr v):=by
 unfold asAddr
 split
 ·trivial
 ·exact ZS
 ·trivial
theorem YV {v:Value}:Zv P K (Instr.sureAddr v):=by unfold Instr.sureAddr;split<;>trivial
end
section
variable {P:Program} {α β:Type} {K:Nat→Prop}
theorem Zfl {t:TypeId}:Zv P K (Instr.alloc t true (.tuple #[])):=Zf (fun _=>Jr) fun _ _=>Zf (fun _=>Zbj) fun _ _=>trivial
theorem Zom {t:TypeId} {v:Value}:Zv P K (Instr.box t v):=Zf (fun _=>Zbj) fun _ _=>trivial
theorem Zea {t:TypeId} {v:Value}:Zv P K (Instr.loadAt t v):=Zf (fun _=>YV) fun _ _=>ZaE
theorem ZcR {t:TypeId} {v u:Value}:Zv P K (Instr.storeAt t v u):=Zf (fun _=>YV) fun _ _=>Zcf
theorem Zeu {a:Addr} {f:Field} (h:∀i,P.info? f.type=some i→i.size≠0):Zv P K (fieldPlace a f):=Xb (fun _=>ZhB) fun n K ⟨i,h1,h2⟩=>by
 rw[if_neg (by rw[h2];exact h i h1)]
 trivial
theorem Zhv {s:TypeId} {v:Value} {n:Nat} (h:∀fs f,P.underlying s=some (.struct fs)→fs[n]? =some f→∀i,P.info? f.type=some i→i.size≠0):Zv P K (Instr.fieldAt s v n):=Xb (fun _=>XL) fun d K hd=>by
 split
 ·split
  ·rename_i hf
   exact Zf (fun _=>YV) fun a K=>Zf (fun _=>Zeu (h _ _ hd hf)) fun _ _=>trivial
  ·trivial
 ·trivial
theorem mtA {s:Sem α} (h:Zv P K s:=by(repeat' (first|with_reducible exact Zn|with_reducible exact Z4|with_reducible exact QQ|with_reducible exact mild_goPanic|with_reducible exact mild_throw|with_reducible exact YU|with_reducible exact ZV|with_reducible exact Jr|with_reducible exact Q4|with_reducible exact ZaF|with_reducible exact mild_elemOf|with_reducible exact Zdr|with_reducible exact Zfg|with_reducible exact mild_shape|with_reducible exact JK|with_reducible exact Jh|with_reducible exact ZhA|with_reducible exact Jt|with_reducible exact Yc|with_reducible exact ZaE|with_reducible exact Zcf|with_reducible exact Zd9|with_reducible exact Zbj|with_reducible exact XK|with_reducible exact ZS|with_reducible exact Zaf|with_reducible exact ZaJ|with_reducible exact ZjW|with_reducible exact Zeb|with_reducible exact ZjX|with_reducible exact Zec|with_reducible exact YV|with_reducible exact mild_asString|with_reducible exact Yl rfl|with_reducible exact Zet|with_reducible exact Zdq|with_reducible exact ZjN|with_reducible exact mild_lenOf|with_reducible exact mild_firstCells|with_reducible exact hm _ _|with_reducible exact mild_checkKey _ _ _ _|with_reducible exact mild_findKey hk|exact hd _ _ _|(refine Zf (fun _=>?_) fun _ _=>?_)|(with_reducible refine X2 ?_ ?_)|split|(dsimp only)))):Zv P K s:=h
theorem Zhu {t:TypeId} {x i:Value}:Zv P K (Instr.indexAt t x i):=by
 unfold Instr.indexAt
 exact mtA
theorem Zet {x:Value} {y:Nat} {c:BoundsCode}:Zv P K (Instr.sliceBound x y c):=Zf (fun _=>ZaJ) fun ki K=>by
 dsimp only
 split
 ·trivial
 ·exact Zaf
theorem Zdq {b:Bool} {l c:Nat} {lo hi mx:Option Value}:Zv P K (Instr.sliceBounds b l c lo hi mx):=by
 unfold Instr.sliceBounds
 exact mtA
theorem ZjN {t:TypeId} {x:Value} {lo hi mx:Option Value}:Zv P K (Instr.slice t x lo hi mx):=by
 unfold Instr.slice
 exact mtA
theorem Zhs {t:TypeId} {x:Value} {lo hi mx:Option Value}:Zv P K (Instr.sliceAt t x lo hi mx):=by
 unfold Instr.sliceAt
 exact mtA
theorem ZjR {t:TypeId} {x:Value} {n:Nat}:Zv P K (Instr.field t x n):=by
 unfold Instr.field
 exact mtA
theorem ZjQ {t:TypeId} {x i:Value}:Zv P K (Instr.index t x i):=by
 unfold Instr.index
 exact mtA
theorem Zhw {v:Value} {n:Nat}:Zv P K (Instr.extract v n):=by
 unfold Instr.extract
 (repeat' split)<;>trivial
theorem Zht {t:TypeId}:Zv P K (Instr.makeMap t none):=Zf (fun _=>Yl rfl) fun _ _=>trivial
theorem Zfj {t:TypeId} {l c:Value}:Zv P K (Instr.makeSlice t l c):=by
 unfold Instr.makeSlice
 exact mtA
theorem ZgB {f:α→Sem β} (h:∀a K,Zv P K (f a)):∀(l:List α) (K:Nat→Prop),Zv P K (l.mapM f)
 |[],_=>by rw[List.mapM_nil];trivial
 |a::l,K=>by
  rw[List.mapM_cons]
  exact Zf (h a) fun _ _=>Zf (fun K=>ZgB h l K) fun _ _=>trivial
theorem Zfi {f:α→Sem β} (h:∀a K,Zv P K (f a)) (l:Array α) (K:Nat→Prop):Zv P K (l.mapM f):=by
 rw[Array.mapM_eq_mapM_toList]
 exact Zf (fun K=>ZgB h _ K) fun _ _=>trivial
theorem ZjV {t:TypeId} {ps:Array (Nat×Value)}:Zv P K (Instr.build t ps):=by
 unfold Instr.build
 have hm:∀(fs:Array Field) (K:Nat→Prop),Zv P K (fs.mapM fun f=>do pure (f.offset,←sizeOf f.type):Sem (Array (Nat×Nat))):=fun fs K=>Zfi (fun f K=>Zf (fun _=>Q4) fun _ _=>Zn) fs K
 exact mtA
theorem Za2 {t:TypeId} {n:Nat} {ps:Array (Nat×Value)}:Zv P K (Instr.buildSlice t n ps):=by
 unfold Instr.buildSlice
 exact mtA
end
end Go.Proofs.YtjgpiclllehgmaaGreat.Conc1
