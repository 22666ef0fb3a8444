/- The operations of a region that touch memory plainly. -/
import Derived.Test.YtjgpiclllehgmaaCxMild
set_option linter.unusedSimpArgs false
set_option linter.unusedVariables false
namespace Go.Proofs.Ytjgpiclllehgmaa.Conc1
open Go
section
variable {P:Program} {α β:Type} {K:Nat→Prop}
theorem ZaF.of_dies {s:Sem α} (h:ZbY P s) (K:Nat→Prop):ZaF P K s:=Zba.of_dies h K
theorem Ze4 {s:String}:ZbY P (stuck s:Sem α):=trivial
theorem ZaH {s:String}:ZaF P K (stuck s:Sem α):=trivial
theorem Zbj {s:Unsupported}:ZaF P K (unsupported s:Sem α):=trivial
theorem Zaj {a:α}:ZaF P K (pure a:Sem α):=trivial
theorem ZgT {v:Value}:ZbY P (goPanic v:Sem α):=trivial
theorem ZcN {c:Prop} [Decidable c] {a b:Sem α} (h1:ZaF P K a) (h2:ZaF P K b):ZaF P K (if c then a else b):=by
 split
 ·exact h1
 ·exact h2
theorem Zab {s:Sem α} {f:α→Sem β} (h:∀K,ZaF P K s) (hf:∀a K,ZaF P K (f a)):ZaF P K (s>>=f):=Zba.bind (h K) fun a K' _ _=>hf a K'
theorem ZbG {Q:α→Prop} {s:Sem α} {f:α→Sem β} (h:∀K,Zba P Q K s) (hf:∀a K,Q a→ZaF P K (f a)):ZaF P K (s>>=f):=Zba.bind (h K) fun a K' hq _=>hf a K' hq
theorem Zft {Q:α→Prop} {Q':β→Prop} {s:Sem α} {f:α→Sem β} (h:∀K,Zba P Q K s) (hf:∀a K,Q a→Zba P Q' K (f a)):Zba P Q' K (s>>=f):=Zba.bind (h K) fun a K' hq _=>hf a K' hq
theorem ZhD {a:Addr}:ZaF P K (load a):=⟨.inl rfl,fun _=>trivial⟩
theorem ZiJ {a:Addr} {v:Value}:ZaF P K (store a v):=⟨.inl rfl,trivial⟩
theorem ZcC {o:Obj} (h:o.isChan=false):ZaF P K (newObj o):=.inl ⟨h,fun _=>trivial⟩
theorem Zd1 {q:Question}:ZaF P K (choose q):=fun _=>trivial
theorem Zdt:ZaF P K program:=trivial
theorem ZkD {n:Nat}:ZaF P K (askRoom n):=by
 unfold askRoom
 split
 ·exact .inl ⟨rfl,trivial⟩
 ·trivial
theorem Zbx {r:Nat} {f:Obj→Sem α} (h:∀o,o.isChan=false→ZaF P (fun x=>K x∨x=r) (f o)) (hd:∀o,o.isChan=true→ZbY P (f o)):ZaF P K (getObj r>>=f):=fun o=>⟨hd o,h o⟩
theorem ZbP {r:Nat} {o:Obj} (hr:K r) (ho:o.isChan=false):ZaF P K (setObj r o):=.inl ⟨hr,ho,trivial⟩
theorem Zff {t:TypeId}:Zba P (fun i=>P.info? t=some i) K (typeInfo t):=by
 show Zba P _ K (match P.info? t with|some i=>pure i|none=>stuck "no such type")
 split
 ·rename_i h;exact h
 ·trivial
theorem Zc0 {t:TypeId}:ZaF P K (typeInfo t):=Zff.mono (fun _ _=>trivial) fun _ h=>h
theorem Zb8 {t:TypeId}:Zba P (fun i=>P.underlying t=some i) K (underlying t):=by
 show Zba P _ K (match P.underlying t with|some i=>pure i|none=>stuck "no such type")
 split
 ·rename_i h;exact h
 ·trivial
theorem ZaD {t:TypeId}:ZaF P K (underlying t):=Zb8.mono (fun _ _=>trivial) fun _ h=>h
theorem ZkE {t:TypeId}:Zba P (fun n=>∃i,P.info? t=some i∧n=i.size) K (sizeOf t):=Zft (fun _=>Zff) fun i K h=>⟨i,h,rfl⟩
theorem ZdD {t:TypeId}:ZaF P K (zeroValue t):=Zab (fun _=>Zc0) fun i K=>by split<;>trivial
theorem Zbw {t:TypeId}:ZaF P K (sizeOf t):=Zab (fun _=>Zc0) fun i K=>trivial
theorem ZeV {t:TypeId}:ZaF P K (isAgg t):=Zab (fun _=>ZaD) fun i K=>by split<;>trivial
theorem Zdu {a:Addr}:∀ {n i:Nat} {acc:Array Value} {K:Nat→Prop},ZaF P K (loadCellsFrom a i n acc)
 |0,_,_,_=>trivial
 |n+1,_,_,_=>Zab (fun _=>ZhD) fun _ _=>Zdu
theorem ZdE {a:Addr} {n:Nat}:ZaF P K (loadCells a n):=Zdu
theorem Zcm {a:Addr}:∀ {vs:List Value} {i:Nat} {K:Nat→Prop},ZaF P K (storeCells a vs i)
 |[],_,_=>trivial
 |v::vs,_,_=>Zab (fun _=>ZiJ) fun _ _=>Zcm
theorem Zes {t:TypeId} {a:Addr}:ZaF P K (loadVar t a):=Zab (fun _=>ZeV) fun b K=>by
 split
 ·exact Zab (fun _=>Zbw) fun _ _=>Zab (fun _=>ZdE) fun _ _=>trivial
 ·exact ZhD
theorem ZfW {t:TypeId} {a:Addr} {v:Value}:ZaF P K (storeVar t a v):=Zab (fun _=>Zbw) fun n K=>by
 split
 ·exact ZaH
 ·exact Zcm
theorem ZhB {t:TypeId} {c:Array Value}:ZaF P K (newRow t c):=Zab (fun _=>ZcC rfl) fun _ _=>trivial
theorem Zfp {t:TypeId} {c:Value}:ZaF P K (newVar t c):=ZhB
theorem Zcn {t:TypeId} {c:Array Value} {o:Nat}:ZaF P K (part t c o):=Zab (fun _=>ZeV) fun b K=>by
 split
 ·exact Zab (fun _=>Zbw) fun _ _=>trivial
 ·split<;>trivial
theorem ZcH {e:RuntimeError}:ZbY P (runtimePanic e:Sem α):=by
 unfold runtimePanic
 cases e with
 |typeAssertion i c a m=>exact(ZbY.bind_right (fun e=>ZbY.bind_right (fun r=>ZgT) (newVar e _)) (elemOf P.rt.typeAssertionError):ZbY P ((elemOf P.rt.typeAssertionError).bind _))
 |panicNil=>exact(ZbY.bind_right (fun e=>ZbY.bind_right (fun r=>ZgT) (newVar e _)) (elemOf P.rt.panicNilError):ZbY P ((elemOf P.rt.panicNilError).bind _))
 |_=>exact(trivial:ZbY P (goPanic _))
theorem ZaB {e:RuntimeError}:ZaF P K (runtimePanic e:Sem α):=.of_dies ZcH _
theorem Zg0 {k:IntKind} {x y:Int} {c:BoundsCode}:ZbY P (boundsPanic k x y c:Sem α):=by
 unfold boundsPanic
 split<;>exact ZbY.bind_right (fun _=>ZcH) _
theorem Zed {k:IntKind} {x y:Int} {c:BoundsCode}:ZaF P K (boundsPanic k x y c:Sem α):=.of_dies Zg0 _
theorem Zex {v:Value}:ZaF P K (asIntOf v):=by unfold asIntOf;split<;>trivial
theorem Zno {v:Value}:ZaF P K (asInt v):=Zab (fun _=>Zex) fun _ _=>trivial
theorem ZhG {v:Value}:ZaF P K (asBool v):=by unfold asBool;split<;>trivial
theorem Znp {v:Value}:ZaF P K (asAgg v):=by unfold asAgg;split<;>trivial
theorem ZhH {v:Value}:ZaF P K (asAddr v):=by
 unfold asAddr
 split
 ·trivial
 ·exact ZaB
 ·trivial
theorem Zc1 {v:Value}:ZaF P K (Instr.sureAddr v):=by unfold Instr.sureAddr;split<;>trivial
end
section
variable {P:Program} {α β:Type} {K:Nat→Prop}
theorem ZiM {t:TypeId}:ZaF P K (Instr.alloc t true (.tuple #[])):=Zab (fun _=>ZdD) fun _ _=>Zab (fun _=>Zfp) fun _ _=>trivial
theorem Zq4 {t:TypeId} {v:Value}:ZaF P K (Instr.box t v):=Zab (fun _=>Zfp) fun _ _=>trivial
theorem ZhC {t:TypeId} {v:Value}:ZaF P K (Instr.loadAt t v):=Zab (fun _=>Zc1) fun _ _=>Zes
theorem ZgN {t:TypeId} {v u:Value}:ZaF P K (Instr.storeAt t v u):=Zab (fun _=>Zc1) fun _ _=>ZfW
theorem ZhE {a:Addr} {f:Field} (h:∀i,P.info? f.type=some i→i.size≠0):ZaF P K (fieldPlace a f):=ZbG (fun _=>ZkE) fun n K ⟨i,h1,h2⟩=>by
 rw[if_neg (by rw[h2];exact h i h1)]
 trivial
theorem Zky {s:TypeId} {v:Value} {n:Nat} (h:∀fs f,P.underlying s=some (.struct fs)→fs[n]? =some f→∀i,P.info? f.type=some i→i.size≠0):ZaF P K (Instr.fieldAt s v n):=ZbG (fun _=>Zb8) fun d K hd=>by
 split
 ·split
  ·rename_i hf
   exact Zab (fun _=>Zc1) fun a K=>Zab (fun _=>ZhE (h _ _ hd hf)) fun _ _=>trivial
  ·trivial
 ·trivial
theorem mtA {s:Sem α} (h:ZaF P K s:=by(repeat' (first|with_reducible exact Zaj|with_reducible exact ZaH|with_reducible exact Zbj|with_reducible exact mild_goPanic|with_reducible exact mild_throw|with_reducible exact Zc0|with_reducible exact ZaD|with_reducible exact ZdD|with_reducible exact Zbw|with_reducible exact ZeV|with_reducible exact mild_elemOf|with_reducible exact ZhD|with_reducible exact ZiJ|with_reducible exact mild_shape|with_reducible exact Zd1|with_reducible exact Zdt|with_reducible exact ZkD|with_reducible exact ZdE|with_reducible exact Zcm|with_reducible exact Zes|with_reducible exact ZfW|with_reducible exact ZhB|with_reducible exact Zfp|with_reducible exact Zcn|with_reducible exact ZaB|with_reducible exact Zed|with_reducible exact Zex|with_reducible exact Zno|with_reducible exact ZhG|with_reducible exact Znp|with_reducible exact ZhH|with_reducible exact Zc1|with_reducible exact mild_asString|with_reducible exact ZcC rfl|with_reducible exact ZhA|with_reducible exact ZgY|with_reducible exact Znf|with_reducible exact mild_lenOf|with_reducible exact mild_firstCells|with_reducible exact hm _ _|with_reducible exact mild_checkKey _ _ _ _|with_reducible exact mild_findKey hk|exact hd _ _ _|(refine Zab (fun _=>?_) fun _ _=>?_)|(with_reducible refine ZcN ?_ ?_)|split|(dsimp only)))):ZaF P K s:=h
theorem Zkx {t:TypeId} {x i:Value}:ZaF P K (Instr.indexAt t x i):=by
 unfold Instr.indexAt
 exact mtA
theorem ZhA {x:Value} {y:Nat} {c:BoundsCode}:ZaF P K (Instr.sliceBound x y c):=Zab (fun _=>Zex) fun ki K=>by
 dsimp only
 split
 ·trivial
 ·exact Zed
theorem ZgY {b:Bool} {l c:Nat} {lo hi mx:Option Value}:ZaF P K (Instr.sliceBounds b l c lo hi mx):=by
 unfold Instr.sliceBounds
 exact mtA
theorem Znf {t:TypeId} {x:Value} {lo hi mx:Option Value}:ZaF P K (Instr.slice t x lo hi mx):=by
 unfold Instr.slice
 exact mtA
theorem Zku {t:TypeId} {x:Value} {lo hi mx:Option Value}:ZaF P K (Instr.sliceAt t x lo hi mx):=by
 unfold Instr.sliceAt
 exact mtA
theorem Znj {t:TypeId} {x:Value} {n:Nat}:ZaF P K (Instr.field t x n):=by
 unfold Instr.field
 exact mtA
theorem Zni {t:TypeId} {x i:Value}:ZaF P K (Instr.index t x i):=by
 unfold Instr.index
 exact mtA
theorem Zkz {v:Value} {n:Nat}:ZaF P K (Instr.extract v n):=by
 unfold Instr.extract
 (repeat' split)<;>trivial
theorem Zkw {t:TypeId}:ZaF P K (Instr.makeMap t none):=Zab (fun _=>ZcC rfl) fun _ _=>trivial
theorem Zin {t:TypeId} {l c:Value}:ZaF P K (Instr.makeSlice t l c):=by
 unfold Instr.makeSlice
 exact mtA
theorem Zkv {f:α→Sem β} (h:∀a K,ZaF P K (f a)):∀(l:List α) (K:Nat→Prop),ZaF P K (l.mapM f)
 |[],_=>by rw[List.mapM_nil];trivial
 |a::l,K=>by
  rw[List.mapM_cons]
  exact Zab (h a) fun _ _=>Zab (fun K=>Zkv h l K) fun _ _=>trivial
theorem ZiK {f:α→Sem β} (h:∀a K,ZaF P K (f a)) (l:Array α) (K:Nat→Prop):ZaF P K (l.mapM f):=by
 rw[Array.mapM_eq_mapM_toList]
 exact Zab (fun K=>Zkv h _ K) fun _ _=>trivial
theorem Znn {t:TypeId} {ps:Array (Nat×Value)}:ZaF P K (Instr.build t ps):=by
 unfold Instr.build
 have hm:∀(fs:Array Field) (K:Nat→Prop),ZaF P K (fs.mapM fun f=>do pure (f.offset,←sizeOf f.type):Sem (Array (Nat×Nat))):=fun fs K=>ZiK (fun f K=>Zab (fun _=>Zbw) fun _ _=>Zaj) fs K
 exact mtA
theorem Zew {t:TypeId} {n:Nat} {ps:Array (Nat×Value)}:ZaF P K (Instr.buildSlice t n ps):=by
 unfold Instr.buildSlice
 exact mtA
end
end Go.Proofs.Ytjgpiclllehgmaa.Conc1
