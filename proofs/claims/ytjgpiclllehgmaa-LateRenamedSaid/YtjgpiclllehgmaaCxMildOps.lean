/- The operations of a region that touch memory plainly. -/
import Derived.Test.YtjgpiclllehgmaaCxMild
set_option linter.unusedSimpArgs false
set_option linter.unusedVariables false
namespace Go.Proofs.Ytjgpiclllehgmaa.Conc1
open Go
section
variable {P:Program} {α β:Type} {K:Nat→Prop}
theorem Zs.of_dies {s:Sem α} (h:Qg P s) (K:Nat→Prop):Zs P K s:=Qb.of_dies h K
theorem ZaT {s:String}:Qg P (stuck s:Sem α):=trivial
theorem Z5 {s:String}:Zs P K (stuck s:Sem α):=trivial
theorem QN {s:Unsupported}:Zs P K (unsupported s:Sem α):=trivial
theorem Zl {a:α}:Zs P K (pure a:Sem α):=trivial
theorem ZcU {v:Value}:Qg P (goPanic v:Sem α):=trivial
theorem X7 {c:Prop} [Decidable c] {a b:Sem α} (h1:Zs P K a) (h2:Zs P K b):Zs P K (if c then a else b):=by
 split
 ·exact h1
 ·exact h2
theorem Zf {s:Sem α} {f:α→Sem β} (h:∀K,Zs P K s) (hf:∀a K,Zs P K (f a)):Zs P K (s>>=f):=Qb.bind (h K) fun a K' _ _=>hf a K'
theorem Q5 {Q:α→Prop} {s:Sem α} {f:α→Sem β} (h:∀K,Qb P Q K s) (hf:∀a K,Q a→Zs P K (f a)):Zs P K (s>>=f):=Qb.bind (h K) fun a K' hq _=>hf a K' hq
theorem Zbp {Q:α→Prop} {Q':β→Prop} {s:Sem α} {f:α→Sem β} (h:∀K,Qb P Q K s) (hf:∀a K,Q a→Qb P Q' K (f a)):Qb P Q' K (s>>=f):=Qb.bind (h K) fun a K' hq _=>hf a K' hq
theorem Zdj {a:Addr}:Zs P K (load a):=⟨.inl rfl,fun _=>trivial⟩
theorem Zff {a:Addr} {v:Value}:Zs P K (store a v):=⟨.inl rfl,trivial⟩
theorem Ym {o:Obj} (h:o.isChan=false):Zs P K (newObj o):=.inl ⟨h,fun _=>trivial⟩
theorem JN {q:Question}:Zs P K (choose q):=fun _=>trivial
theorem Jk:Zs P K program:=trivial
theorem Zhz {n:Nat}:Zs P K (askRoom n):=by
 unfold askRoom
 split
 ·exact .inl ⟨rfl,trivial⟩
 ·trivial
theorem Q0 {r:Nat} {f:Obj→Sem α} (h:∀o,o.isChan=false→Zs P (fun x=>K x∨x=r) (f o)) (hd:∀o,o.isChan=true→Qg P (f o)):Zs P K (getObj r>>=f):=fun o=>⟨hd o,h o⟩
theorem Xj {r:Nat} {o:Obj} (hr:K r) (ho:o.isChan=false):Zs P K (setObj r o):=.inl ⟨hr,ho,trivial⟩
theorem Zbo {t:TypeId}:Qb P (fun i=>P.info? t=some i) K (typeInfo t):=by
 show Qb P _ K (match P.info? t with|some i=>pure i|none=>stuck "no such type")
 split
 ·rename_i h;exact h
 ·trivial
theorem YV {t:TypeId}:Zs P K (typeInfo t):=Zbo.mono (fun _ _=>trivial) fun _ h=>h
theorem XN {t:TypeId}:Qb P (fun i=>P.underlying t=some i) K (underlying t):=by
 show Qb P _ K (match P.underlying t with|some i=>pure i|none=>stuck "no such type")
 split
 ·rename_i h;exact h
 ·trivial
theorem ZW {t:TypeId}:Zs P K (underlying t):=XN.mono (fun _ _=>trivial) fun _ h=>h
theorem ZhA {t:TypeId}:Qb P (fun n=>∃i,P.info? t=some i∧n=i.size) K (sizeOf t):=Zbp (fun _=>Zbo) fun i K h=>⟨i,h,rfl⟩
theorem Jv {t:TypeId}:Zs P K (zeroValue t):=Zf (fun _=>YV) fun i K=>by split<;>trivial
theorem QZ {t:TypeId}:Zs P K (sizeOf t):=Zf (fun _=>YV) fun i K=>trivial
theorem ZaI {t:TypeId}:Zs P K (isAgg t):=Zf (fun _=>ZW) fun i K=>by split<;>trivial
theorem Jw {a:Addr}:∀ {n i:Nat} {acc:Array Value} {K:Nat→Prop},Zs P K (loadCellsFrom a i n acc)
 |0,_,_,_=>trivial
 |n+1,_,_,_=>Zf (fun _=>Zdj) fun _ _=>Jw
theorem Jx {a:Addr} {n:Nat}:Zs P K (loadCells a n):=Jw
theorem Yc {a:Addr}:∀ {vs:List Value} {i:Nat} {K:Nat→Prop},Zs P K (storeCells a vs i)
 |[],_,_=>trivial
 |v::vs,_,_=>Zf (fun _=>Zff) fun _ _=>Yc
theorem ZaH {t:TypeId} {a:Addr}:Zs P K (loadVar t a):=Zf (fun _=>ZaI) fun b K=>by
 split
 ·exact Zf (fun _=>QZ) fun _ _=>Zf (fun _=>Jx) fun _ _=>trivial
 ·exact Zdj
theorem Zca {t:TypeId} {a:Addr} {v:Value}:Zs P K (storeVar t a v):=Zf (fun _=>QZ) fun n K=>by
 split
 ·exact Z5
 ·exact Yc
theorem Zd5 {t:TypeId} {c:Array Value}:Zs P K (newRow t c):=Zf (fun _=>Ym rfl) fun _ _=>trivial
theorem Zbk {t:TypeId} {c:Value}:Zs P K (newVar t c):=Zd5
theorem XM {t:TypeId} {c:Array Value} {o:Nat}:Zs P K (part t c o):=Zf (fun _=>ZaI) fun b K=>by
 split
 ·exact Zf (fun _=>QZ) fun _ _=>trivial
 ·split<;>trivial
theorem YD {e:RuntimeError}:Qg P (runtimePanic e:Sem α):=by
 unfold runtimePanic
 cases e with
 |typeAssertion i c a m=>exact(Qg.bind_right (fun e=>Qg.bind_right (fun r=>ZcU) (newVar e _)) (elemOf P.rt.typeAssertionError):Qg P ((elemOf P.rt.typeAssertionError).bind _))
 |panicNil=>exact(Qg.bind_right (fun e=>Qg.bind_right (fun r=>ZcU) (newVar e _)) (elemOf P.rt.panicNilError):Qg P ((elemOf P.rt.panicNilError).bind _))
 |_=>exact(trivial:Qg P (goPanic _))
theorem ZR {e:RuntimeError}:Zs P K (runtimePanic e:Sem α):=.of_dies YD _
theorem Zdy {k:IntKind} {x y:Int} {c:BoundsCode}:Qg P (boundsPanic k x y c:Sem α):=by
 unfold boundsPanic
 split<;>exact Qg.bind_right (fun _=>YD) _
theorem Zaf {k:IntKind} {x y:Int} {c:BoundsCode}:Zs P K (boundsPanic k x y c:Sem α):=.of_dies Zdy _
theorem ZaM {v:Value}:Zs P K (asIntOf v):=by unfold asIntOf;split<;>trivial
theorem ZjT {v:Value}:Zs P K (asInt v):=Zf (fun _=>ZaM) fun _ _=>trivial
theorem Zd7 {v:Value}:Zs P K (asBool v):=by unfold asBool;split<;>trivial
theorem ZjU {v:Value}:Zs P K (asAgg v):=by unfold asAgg;split<;>trivial
theorem Zd8 {v:Value}:Zs P K (asAddr v):=by
 unfold asAddr
 split
 ·trivial
 ·exact ZR
 ·trivial
theorem YW {v:Value}:Zs P K (Instr.sureAddr v):=by unfold Instr.sureAddr;split<;>trivial
end
section
variable {P:Program} {α β:Type} {K:Nat→Prop}
theorem Zfk {t:TypeId}:Zs P K (Instr.alloc t true (.tuple #[])):=Zf (fun _=>Jv) fun _ _=>Zf (fun _=>Zbk) fun _ _=>trivial
theorem ZnG {t:TypeId} {v:Value}:Zs P K (Instr.box t v):=Zf (fun _=>Zbk) fun _ _=>trivial
theorem Zd6 {t:TypeId} {v:Value}:Zs P K (Instr.loadAt t v):=Zf (fun _=>YW) fun _ _=>ZaH
theorem ZcL {t:TypeId} {v u:Value}:Zs P K (Instr.storeAt t v u):=Zf (fun _=>YW) fun _ _=>Zca
theorem Zeq {a:Addr} {f:Field} (h:∀i,P.info? f.type=some i→i.size≠0):Zs P K (fieldPlace a f):=Q5 (fun _=>ZhA) fun n K ⟨i,h1,h2⟩=>by
 rw[if_neg (by rw[h2];exact h i h1)]
 trivial
theorem Zhu {s:TypeId} {v:Value} {n:Nat} (h:∀fs f,P.underlying s=some (.struct fs)→fs[n]? =some f→∀i,P.info? f.type=some i→i.size≠0):Zs P K (Instr.fieldAt s v n):=Q5 (fun _=>XN) fun d K hd=>by
 split
 ·split
  ·rename_i hf
   exact Zf (fun _=>YW) fun a K=>Zf (fun _=>Zeq (h _ _ hd hf)) fun _ _=>trivial
  ·trivial
 ·trivial
theorem mtA {s:Sem α} (h:Zs P K s:=by(repeat' (first|with_reducible exact Zl|with_reducible exact Z5|with_reducible exact QN|with_reducible exact mild_goPanic|with_reducible exact mild_throw|with_reducible exact YV|with_reducible exact ZW|with_reducible exact Jv|with_reducible exact QZ|with_reducible exact ZaI|with_reducible exact mild_elemOf|with_reducible exact Zdj|with_reducible exact Zff|with_reducible exact mild_shape|with_reducible exact JN|with_reducible exact Jk|with_reducible exact Zhz|with_reducible exact Jx|with_reducible exact Yc|with_reducible exact ZaH|with_reducible exact Zca|with_reducible exact Zd5|with_reducible exact Zbk|with_reducible exact XM|with_reducible exact ZR|with_reducible exact Zaf|with_reducible exact ZaM|with_reducible exact ZjT|with_reducible exact Zd7|with_reducible exact ZjU|with_reducible exact Zd8|with_reducible exact YW|with_reducible exact mild_asString|with_reducible exact Ym rfl|with_reducible exact Zep|with_reducible exact Zdi|with_reducible exact ZjK|with_reducible exact mild_lenOf|with_reducible exact mild_firstCells|with_reducible exact hm _ _|with_reducible exact mild_checkKey _ _ _ _|with_reducible exact mild_findKey hk|exact hd _ _ _|(refine Zf (fun _=>?_) fun _ _=>?_)|(with_reducible refine X7 ?_ ?_)|split|(dsimp only)))):Zs P K s:=h
theorem Zht {t:TypeId} {x i:Value}:Zs P K (Instr.indexAt t x i):=by
 unfold Instr.indexAt
 exact mtA
theorem Zep {x:Value} {y:Nat} {c:BoundsCode}:Zs P K (Instr.sliceBound x y c):=Zf (fun _=>ZaM) fun ki K=>by
 dsimp only
 split
 ·trivial
 ·exact Zaf
theorem Zdi {b:Bool} {l c:Nat} {lo hi mx:Option Value}:Zs P K (Instr.sliceBounds b l c lo hi mx):=by
 unfold Instr.sliceBounds
 exact mtA
theorem ZjK {t:TypeId} {x:Value} {lo hi mx:Option Value}:Zs P K (Instr.slice t x lo hi mx):=by
 unfold Instr.slice
 exact mtA
theorem Zhr {t:TypeId} {x:Value} {lo hi mx:Option Value}:Zs P K (Instr.sliceAt t x lo hi mx):=by
 unfold Instr.sliceAt
 exact mtA
theorem ZjO {t:TypeId} {x:Value} {n:Nat}:Zs P K (Instr.field t x n):=by
 unfold Instr.field
 exact mtA
theorem ZjN {t:TypeId} {x i:Value}:Zs P K (Instr.index t x i):=by
 unfold Instr.index
 exact mtA
theorem Zhv {v:Value} {n:Nat}:Zs P K (Instr.extract v n):=by
 unfold Instr.extract
 (repeat' split)<;>trivial
theorem Zhs {t:TypeId}:Zs P K (Instr.makeMap t none):=Zf (fun _=>Ym rfl) fun _ _=>trivial
theorem Zfi {t:TypeId} {l c:Value}:Zs P K (Instr.makeSlice t l c):=by
 unfold Instr.makeSlice
 exact mtA
theorem ZgB {f:α→Sem β} (h:∀a K,Zs P K (f a)):∀(l:List α) (K:Nat→Prop),Zs P K (l.mapM f)
 |[],_=>by rw[List.mapM_nil];trivial
 |a::l,K=>by
  rw[List.mapM_cons]
  exact Zf (h a) fun _ _=>Zf (fun K=>ZgB h l K) fun _ _=>trivial
theorem Zfh {f:α→Sem β} (h:∀a K,Zs P K (f a)) (l:Array α) (K:Nat→Prop):Zs P K (l.mapM f):=by
 rw[Array.mapM_eq_mapM_toList]
 exact Zf (fun K=>ZgB h _ K) fun _ _=>trivial
theorem ZjS {t:TypeId} {ps:Array (Nat×Value)}:Zs P K (Instr.build t ps):=by
 unfold Instr.build
 have hm:∀(fs:Array Field) (K:Nat→Prop),Zs P K (fs.mapM fun f=>do pure (f.offset,←sizeOf f.type):Sem (Array (Nat×Nat))):=fun fs K=>Zfh (fun f K=>Zf (fun _=>QZ) fun _ _=>Zl) fs K
 exact mtA
theorem Za2 {t:TypeId} {n:Nat} {ps:Array (Nat×Value)}:Zs P K (Instr.buildSlice t n ps):=by
 unfold Instr.buildSlice
 exact mtA
end
end Go.Proofs.Ytjgpiclllehgmaa.Conc1
