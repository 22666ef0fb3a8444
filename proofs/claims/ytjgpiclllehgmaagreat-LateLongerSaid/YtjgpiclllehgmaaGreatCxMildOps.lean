/- The operations of a region that touch memory plainly. -/
import Derived.Test.YtjgpiclllehgmaaGreatCxMild
set_option linter.unusedSimpArgs false
set_option linter.unusedVariables false
namespace Go.Proofs.YtjgpiclllehgmaaGreat.Conc1
open Go
section
variable {P:Program} {α β:Type} {K:Nat→Prop}
theorem Zw.of_dies {s:Sem α} (h:Qm P s) (K:Nat→Prop):Zw P K s:=Qc.of_dies h K
theorem Za1 {s:String}:Qm P (stuck s:Sem α):=trivial
theorem Z6 {s:String}:Zw P K (stuck s:Sem α):=trivial
theorem QX {s:Unsupported}:Zw P K (unsupported s:Sem α):=trivial
theorem Zp {a:α}:Zw P K (pure a:Sem α):=trivial
theorem Zc5 {v:Value}:Qm P (goPanic v:Sem α):=trivial
theorem X9 {c:Prop} [Decidable c] {a b:Sem α} (h1:Zw P K a) (h2:Zw P K b):Zw P K (if c then a else b):=by
 split
 ·exact h1
 ·exact h2
theorem Zg {s:Sem α} {f:α→Sem β} (h:∀K,Zw P K s) (hf:∀a K,Zw P K (f a)):Zw P K (s>>=f):=Qc.bind (h K) fun a K' _ _=>hf a K'
theorem Xe {Q:α→Prop} {s:Sem α} {f:α→Sem β} (h:∀K,Qc P Q K s) (hf:∀a K,Q a→Zw P K (f a)):Zw P K (s>>=f):=Qc.bind (h K) fun a K' hq _=>hf a K' hq
theorem Zbz {Q:α→Prop} {Q':β→Prop} {s:Sem α} {f:α→Sem β} (h:∀K,Qc P Q K s) (hf:∀a K,Q a→Qc P Q' K (f a)):Qc P Q' K (s>>=f):=Qc.bind (h K) fun a K' hq _=>hf a K' hq
theorem Zdu {a:Addr}:Zw P K (load a):=⟨.inl rfl,fun _=>trivial⟩
theorem Zfo {a:Addr} {v:Value}:Zw P K (store a v):=⟨.inl rfl,trivial⟩
theorem Yp {o:Obj} (h:o.isChan=false):Zw P K (newObj o):=.inl ⟨h,fun _=>trivial⟩
theorem JT {q:Question}:Zw P K (choose q):=fun _=>trivial
theorem Jo:Zw P K program:=trivial
theorem ZhK {n:Nat}:Zw P K (askRoom n):=by
 unfold askRoom
 split
 ·exact .inl ⟨rfl,trivial⟩
 ·trivial
theorem Q9 {r:Nat} {f:Obj→Sem α} (h:∀o,o.isChan=false→Zw P (fun x=>K x∨x=r) (f o)) (hd:∀o,o.isChan=true→Qm P (f o)):Zw P K (getObj r>>=f):=fun o=>⟨hd o,h o⟩
theorem Xr {r:Nat} {o:Obj} (hr:K r) (ho:o.isChan=false):Zw P K (setObj r o):=.inl ⟨hr,ho,trivial⟩
theorem Zby {t:TypeId}:Qc P (fun i=>P.info? t=some i) K (typeInfo t):=by
 show Qc P _ K (match P.info? t with|some i=>pure i|none=>stuck "no such type")
 split
 ·rename_i h;exact h
 ·trivial
theorem YX {t:TypeId}:Zw P K (typeInfo t):=Zby.mono (fun _ _=>trivial) fun _ h=>h
theorem XO {t:TypeId}:Qc P (fun i=>P.underlying t=some i) K (underlying t):=by
 show Qc P _ K (match P.underlying t with|some i=>pure i|none=>stuck "no such type")
 split
 ·rename_i h;exact h
 ·trivial
theorem ZZ {t:TypeId}:Zw P K (underlying t):=XO.mono (fun _ _=>trivial) fun _ h=>h
theorem ZhL {t:TypeId}:Qc P (fun n=>∃i,P.info? t=some i∧n=i.size) K (sizeOf t):=Zbz (fun _=>Zby) fun i K h=>⟨i,h,rfl⟩
theorem Jz {t:TypeId}:Zw P K (zeroValue t):=Zg (fun _=>YX) fun i K=>by split<;>trivial
theorem Q8 {t:TypeId}:Zw P K (sizeOf t):=Zg (fun _=>YX) fun i K=>trivial
theorem ZaP {t:TypeId}:Zw P K (isAgg t):=Zg (fun _=>ZZ) fun i K=>by split<;>trivial
theorem JA {a:Addr}:∀ {n i:Nat} {acc:Array Value} {K:Nat→Prop},Zw P K (loadCellsFrom a i n acc)
 |0,_,_,_=>trivial
 |n+1,_,_,_=>Zg (fun _=>Zdu) fun _ _=>JA
theorem JB {a:Addr} {n:Nat}:Zw P K (loadCells a n):=JA
theorem Yf {a:Addr}:∀ {vs:List Value} {i:Nat} {K:Nat→Prop},Zw P K (storeCells a vs i)
 |[],_,_=>trivial
 |v::vs,_,_=>Zg (fun _=>Zfo) fun _ _=>Yf
theorem ZaO {t:TypeId} {a:Addr}:Zw P K (loadVar t a):=Zg (fun _=>ZaP) fun b K=>by
 split
 ·exact Zg (fun _=>Q8) fun _ _=>Zg (fun _=>JB) fun _ _=>trivial
 ·exact Zdu
theorem Zcn {t:TypeId} {a:Addr} {v:Value}:Zw P K (storeVar t a v):=Zg (fun _=>Q8) fun n K=>by
 split
 ·exact Z6
 ·exact Yf
theorem Zed {t:TypeId} {c:Array Value}:Zw P K (newRow t c):=Zg (fun _=>Yp rfl) fun _ _=>trivial
theorem Zbu {t:TypeId} {c:Value}:Zw P K (newVar t c):=Zed
theorem XN {t:TypeId} {c:Array Value} {o:Nat}:Zw P K (part t c o):=Zg (fun _=>ZaP) fun b K=>by
 split
 ·exact Zg (fun _=>Q8) fun _ _=>trivial
 ·split<;>trivial
theorem YG {e:RuntimeError}:Qm P (runtimePanic e:Sem α):=by
 unfold runtimePanic
 cases e with
 |typeAssertion i c a m=>exact(Qm.bind_right (fun e=>Qm.bind_right (fun r=>Zc5) (newVar e _)) (elemOf P.rt.typeAssertionError):Qm P ((elemOf P.rt.typeAssertionError).bind _))
 |panicNil=>exact(Qm.bind_right (fun e=>Qm.bind_right (fun r=>Zc5) (newVar e _)) (elemOf P.rt.panicNilError):Qm P ((elemOf P.rt.panicNilError).bind _))
 |_=>exact(trivial:Qm P (goPanic _))
theorem ZW {e:RuntimeError}:Zw P K (runtimePanic e:Sem α):=.of_dies YG _
theorem ZdL {k:IntKind} {x y:Int} {c:BoundsCode}:Qm P (boundsPanic k x y c:Sem α):=by
 unfold boundsPanic
 split<;>exact Qm.bind_right (fun _=>YG) _
theorem Zam {k:IntKind} {x y:Int} {c:BoundsCode}:Zw P K (boundsPanic k x y c:Sem α):=.of_dies ZdL _
theorem ZaT {v:Value}:Zw P K (asIntOf v):=by unfold asIntOf;split<;>trivial
theorem Zkg {v:Value}:Zw P K (asInt v):=Zg (fun _=>ZaT) fun _ _=>trivial
theorem Zef {v:Value}:Zw P K (asBool v):=by unfold asBool;split<;>trivial
theorem Zkh {v:Value}:Zw P K (asAgg v):=by unfold asAgg;split<;>trivial
theorem Zeg {v:Value}:Zw P K (asAddr v):=by
 unfold asAddr
 split
 ·trivial
 ·exact ZW
 ·trivial
theorem YY {v:Value}:Zw P K (Instr.sureAddr v):=by unfold Instr.sureAddr;split<;>trivial
end
section
variable {P:Program} {α β:Type} {K:Nat→Prop}
theorem Zft {t:TypeId}:Zw P K (Instr.alloc t true (.tuple #[])):=Zg (fun _=>Jz) fun _ _=>Zg (fun _=>Zbu) fun _ _=>trivial
theorem ZoI {t:TypeId} {v:Value}:Zw P K (Instr.box t v):=Zg (fun _=>Zbu) fun _ _=>trivial
theorem Zee {t:TypeId} {v:Value}:Zw P K (Instr.loadAt t v):=Zg (fun _=>YY) fun _ _=>ZaO
theorem ZcW {t:TypeId} {v u:Value}:Zw P K (Instr.storeAt t v u):=Zg (fun _=>YY) fun _ _=>Zcn
theorem Zey {a:Addr} {f:Field} (h:∀i,P.info? f.type=some i→i.size≠0):Zw P K (fieldPlace a f):=Xe (fun _=>ZhL) fun n K ⟨i,h1,h2⟩=>by
 rw[if_neg (by rw[h2];exact h i h1)]
 trivial
theorem ZhF {s:TypeId} {v:Value} {n:Nat} (h:∀fs f,P.underlying s=some (.struct fs)→fs[n]? =some f→∀i,P.info? f.type=some i→i.size≠0):Zw P K (Instr.fieldAt s v n):=Xe (fun _=>XO) fun d K hd=>by
 split
 ·split
  ·rename_i hf
   exact Zg (fun _=>YY) fun a K=>Zg (fun _=>Zey (h _ _ hd hf)) fun _ _=>trivial
  ·trivial
 ·trivial
theorem mtA {s:Sem α} (h:Zw P K s:=by(repeat' (first|with_reducible exact Zp|with_reducible exact Z6|with_reducible exact QX|with_reducible exact mild_goPanic|with_reducible exact mild_throw|with_reducible exact YX|with_reducible exact ZZ|with_reducible exact Jz|with_reducible exact Q8|with_reducible exact ZaP|with_reducible exact mild_elemOf|with_reducible exact Zdu|with_reducible exact Zfo|with_reducible exact mild_shape|with_reducible exact JT|with_reducible exact Jo|with_reducible exact ZhK|with_reducible exact JB|with_reducible exact Yf|with_reducible exact ZaO|with_reducible exact Zcn|with_reducible exact Zed|with_reducible exact Zbu|with_reducible exact XN|with_reducible exact ZW|with_reducible exact Zam|with_reducible exact ZaT|with_reducible exact Zkg|with_reducible exact Zef|with_reducible exact Zkh|with_reducible exact Zeg|with_reducible exact YY|with_reducible exact mild_asString|with_reducible exact Yp rfl|with_reducible exact Zex|with_reducible exact Zdt|with_reducible exact Zj7|with_reducible exact mild_lenOf|with_reducible exact mild_firstCells|with_reducible exact hm _ _|with_reducible exact mild_checkKey _ _ _ _|with_reducible exact mild_findKey hk|exact hd _ _ _|(refine Zg (fun _=>?_) fun _ _=>?_)|(with_reducible refine X9 ?_ ?_)|split|(dsimp only)))):Zw P K s:=h
theorem ZhE {t:TypeId} {x i:Value}:Zw P K (Instr.indexAt t x i):=by
 unfold Instr.indexAt
 exact mtA
theorem Zex {x:Value} {y:Nat} {c:BoundsCode}:Zw P K (Instr.sliceBound x y c):=Zg (fun _=>ZaT) fun ki K=>by
 dsimp only
 split
 ·trivial
 ·exact Zam
theorem Zdt {b:Bool} {l c:Nat} {lo hi mx:Option Value}:Zw P K (Instr.sliceBounds b l c lo hi mx):=by
 unfold Instr.sliceBounds
 exact mtA
theorem Zj7 {t:TypeId} {x:Value} {lo hi mx:Option Value}:Zw P K (Instr.slice t x lo hi mx):=by
 unfold Instr.slice
 exact mtA
theorem ZhC {t:TypeId} {x:Value} {lo hi mx:Option Value}:Zw P K (Instr.sliceAt t x lo hi mx):=by
 unfold Instr.sliceAt
 exact mtA
theorem Zkb {t:TypeId} {x:Value} {n:Nat}:Zw P K (Instr.field t x n):=by
 unfold Instr.field
 exact mtA
theorem Zka {t:TypeId} {x i:Value}:Zw P K (Instr.index t x i):=by
 unfold Instr.index
 exact mtA
theorem ZhG {v:Value} {n:Nat}:Zw P K (Instr.extract v n):=by
 unfold Instr.extract
 (repeat' split)<;>trivial
theorem ZhD {t:TypeId}:Zw P K (Instr.makeMap t none):=Zg (fun _=>Yp rfl) fun _ _=>trivial
theorem Zfr {t:TypeId} {l c:Value}:Zw P K (Instr.makeSlice t l c):=by
 unfold Instr.makeSlice
 exact mtA
theorem ZgK {f:α→Sem β} (h:∀a K,Zw P K (f a)):∀(l:List α) (K:Nat→Prop),Zw P K (l.mapM f)
 |[],_=>by rw[List.mapM_nil];trivial
 |a::l,K=>by
  rw[List.mapM_cons]
  exact Zg (h a) fun _ _=>Zg (fun K=>ZgK h l K) fun _ _=>trivial
theorem Zfq {f:α→Sem β} (h:∀a K,Zw P K (f a)) (l:Array α) (K:Nat→Prop):Zw P K (l.mapM f):=by
 rw[Array.mapM_eq_mapM_toList]
 exact Zg (fun K=>ZgK h _ K) fun _ _=>trivial
theorem Zkf {t:TypeId} {ps:Array (Nat×Value)}:Zw P K (Instr.build t ps):=by
 unfold Instr.build
 have hm:∀(fs:Array Field) (K:Nat→Prop),Zw P K (fs.mapM fun f=>do pure (f.offset,←sizeOf f.type):Sem (Array (Nat×Nat))):=fun fs K=>Zfq (fun f K=>Zg (fun _=>Q8) fun _ _=>Zp) fs K
 exact mtA
theorem Zbb {t:TypeId} {n:Nat} {ps:Array (Nat×Value)}:Zw P K (Instr.buildSlice t n ps):=by
 unfold Instr.buildSlice
 exact mtA
end
end Go.Proofs.YtjgpiclllehgmaaGreat.Conc1
