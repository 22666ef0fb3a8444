/- The operations of a region that touch memory plainly. -/
import Derived.Test.YtjgpiclllehgmaaGreatCxMild
set_option linter.unusedSimpArgs false
set_option linter.unusedVariables false
namespace Go.Proofs.YtjgpiclllehgmaaGreat.Conc1
open Go
section
variable {P:Program} {α β:Type} {K:Nat→Prop}
theorem Zw.of_dies {s:Sem α} (h:Qh P s) (K:Nat→Prop):Zw P K s:=Z9.of_dies h K
theorem ZaQ {s:String}:Qh P (stuck s:Sem α):=trivial
theorem Z3 {s:String}:Zw P K (stuck s:Sem α):=trivial
theorem QO {s:Unsupported}:Zw P K (unsupported s:Sem α):=trivial
theorem Zn {a:α}:Zw P K (pure a:Sem α):=trivial
theorem ZcU {v:Value}:Qh P (goPanic v:Sem α):=trivial
theorem X1 {c:Prop} [Decidable c] {a b:Sem α} (h1:Zw P K a) (h2:Zw P K b):Zw P K (if c then a else b):=by
 split
 ·exact h1
 ·exact h2
theorem Zf {s:Sem α} {f:α→Sem β} (h:∀K,Zw P K s) (hf:∀a K,Zw P K (f a)):Zw P K (s>>=f):=Z9.bind (h K) fun a K' _ _=>hf a K'
theorem Q9 {Q:α→Prop} {s:Sem α} {f:α→Sem β} (h:∀K,Z9 P Q K s) (hf:∀a K,Q a→Zw P K (f a)):Zw P K (s>>=f):=Z9.bind (h K) fun a K' hq _=>hf a K' hq
theorem Zbq {Q:α→Prop} {Q':β→Prop} {s:Sem α} {f:α→Sem β} (h:∀K,Z9 P Q K s) (hf:∀a K,Q a→Z9 P Q' K (f a)):Z9 P Q' K (s>>=f):=Z9.bind (h K) fun a K' hq _=>hf a K' hq
theorem Zdj {a:Addr}:Zw P K (load a):=⟨.inl rfl,fun _=>trivial⟩
theorem Zfb {a:Addr} {v:Value}:Zw P K (store a v):=⟨.inl rfl,trivial⟩
theorem Yj {o:Obj} (h:o.isChan=false):Zw P K (newObj o):=.inl ⟨h,fun _=>trivial⟩
theorem JP {q:Question}:Zw P K (choose q):=fun _=>trivial
theorem Jj:Zw P K program:=trivial
theorem Zht {n:Nat}:Zw P K (askRoom n):=by
 unfold askRoom
 split
 ·exact .inl ⟨rfl,trivial⟩
 ·trivial
theorem Q4 {r:Nat} {f:Obj→Sem α} (h:∀o,o.isChan=false→Zw P (fun x=>K x∨x=r) (f o)) (hd:∀o,o.isChan=true→Qh P (f o)):Zw P K (getObj r>>=f):=fun o=>⟨hd o,h o⟩
theorem Xq {r:Nat} {o:Obj} (hr:K r) (ho:o.isChan=false):Zw P K (setObj r o):=.inl ⟨hr,ho,trivial⟩
theorem Zbp {t:TypeId}:Z9 P (fun i=>P.info? t=some i) K (typeInfo t):=by
 show Z9 P _ K (match P.info? t with|some i=>pure i|none=>stuck "no such type")
 split
 ·rename_i h;exact h
 ·trivial
theorem YT {t:TypeId}:Zw P K (typeInfo t):=Zbp.mono (fun _ _=>trivial) fun _ h=>h
theorem XO {t:TypeId}:Z9 P (fun i=>P.underlying t=some i) K (underlying t):=by
 show Z9 P _ K (match P.underlying t with|some i=>pure i|none=>stuck "no such type")
 split
 ·rename_i h;exact h
 ·trivial
theorem ZX {t:TypeId}:Zw P K (underlying t):=XO.mono (fun _ _=>trivial) fun _ h=>h
theorem Zhu {t:TypeId}:Z9 P (fun n=>∃i,P.info? t=some i∧n=i.size) K (sizeOf t):=Zbq (fun _=>Zbp) fun i K h=>⟨i,h,rfl⟩
theorem Jw {t:TypeId}:Zw P K (zeroValue t):=Zf (fun _=>YT) fun i K=>by split<;>trivial
theorem Q3 {t:TypeId}:Zw P K (sizeOf t):=Zf (fun _=>YT) fun i K=>trivial
theorem ZaF {t:TypeId}:Zw P K (isAgg t):=Zf (fun _=>ZX) fun i K=>by split<;>trivial
theorem Jx {a:Addr}:∀ {n i:Nat} {acc:Array Value} {K:Nat→Prop},Zw P K (loadCellsFrom a i n acc)
 |0,_,_,_=>trivial
 |n+1,_,_,_=>Zf (fun _=>Zdj) fun _ _=>Jx
theorem Jy {a:Addr} {n:Nat}:Zw P K (loadCells a n):=Jx
theorem X9 {a:Addr}:∀ {vs:List Value} {i:Nat} {K:Nat→Prop},Zw P K (storeCells a vs i)
 |[],_,_=>trivial
 |v::vs,_,_=>Zf (fun _=>Zfb) fun _ _=>X9
theorem ZaE {t:TypeId} {a:Addr}:Zw P K (loadVar t a):=Zf (fun _=>ZaF) fun b K=>by
 split
 ·exact Zf (fun _=>Q3) fun _ _=>Zf (fun _=>Jy) fun _ _=>trivial
 ·exact Zdj
theorem Zce {t:TypeId} {a:Addr} {v:Value}:Zw P K (storeVar t a v):=Zf (fun _=>Q3) fun n K=>by
 split
 ·exact Z3
 ·exact X9
theorem Zd1 {t:TypeId} {c:Array Value}:Zw P K (newRow t c):=Zf (fun _=>Yj rfl) fun _ _=>trivial
theorem Zbl {t:TypeId} {c:Value}:Zw P K (newVar t c):=Zd1
theorem XN {t:TypeId} {c:Array Value} {o:Nat}:Zw P K (part t c o):=Zf (fun _=>ZaF) fun b K=>by
 split
 ·exact Zf (fun _=>Q3) fun _ _=>trivial
 ·split<;>trivial
theorem YB {e:RuntimeError}:Qh P (runtimePanic e:Sem α):=by
 unfold runtimePanic
 cases e with
 |typeAssertion i c a m=>exact(Qh.bind_right (fun e=>Qh.bind_right (fun r=>ZcU) (newVar e _)) (elemOf P.rt.typeAssertionError):Qh P ((elemOf P.rt.typeAssertionError).bind _))
 |panicNil=>exact(Qh.bind_right (fun e=>Qh.bind_right (fun r=>ZcU) (newVar e _)) (elemOf P.rt.panicNilError):Qh P ((elemOf P.rt.panicNilError).bind _))
 |_=>exact(trivial:Qh P (goPanic _))
theorem ZT {e:RuntimeError}:Zw P K (runtimePanic e:Sem α):=.of_dies YB _
theorem Zdz {k:IntKind} {x y:Int} {c:BoundsCode}:Qh P (boundsPanic k x y c:Sem α):=by
 unfold boundsPanic
 split<;>exact Qh.bind_right (fun _=>YB) _
theorem Zad {k:IntKind} {x y:Int} {c:BoundsCode}:Zw P K (boundsPanic k x y c:Sem α):=.of_dies Zdz _
theorem ZaJ {v:Value}:Zw P K (asIntOf v):=by unfold asIntOf;split<;>trivial
theorem ZjV {v:Value}:Zw P K (asInt v):=Zf (fun _=>ZaJ) fun _ _=>trivial
theorem Zd3 {v:Value}:Zw P K (asBool v):=by unfold asBool;split<;>trivial
theorem ZjW {v:Value}:Zw P K (asAgg v):=by unfold asAgg;split<;>trivial
theorem Zd4 {v:Value}:Zw P K (asAddr v):=by
 unfold asAddr
 split
 ·trivial
 ·exact ZT
 ·trivial
theorem YU {v:Value}:Zw P K (Instr.sureAddr v):=by unfold Instr.sureAddr;split<;>trivial
end
section
variable {P:Program} {α β:Type} {K:Nat→Prop}
theorem Zfg {t:TypeId}:Zw P K (Instr.alloc t true (.tuple #[])):=Zf (fun _=>Jw) fun _ _=>Zf (fun _=>Zbl) fun _ _=>trivial
theorem Zoe {t:TypeId} {v:Value}:Zw P K (Instr.box t v):=Zf (fun _=>Zbl) fun _ _=>trivial
theorem Zd2 {t:TypeId} {v:Value}:Zw P K (Instr.loadAt t v):=Zf (fun _=>YU) fun _ _=>ZaE
theorem ZcK {t:TypeId} {v u:Value}:Zw P K (Instr.storeAt t v u):=Zf (fun _=>YU) fun _ _=>Zce
theorem Zeo {a:Addr} {f:Field} (h:∀i,P.info? f.type=some i→i.size≠0):Zw P K (fieldPlace a f):=Q9 (fun _=>Zhu) fun n K ⟨i,h1,h2⟩=>by
 rw[if_neg (by rw[h2];exact h i h1)]
 trivial
theorem Zho {s:TypeId} {v:Value} {n:Nat} (h:∀fs f,P.underlying s=some (.struct fs)→fs[n]? =some f→∀i,P.info? f.type=some i→i.size≠0):Zw P K (Instr.fieldAt s v n):=Q9 (fun _=>XO) fun d K hd=>by
 split
 ·split
  ·rename_i hf
   exact Zf (fun _=>YU) fun a K=>Zf (fun _=>Zeo (h _ _ hd hf)) fun _ _=>trivial
  ·trivial
 ·trivial
theorem mtA {s:Sem α} (h:Zw P K s:=by(repeat' (first|with_reducible exact Zn|with_reducible exact Z3|with_reducible exact QO|with_reducible exact mild_goPanic|with_reducible exact mild_throw|with_reducible exact YT|with_reducible exact ZX|with_reducible exact Jw|with_reducible exact Q3|with_reducible exact ZaF|with_reducible exact mild_elemOf|with_reducible exact Zdj|with_reducible exact Zfb|with_reducible exact mild_shape|with_reducible exact JP|with_reducible exact Jj|with_reducible exact Zht|with_reducible exact Jy|with_reducible exact X9|with_reducible exact ZaE|with_reducible exact Zce|with_reducible exact Zd1|with_reducible exact Zbl|with_reducible exact XN|with_reducible exact ZT|with_reducible exact Zad|with_reducible exact ZaJ|with_reducible exact ZjV|with_reducible exact Zd3|with_reducible exact ZjW|with_reducible exact Zd4|with_reducible exact YU|with_reducible exact mild_asString|with_reducible exact Yj rfl|with_reducible exact Zen|with_reducible exact Zdi|with_reducible exact ZjM|with_reducible exact mild_lenOf|with_reducible exact mild_firstCells|with_reducible exact hm _ _|with_reducible exact mild_checkKey _ _ _ _|with_reducible exact mild_findKey hk|exact hd _ _ _|(refine Zf (fun _=>?_) fun _ _=>?_)|(with_reducible refine X1 ?_ ?_)|split|(dsimp only)))):Zw P K s:=h
theorem Zhn {t:TypeId} {x i:Value}:Zw P K (Instr.indexAt t x i):=by
 unfold Instr.indexAt
 exact mtA
theorem Zen {x:Value} {y:Nat} {c:BoundsCode}:Zw P K (Instr.sliceBound x y c):=Zf (fun _=>ZaJ) fun ki K=>by
 dsimp only
 split
 ·trivial
 ·exact Zad
theorem Zdi {b:Bool} {l c:Nat} {lo hi mx:Option Value}:Zw P K (Instr.sliceBounds b l c lo hi mx):=by
 unfold Instr.sliceBounds
 exact mtA
theorem ZjM {t:TypeId} {x:Value} {lo hi mx:Option Value}:Zw P K (Instr.slice t x lo hi mx):=by
 unfold Instr.slice
 exact mtA
theorem Zhl {t:TypeId} {x:Value} {lo hi mx:Option Value}:Zw P K (Instr.sliceAt t x lo hi mx):=by
 unfold Instr.sliceAt
 exact mtA
theorem ZjQ {t:TypeId} {x:Value} {n:Nat}:Zw P K (Instr.field t x n):=by
 unfold Instr.field
 exact mtA
theorem ZjP {t:TypeId} {x i:Value}:Zw P K (Instr.index t x i):=by
 unfold Instr.index
 exact mtA
theorem Zhp {v:Value} {n:Nat}:Zw P K (Instr.extract v n):=by
 unfold Instr.extract
 (repeat' split)<;>trivial
theorem Zhm {t:TypeId}:Zw P K (Instr.makeMap t none):=Zf (fun _=>Yj rfl) fun _ _=>trivial
theorem Zfe {t:TypeId} {l c:Value}:Zw P K (Instr.makeSlice t l c):=by
 unfold Instr.makeSlice
 exact mtA
theorem Zgv {f:α→Sem β} (h:∀a K,Zw P K (f a)):∀(l:List α) (K:Nat→Prop),Zw P K (l.mapM f)
 |[],_=>by rw[List.mapM_nil];trivial
 |a::l,K=>by
  rw[List.mapM_cons]
  exact Zf (h a) fun _ _=>Zf (fun K=>Zgv h l K) fun _ _=>trivial
theorem Zfd {f:α→Sem β} (h:∀a K,Zw P K (f a)) (l:Array α) (K:Nat→Prop):Zw P K (l.mapM f):=by
 rw[Array.mapM_eq_mapM_toList]
 exact Zf (fun K=>Zgv h _ K) fun _ _=>trivial
theorem ZjU {t:TypeId} {ps:Array (Nat×Value)}:Zw P K (Instr.build t ps):=by
 unfold Instr.build
 have hm:∀(fs:Array Field) (K:Nat→Prop),Zw P K (fs.mapM fun f=>do pure (f.offset,←sizeOf f.type):Sem (Array (Nat×Nat))):=fun fs K=>Zfd (fun f K=>Zf (fun _=>Q3) fun _ _=>Zn) fs K
 exact mtA
theorem Za0 {t:TypeId} {n:Nat} {ps:Array (Nat×Value)}:Zw P K (Instr.buildSlice t n ps):=by
 unfold Instr.buildSlice
 exact mtA
end
end Go.Proofs.YtjgpiclllehgmaaGreat.Conc1
