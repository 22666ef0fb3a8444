/- The operations of a region that touch memory plainly. -/
import Derived.Test.YtjgpiclllehgmaaGreatCxMild
set_option linter.unusedSimpArgs false
set_option linter.unusedVariables false
namespace Go.Proofs.YtjgpiclllehgmaaGreat.Conc1
open Go
section
variable {P:Program} {α β:Type} {K:Nat→Prop}
theorem Zt.of_dies {s:Sem α} (h:Qi P s) (K:Nat→Prop):Zt P K s:=Z9.of_dies h K
theorem ZaR {s:String}:Qi P (stuck s:Sem α):=trivial
theorem Z3 {s:String}:Zt P K (stuck s:Sem α):=trivial
theorem QV {s:Unsupported}:Zt P K (unsupported s:Sem α):=trivial
theorem Zl {a:α}:Zt P K (pure a:Sem α):=trivial
theorem ZcW {v:Value}:Qi P (goPanic v:Sem α):=trivial
theorem Ya {c:Prop} [Decidable c] {a b:Sem α} (h1:Zt P K a) (h2:Zt P K b):Zt P K (if c then a else b):=by
 split
 ·exact h1
 ·exact h2
theorem Zh {s:Sem α} {f:α→Sem β} (h:∀K,Zt P K s) (hf:∀a K,Zt P K (f a)):Zt P K (s>>=f):=Z9.bind (h K) fun a K' _ _=>hf a K'
theorem Xb {Q:α→Prop} {s:Sem α} {f:α→Sem β} (h:∀K,Z9 P Q K s) (hf:∀a K,Q a→Zt P K (f a)):Zt P K (s>>=f):=Z9.bind (h K) fun a K' hq _=>hf a K' hq
theorem Zbo {Q:α→Prop} {Q':β→Prop} {s:Sem α} {f:α→Sem β} (h:∀K,Z9 P Q K s) (hf:∀a K,Q a→Z9 P Q' K (f a)):Z9 P Q' K (s>>=f):=Z9.bind (h K) fun a K' hq _=>hf a K' hq
theorem Zdl {a:Addr}:Zt P K (load a):=⟨.inl rfl,fun _=>trivial⟩
theorem Zfe {a:Addr} {v:Value}:Zt P K (store a v):=⟨.inl rfl,trivial⟩
theorem Yo {o:Obj} (h:o.isChan=false):Zt P K (newObj o):=.inl ⟨h,fun _=>trivial⟩
theorem JL {q:Question}:Zt P K (choose q):=fun _=>trivial
theorem Jh:Zt P K program:=trivial
theorem Zhw {n:Nat}:Zt P K (askRoom n):=by
 unfold askRoom
 split
 ·exact .inl ⟨rfl,trivial⟩
 ·trivial
theorem Q7 {r:Nat} {f:Obj→Sem α} (h:∀o,o.isChan=false→Zt P (fun x=>K x∨x=r) (f o)) (hd:∀o,o.isChan=true→Qi P (f o)):Zt P K (getObj r>>=f):=fun o=>⟨hd o,h o⟩
theorem Xs {r:Nat} {o:Obj} (hr:K r) (ho:o.isChan=false):Zt P K (setObj r o):=.inl ⟨hr,ho,trivial⟩
theorem Zbn {t:TypeId}:Z9 P (fun i=>P.info? t=some i) K (typeInfo t):=by
 show Z9 P _ K (match P.info? t with|some i=>pure i|none=>stuck "no such type")
 split
 ·rename_i h;exact h
 ·trivial
theorem YS {t:TypeId}:Zt P K (typeInfo t):=Zbn.mono (fun _ _=>trivial) fun _ h=>h
theorem XV {t:TypeId}:Z9 P (fun i=>P.underlying t=some i) K (underlying t):=by
 show Z9 P _ K (match P.underlying t with|some i=>pure i|none=>stuck "no such type")
 split
 ·rename_i h;exact h
 ·trivial
theorem ZX {t:TypeId}:Zt P K (underlying t):=XV.mono (fun _ _=>trivial) fun _ h=>h
theorem Zhx {t:TypeId}:Z9 P (fun n=>∃i,P.info? t=some i∧n=i.size) K (sizeOf t):=Zbo (fun _=>Zbn) fun i K h=>⟨i,h,rfl⟩
theorem Js {t:TypeId}:Zt P K (zeroValue t):=Zh (fun _=>YS) fun i K=>by split<;>trivial
theorem Q6 {t:TypeId}:Zt P K (sizeOf t):=Zh (fun _=>YS) fun i K=>trivial
theorem ZaF {t:TypeId}:Zt P K (isAgg t):=Zh (fun _=>ZX) fun i K=>by split<;>trivial
theorem Jt {a:Addr}:∀ {n i:Nat} {acc:Array Value} {K:Nat→Prop},Zt P K (loadCellsFrom a i n acc)
 |0,_,_,_=>trivial
 |n+1,_,_,_=>Zh (fun _=>Zdl) fun _ _=>Jt
theorem Ju {a:Addr} {n:Nat}:Zt P K (loadCells a n):=Jt
theorem Yg {a:Addr}:∀ {vs:List Value} {i:Nat} {K:Nat→Prop},Zt P K (storeCells a vs i)
 |[],_,_=>trivial
 |v::vs,_,_=>Zh (fun _=>Zfe) fun _ _=>Yg
theorem ZaE {t:TypeId} {a:Addr}:Zt P K (loadVar t a):=Zh (fun _=>ZaF) fun b K=>by
 split
 ·exact Zh (fun _=>Q6) fun _ _=>Zh (fun _=>Ju) fun _ _=>trivial
 ·exact Zdl
theorem Zce {t:TypeId} {a:Addr} {v:Value}:Zt P K (storeVar t a v):=Zh (fun _=>Q6) fun n K=>by
 split
 ·exact Z3
 ·exact Yg
theorem Zd3 {t:TypeId} {c:Array Value}:Zt P K (newRow t c):=Zh (fun _=>Yo rfl) fun _ _=>trivial
theorem Zbj {t:TypeId} {c:Value}:Zt P K (newVar t c):=Zd3
theorem XU {t:TypeId} {c:Array Value} {o:Nat}:Zt P K (part t c o):=Zh (fun _=>ZaF) fun b K=>by
 split
 ·exact Zh (fun _=>Q6) fun _ _=>trivial
 ·split<;>trivial
theorem YB {e:RuntimeError}:Qi P (runtimePanic e:Sem α):=by
 unfold runtimePanic
 cases e with
 |typeAssertion i c a m=>exact(Qi.bind_right (fun e=>Qi.bind_right (fun r=>ZcW) (newVar e _)) (elemOf P.rt.typeAssertionError):Qi P ((elemOf P.rt.typeAssertionError).bind _))
 |panicNil=>exact(Qi.bind_right (fun e=>Qi.bind_right (fun r=>ZcW) (newVar e _)) (elemOf P.rt.panicNilError):Qi P ((elemOf P.rt.panicNilError).bind _))
 |_=>exact(trivial:Qi P (goPanic _))
theorem ZR {e:RuntimeError}:Zt P K (runtimePanic e:Sem α):=.of_dies YB _
theorem ZdA {k:IntKind} {x y:Int} {c:BoundsCode}:Qi P (boundsPanic k x y c:Sem α):=by
 unfold boundsPanic
 split<;>exact Qi.bind_right (fun _=>YB) _
theorem Zae {k:IntKind} {x y:Int} {c:BoundsCode}:Zt P K (boundsPanic k x y c:Sem α):=.of_dies ZdA _
theorem ZaJ {v:Value}:Zt P K (asIntOf v):=by unfold asIntOf;split<;>trivial
theorem ZjQ {v:Value}:Zt P K (asInt v):=Zh (fun _=>ZaJ) fun _ _=>trivial
theorem Zd5 {v:Value}:Zt P K (asBool v):=by unfold asBool;split<;>trivial
theorem ZjR {v:Value}:Zt P K (asAgg v):=by unfold asAgg;split<;>trivial
theorem Zd6 {v:Value}:Zt P K (asAddr v):=by
 unfold asAddr
 split
 ·trivial
 ·exact ZR
 ·trivial
theorem YT {v:Value}:Zt P K (Instr.sureAddr v):=by unfold Instr.sureAddr;split<;>trivial
end
section
variable {P:Program} {α β:Type} {K:Nat→Prop}
theorem Zfj {t:TypeId}:Zt P K (Instr.alloc t true (.tuple #[])):=Zh (fun _=>Js) fun _ _=>Zh (fun _=>Zbj) fun _ _=>trivial
theorem Zn8 {t:TypeId} {v:Value}:Zt P K (Instr.box t v):=Zh (fun _=>Zbj) fun _ _=>trivial
theorem Zd4 {t:TypeId} {v:Value}:Zt P K (Instr.loadAt t v):=Zh (fun _=>YT) fun _ _=>ZaE
theorem ZcN {t:TypeId} {v u:Value}:Zt P K (Instr.storeAt t v u):=Zh (fun _=>YT) fun _ _=>Zce
theorem Zeo {a:Addr} {f:Field} (h:∀i,P.info? f.type=some i→i.size≠0):Zt P K (fieldPlace a f):=Xb (fun _=>Zhx) fun n K ⟨i,h1,h2⟩=>by
 rw[if_neg (by rw[h2];exact h i h1)]
 trivial
theorem Zhr {s:TypeId} {v:Value} {n:Nat} (h:∀fs f,P.underlying s=some (.struct fs)→fs[n]? =some f→∀i,P.info? f.type=some i→i.size≠0):Zt P K (Instr.fieldAt s v n):=Xb (fun _=>XV) fun d K hd=>by
 split
 ·split
  ·rename_i hf
   exact Zh (fun _=>YT) fun a K=>Zh (fun _=>Zeo (h _ _ hd hf)) fun _ _=>trivial
  ·trivial
 ·trivial
theorem mtA {s:Sem α} (h:Zt P K s:=by(repeat' (first|with_reducible exact Zl|with_reducible exact Z3|with_reducible exact QV|with_reducible exact mild_goPanic|with_reducible exact mild_throw|with_reducible exact YS|with_reducible exact ZX|with_reducible exact Js|with_reducible exact Q6|with_reducible exact ZaF|with_reducible exact mild_elemOf|with_reducible exact Zdl|with_reducible exact Zfe|with_reducible exact mild_shape|with_reducible exact JL|with_reducible exact Jh|with_reducible exact Zhw|with_reducible exact Ju|with_reducible exact Yg|with_reducible exact ZaE|with_reducible exact Zce|with_reducible exact Zd3|with_reducible exact Zbj|with_reducible exact XU|with_reducible exact ZR|with_reducible exact Zae|with_reducible exact ZaJ|with_reducible exact ZjQ|with_reducible exact Zd5|with_reducible exact ZjR|with_reducible exact Zd6|with_reducible exact YT|with_reducible exact mild_asString|with_reducible exact Yo rfl|with_reducible exact Zen|with_reducible exact Zdk|with_reducible exact ZjH|with_reducible exact mild_lenOf|with_reducible exact mild_firstCells|with_reducible exact hm _ _|with_reducible exact mild_checkKey _ _ _ _|with_reducible exact mild_findKey hk|exact hd _ _ _|(refine Zh (fun _=>?_) fun _ _=>?_)|(with_reducible refine Ya ?_ ?_)|split|(dsimp only)))):Zt P K s:=h
theorem Zhq {t:TypeId} {x i:Value}:Zt P K (Instr.indexAt t x i):=by
 unfold Instr.indexAt
 exact mtA
theorem Zen {x:Value} {y:Nat} {c:BoundsCode}:Zt P K (Instr.sliceBound x y c):=Zh (fun _=>ZaJ) fun ki K=>by
 dsimp only
 split
 ·trivial
 ·exact Zae
theorem Zdk {b:Bool} {l c:Nat} {lo hi mx:Option Value}:Zt P K (Instr.sliceBounds b l c lo hi mx):=by
 unfold Instr.sliceBounds
 exact mtA
theorem ZjH {t:TypeId} {x:Value} {lo hi mx:Option Value}:Zt P K (Instr.slice t x lo hi mx):=by
 unfold Instr.slice
 exact mtA
theorem Zho {t:TypeId} {x:Value} {lo hi mx:Option Value}:Zt P K (Instr.sliceAt t x lo hi mx):=by
 unfold Instr.sliceAt
 exact mtA
theorem ZjL {t:TypeId} {x:Value} {n:Nat}:Zt P K (Instr.field t x n):=by
 unfold Instr.field
 exact mtA
theorem ZjK {t:TypeId} {x i:Value}:Zt P K (Instr.index t x i):=by
 unfold Instr.index
 exact mtA
theorem Zhs {v:Value} {n:Nat}:Zt P K (Instr.extract v n):=by
 unfold Instr.extract
 (repeat' split)<;>trivial
theorem Zhp {t:TypeId}:Zt P K (Instr.makeMap t none):=Zh (fun _=>Yo rfl) fun _ _=>trivial
theorem Zfh {t:TypeId} {l c:Value}:Zt P K (Instr.makeSlice t l c):=by
 unfold Instr.makeSlice
 exact mtA
theorem Zgy {f:α→Sem β} (h:∀a K,Zt P K (f a)):∀(l:List α) (K:Nat→Prop),Zt P K (l.mapM f)
 |[],_=>by rw[List.mapM_nil];trivial
 |a::l,K=>by
  rw[List.mapM_cons]
  exact Zh (h a) fun _ _=>Zh (fun K=>Zgy h l K) fun _ _=>trivial
theorem Zfg {f:α→Sem β} (h:∀a K,Zt P K (f a)) (l:Array α) (K:Nat→Prop):Zt P K (l.mapM f):=by
 rw[Array.mapM_eq_mapM_toList]
 exact Zh (fun K=>Zgy h _ K) fun _ _=>trivial
theorem ZjP {t:TypeId} {ps:Array (Nat×Value)}:Zt P K (Instr.build t ps):=by
 unfold Instr.build
 have hm:∀(fs:Array Field) (K:Nat→Prop),Zt P K (fs.mapM fun f=>do pure (f.offset,←sizeOf f.type):Sem (Array (Nat×Nat))):=fun fs K=>Zfg (fun f K=>Zh (fun _=>Q6) fun _ _=>Zl) fs K
 exact mtA
theorem Za2 {t:TypeId} {n:Nat} {ps:Array (Nat×Value)}:Zt P K (Instr.buildSlice t n ps):=by
 unfold Instr.buildSlice
 exact mtA
end
end Go.Proofs.YtjgpiclllehgmaaGreat.Conc1
