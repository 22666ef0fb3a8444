/- The operations of a region that touch memory plainly. -/
import Derived.Test.YtjgpiclllehgmaaGreatCxMild
set_option linter.unusedSimpArgs false
set_option linter.unusedVariables false
namespace Go.Proofs.YtjgpiclllehgmaaGreat.Conc1
open Go
section
variable {P:Program} {α β:Type} {K:Nat→Prop}
theorem Zu.of_dies {s:Sem α} (h:Ql P s) (K:Nat→Prop):Zu P K s:=Qb.of_dies h K
theorem ZaP {s:String}:Ql P (stuck s:Sem α):=trivial
theorem Z5 {s:String}:Zu P K (stuck s:Sem α):=trivial
theorem QU {s:Unsupported}:Zu P K (unsupported s:Sem α):=trivial
theorem Zl {a:α}:Zu P K (pure a:Sem α):=trivial
theorem ZcQ {v:Value}:Ql P (goPanic v:Sem α):=trivial
theorem X7 {c:Prop} [Decidable c] {a b:Sem α} (h1:Zu P K a) (h2:Zu P K b):Zu P K (if c then a else b):=by
 split
 ·exact h1
 ·exact h2
theorem Zh {s:Sem α} {f:α→Sem β} (h:∀K,Zu P K s) (hf:∀a K,Zu P K (f a)):Zu P K (s>>=f):=Qb.bind (h K) fun a K' _ _=>hf a K'
theorem Xi {Q:α→Prop} {s:Sem α} {f:α→Sem β} (h:∀K,Qb P Q K s) (hf:∀a K,Q a→Zu P K (f a)):Zu P K (s>>=f):=Qb.bind (h K) fun a K' hq _=>hf a K' hq
theorem Zbk {Q:α→Prop} {Q':β→Prop} {s:Sem α} {f:α→Sem β} (h:∀K,Qb P Q K s) (hf:∀a K,Q a→Qb P Q' K (f a)):Qb P Q' K (s>>=f):=Qb.bind (h K) fun a K' hq _=>hf a K' hq
theorem Zdf {a:Addr}:Zu P K (load a):=⟨.inl rfl,fun _=>trivial⟩
theorem Zfb {a:Addr} {v:Value}:Zu P K (store a v):=⟨.inl rfl,trivial⟩
theorem Yn {o:Obj} (h:o.isChan=false):Zu P K (newObj o):=.inl ⟨h,fun _=>trivial⟩
theorem JM {q:Question}:Zu P K (choose q):=fun _=>trivial
theorem Jh:Zu P K program:=trivial
theorem Zhq {n:Nat}:Zu P K (askRoom n):=by
 unfold askRoom
 split
 ·exact .inl ⟨rfl,trivial⟩
 ·trivial
theorem Xa {r:Nat} {f:Obj→Sem α} (h:∀o,o.isChan=false→Zu P (fun x=>K x∨x=r) (f o)) (hd:∀o,o.isChan=true→Ql P (f o)):Zu P K (getObj r>>=f):=fun o=>⟨hd o,h o⟩
theorem Xw {r:Nat} {o:Obj} (hr:K r) (ho:o.isChan=false):Zu P K (setObj r o):=.inl ⟨hr,ho,trivial⟩
theorem Zbj {t:TypeId}:Qb P (fun i=>P.info? t=some i) K (typeInfo t):=by
 show Qb P _ K (match P.info? t with|some i=>pure i|none=>stuck "no such type")
 split
 ·rename_i h;exact h
 ·trivial
theorem YR {t:TypeId}:Zu P K (typeInfo t):=Zbj.mono (fun _ _=>trivial) fun _ h=>h
theorem XT {t:TypeId}:Qb P (fun i=>P.underlying t=some i) K (underlying t):=by
 show Qb P _ K (match P.underlying t with|some i=>pure i|none=>stuck "no such type")
 split
 ·rename_i h;exact h
 ·trivial
theorem ZW {t:TypeId}:Zu P K (underlying t):=XT.mono (fun _ _=>trivial) fun _ h=>h
theorem Zhr {t:TypeId}:Qb P (fun n=>∃i,P.info? t=some i∧n=i.size) K (sizeOf t):=Zbk (fun _=>Zbj) fun i K h=>⟨i,h,rfl⟩
theorem Jt {t:TypeId}:Zu P K (zeroValue t):=Zh (fun _=>YR) fun i K=>by split<;>trivial
theorem Q9 {t:TypeId}:Zu P K (sizeOf t):=Zh (fun _=>YR) fun i K=>trivial
theorem ZaE {t:TypeId}:Zu P K (isAgg t):=Zh (fun _=>ZW) fun i K=>by split<;>trivial
theorem Ju {a:Addr}:∀ {n i:Nat} {acc:Array Value} {K:Nat→Prop},Zu P K (loadCellsFrom a i n acc)
 |0,_,_,_=>trivial
 |n+1,_,_,_=>Zh (fun _=>Zdf) fun _ _=>Ju
theorem Jv {a:Addr} {n:Nat}:Zu P K (loadCells a n):=Ju
theorem Yd {a:Addr}:∀ {vs:List Value} {i:Nat} {K:Nat→Prop},Zu P K (storeCells a vs i)
 |[],_,_=>trivial
 |v::vs,_,_=>Zh (fun _=>Zfb) fun _ _=>Yd
theorem ZaD {t:TypeId} {a:Addr}:Zu P K (loadVar t a):=Zh (fun _=>ZaE) fun b K=>by
 split
 ·exact Zh (fun _=>Q9) fun _ _=>Zh (fun _=>Jv) fun _ _=>trivial
 ·exact Zdf
theorem Zcb {t:TypeId} {a:Addr} {v:Value}:Zu P K (storeVar t a v):=Zh (fun _=>Q9) fun n K=>by
 split
 ·exact Z5
 ·exact Yd
theorem ZdY {t:TypeId} {c:Array Value}:Zu P K (newRow t c):=Zh (fun _=>Yn rfl) fun _ _=>trivial
theorem Zbf {t:TypeId} {c:Value}:Zu P K (newVar t c):=ZdY
theorem XS {t:TypeId} {c:Array Value} {o:Nat}:Zu P K (part t c o):=Zh (fun _=>ZaE) fun b K=>by
 split
 ·exact Zh (fun _=>Q9) fun _ _=>trivial
 ·split<;>trivial
theorem YB {e:RuntimeError}:Ql P (runtimePanic e:Sem α):=by
 unfold runtimePanic
 cases e with
 |typeAssertion i c a m=>exact(Ql.bind_right (fun e=>Ql.bind_right (fun r=>ZcQ) (newVar e _)) (elemOf P.rt.typeAssertionError):Ql P ((elemOf P.rt.typeAssertionError).bind _))
 |panicNil=>exact(Ql.bind_right (fun e=>Ql.bind_right (fun r=>ZcQ) (newVar e _)) (elemOf P.rt.panicNilError):Ql P ((elemOf P.rt.panicNilError).bind _))
 |_=>exact(trivial:Ql P (goPanic _))
theorem ZS {e:RuntimeError}:Zu P K (runtimePanic e:Sem α):=.of_dies YB _
theorem Zdu {k:IntKind} {x y:Int} {c:BoundsCode}:Ql P (boundsPanic k x y c:Sem α):=by
 unfold boundsPanic
 split<;>exact Ql.bind_right (fun _=>YB) _
theorem Zad {k:IntKind} {x y:Int} {c:BoundsCode}:Zu P K (boundsPanic k x y c:Sem α):=.of_dies Zdu _
theorem ZaI {v:Value}:Zu P K (asIntOf v):=by unfold asIntOf;split<;>trivial
theorem ZjN {v:Value}:Zu P K (asInt v):=Zh (fun _=>ZaI) fun _ _=>trivial
theorem Zd0 {v:Value}:Zu P K (asBool v):=by unfold asBool;split<;>trivial
theorem ZjO {v:Value}:Zu P K (asAgg v):=by unfold asAgg;split<;>trivial
theorem Zd1 {v:Value}:Zu P K (asAddr v):=by
 unfold asAddr
 split
 ·trivial
 ·exact ZS
 ·trivial
theorem YS {v:Value}:Zu P K (Instr.sureAddr v):=by unfold Instr.sureAddr;split<;>trivial
end
section
variable {P:Program} {α β:Type} {K:Nat→Prop}
theorem Zfg {t:TypeId}:Zu P K (Instr.alloc t true (.tuple #[])):=Zh (fun _=>Jt) fun _ _=>Zh (fun _=>Zbf) fun _ _=>trivial
theorem Zn4 {t:TypeId} {v:Value}:Zu P K (Instr.box t v):=Zh (fun _=>Zbf) fun _ _=>trivial
theorem ZdZ {t:TypeId} {v:Value}:Zu P K (Instr.loadAt t v):=Zh (fun _=>YS) fun _ _=>ZaD
theorem ZcI {t:TypeId} {v u:Value}:Zu P K (Instr.storeAt t v u):=Zh (fun _=>YS) fun _ _=>Zcb
theorem Zek {a:Addr} {f:Field} (h:∀i,P.info? f.type=some i→i.size≠0):Zu P K (fieldPlace a f):=Xi (fun _=>Zhr) fun n K ⟨i,h1,h2⟩=>by
 rw[if_neg (by rw[h2];exact h i h1)]
 trivial
theorem Zhl {s:TypeId} {v:Value} {n:Nat} (h:∀fs f,P.underlying s=some (.struct fs)→fs[n]? =some f→∀i,P.info? f.type=some i→i.size≠0):Zu P K (Instr.fieldAt s v n):=Xi (fun _=>XT) fun d K hd=>by
 split
 ·split
  ·rename_i hf
   exact Zh (fun _=>YS) fun a K=>Zh (fun _=>Zek (h _ _ hd hf)) fun _ _=>trivial
  ·trivial
 ·trivial
theorem mtA {s:Sem α} (h:Zu P K s:=by(repeat' (first|with_reducible exact Zl|with_reducible exact Z5|with_reducible exact QU|with_reducible exact mild_goPanic|with_reducible exact mild_throw|with_reducible exact YR|with_reducible exact ZW|with_reducible exact Jt|with_reducible exact Q9|with_reducible exact ZaE|with_reducible exact mild_elemOf|with_reducible exact Zdf|with_reducible exact Zfb|with_reducible exact mild_shape|with_reducible exact JM|with_reducible exact Jh|with_reducible exact Zhq|with_reducible exact Jv|with_reducible exact Yd|with_reducible exact ZaD|with_reducible exact Zcb|with_reducible exact ZdY|with_reducible exact Zbf|with_reducible exact XS|with_reducible exact ZS|with_reducible exact Zad|with_reducible exact ZaI|with_reducible exact ZjN|with_reducible exact Zd0|with_reducible exact ZjO|with_reducible exact Zd1|with_reducible exact YS|with_reducible exact mild_asString|with_reducible exact Yn rfl|with_reducible exact Zej|with_reducible exact Zde|with_reducible exact ZjE|with_reducible exact mild_lenOf|with_reducible exact mild_firstCells|with_reducible exact hm _ _|with_reducible exact mild_checkKey _ _ _ _|with_reducible exact mild_findKey hk|exact hd _ _ _|(refine Zh (fun _=>?_) fun _ _=>?_)|(with_reducible refine X7 ?_ ?_)|split|(dsimp only)))):Zu P K s:=h
theorem Zhk {t:TypeId} {x i:Value}:Zu P K (Instr.indexAt t x i):=by
 unfold Instr.indexAt
 exact mtA
theorem Zej {x:Value} {y:Nat} {c:BoundsCode}:Zu P K (Instr.sliceBound x y c):=Zh (fun _=>ZaI) fun ki K=>by
 dsimp only
 split
 ·trivial
 ·exact Zad
theorem Zde {b:Bool} {l c:Nat} {lo hi mx:Option Value}:Zu P K (Instr.sliceBounds b l c lo hi mx):=by
 unfold Instr.sliceBounds
 exact mtA
theorem ZjE {t:TypeId} {x:Value} {lo hi mx:Option Value}:Zu P K (Instr.slice t x lo hi mx):=by
 unfold Instr.slice
 exact mtA
theorem Zhi {t:TypeId} {x:Value} {lo hi mx:Option Value}:Zu P K (Instr.sliceAt t x lo hi mx):=by
 unfold Instr.sliceAt
 exact mtA
theorem ZjI {t:TypeId} {x:Value} {n:Nat}:Zu P K (Instr.field t x n):=by
 unfold Instr.field
 exact mtA
theorem ZjH {t:TypeId} {x i:Value}:Zu P K (Instr.index t x i):=by
 unfold Instr.index
 exact mtA
theorem Zhm {v:Value} {n:Nat}:Zu P K (Instr.extract v n):=by
 unfold Instr.extract
 (repeat' split)<;>trivial
theorem Zhj {t:TypeId}:Zu P K (Instr.makeMap t none):=Zh (fun _=>Yn rfl) fun _ _=>trivial
theorem Zfe {t:TypeId} {l c:Value}:Zu P K (Instr.makeSlice t l c):=by
 unfold Instr.makeSlice
 exact mtA
theorem Zgr {f:α→Sem β} (h:∀a K,Zu P K (f a)):∀(l:List α) (K:Nat→Prop),Zu P K (l.mapM f)
 |[],_=>by rw[List.mapM_nil];trivial
 |a::l,K=>by
  rw[List.mapM_cons]
  exact Zh (h a) fun _ _=>Zh (fun K=>Zgr h l K) fun _ _=>trivial
theorem Zfd {f:α→Sem β} (h:∀a K,Zu P K (f a)) (l:Array α) (K:Nat→Prop):Zu P K (l.mapM f):=by
 rw[Array.mapM_eq_mapM_toList]
 exact Zh (fun K=>Zgr h _ K) fun _ _=>trivial
theorem ZjM {t:TypeId} {ps:Array (Nat×Value)}:Zu P K (Instr.build t ps):=by
 unfold Instr.build
 have hm:∀(fs:Array Field) (K:Nat→Prop),Zu P K (fs.mapM fun f=>do pure (f.offset,←sizeOf f.type):Sem (Array (Nat×Nat))):=fun fs K=>Zfd (fun f K=>Zh (fun _=>Q9) fun _ _=>Zl) fs K
 exact mtA
theorem ZaY {t:TypeId} {n:Nat} {ps:Array (Nat×Value)}:Zu P K (Instr.buildSlice t n ps):=by
 unfold Instr.buildSlice
 exact mtA
end
end Go.Proofs.YtjgpiclllehgmaaGreat.Conc1
