/- Lemmas. -/
import Derived.Test.YtjgpiclllehgmaaGreatCxMild
set_option linter.all false
open Go.Instr renaming indexAt->eS,sliceAt->eT,sliceBounds->dB,sureAddr->cR
namespace Go.Proofs.YtjgpiclllehgmaaGreat
namespace Conc1
open Go
section
variable {P:Program} {α β:Type} {K:Nat->Prop}
theorem Zx.of_dies {s:Sem α} (h:Qx P s) (K:Nat->Prop):Zx P K s:=Qh.of_dies h K
theorem ZbP {s:String}:Qx P (stuck s:Sem α):=trivial
theorem Qd {s:String}:Zx P K (stuck s:Sem α):=trivial
theorem Xd {s:Unsupported}:Zx P K (unsupported s:Sem α):=trivial
theorem Zq {a:α}:Zx P K (pure a:Sem α):=trivial
theorem Zd7 {v:Value}:Qx P (goPanic v:Sem α):=trivial
theorem YE {c:Prop} [Decidable c] {a b:Sem α} (A:Zx P K a) (G:Zx P K b):Zx P K (if c then a else b):=by
 split
 ·exact A
 exact G
theorem Zg {s:Sem α} {f:α->Sem β} (h:∀K,Zx P K s) (A:∀a K,Zx P K (f a)):Zx P K (s>>=f):=Qh.bind (h K) λa G _ _=>A a G
theorem XB {Q:α->Prop} {s:Sem α} {f:α->Sem β} (h:∀K,Qh P Q K s) (A:∀a K,Q a->Zx P K (f a)):Zx P K (s>>=f):=Qh.bind (h K) λa G H _=>A a G H
theorem Zck {Q:α->Prop} {Q':β->Prop} {s:Sem α} {f:α->Sem β} (h:∀K,Qh P Q K s) (A:∀a K,Q a->Qh P Q' K (f a)):Qh P Q' K (s>>=f):=Qh.bind (h K) λa G H _=>A a G H
theorem ZeC {a:Addr}:Zx P K (load a):=⟨.inl rfl,λ_=>trivial⟩
theorem ZgA {a:Addr} {v:Value}:Zx P K (store a v):=⟨.inl rfl,trivial⟩
theorem YY {o:Obj} (h:o.isChan=false):Zx P K (newObj o):=.inl ⟨h,λ_=>trivial⟩
theorem Zaz {q:Question}:Zx P K (choose q):=λ_=>trivial
theorem JW:Zx P K program:=trivial
theorem Zi3 {n:Nat}:Zx P K (askRoom n):=by
 unfold askRoom;split
 ·exact .inl ⟨rfl,trivial⟩
 trivial
theorem Xr {r:Nat} {f:Obj->Sem α} (h:∀o,o.isChan=false->Zx P (λx=>K x\/x=r) (f o)) (A:∀o,o.isChan=true->Qx P (f o)):Zx P K (getObj r>>=f):=λo=>⟨A o,h o⟩
theorem XO {r:Nat} {o:Obj} (hr:K r) (A:o.isChan=false):Zx P K (setObj r o):=.inl ⟨hr,A,trivial⟩
theorem Zcj {t:TypeId}:Qh P (λi=>P.info? t=some i) K (typeInfo t):=by
 show Qh P _ K (match P.info? t with|some i=>pure i|none=>stuck "no such type")
 split
 ·rename_i h;exact h
 trivial
theorem Jv {t:TypeId}:Zx P K (typeInfo t):=Zcj.mono (λ_ _=>trivial) λ_ h=>h
theorem Yq {t:TypeId}:Qh P (λi=>P.underlying t=some i) K (underlying t):=by
 show Qh P _ K (match P.underlying t with|some i=>pure i|none=>stuck "no such type")
 split
 ·rename_i h;exact h
 trivial
theorem Z2 {t:TypeId}:Zx P K (underlying t):=Yq.mono (λ_ _=>trivial) λ_ h=>h
theorem Zi4 {t:TypeId}:Qh P (λn=>∃i,P.info? t=some i/\n=i.size) K (sizeOf t):=Zck (λ_=>Zcj) λi K h=>⟨i,h,rfl⟩
theorem Zad {t:TypeId}:Zx P K (zeroValue t):=Zg (λ_=>Jv) λi K=>by split<;>trivial
theorem Xq {t:TypeId}:Zx P K (sizeOf t):=Zg (λ_=>Jv) λi K=>trivial
theorem ZbD {t:TypeId}:Zx P K (isAgg t):=Zg (λ_=>Z2) λi K=>by split<;>trivial
theorem Zae {a:Addr}:∀ {n i:Nat} {A:Array Value} {K:Nat->Prop},Zx P K (loadCellsFrom a i n A)
 |0,_,_,_=>trivial
 |n+1,_,_,_=>Zg (λ_=>ZeC) λ_ _=>Zae
theorem Zaf {a:Addr} {n:Nat}:Zx P K (loadCells a n):=Zae
theorem YN {a:Addr}:∀ {A:List Value} {i:Nat} {K:Nat->Prop},Zx P K (storeCells a A i)
 |[],_,_=>trivial
 |v::A,_,_=>Zg (λ_=>ZgA) λ_ _=>YN
theorem ZbC {t:TypeId} {a:Addr}:Zx P K (loadVar t a):=Zg (λ_=>ZbD) λb K=>by
 split
 ·exact Zg (λ_=>Xq) λ_ _=>Zg (λ_=>Zaf) λ_ _=>trivial
 exact ZeC
theorem Zdc {t:TypeId} {a:Addr} {v:Value}:Zx P K (storeVar t a v):=Zg (λ_=>Xq) λn K=>by
 split
 ·exact Qd
 exact YN
theorem Zfo {t:TypeId} {c:Array Value}:Zx P K (newRow t c):=Zg (λ_=>YY rfl) λ_ _=>trivial
theorem Zcf {t:TypeId} {c:Value}:Zx P K (newVar t c):=Zfo
theorem Yp {t:TypeId} {c:Array Value} {o:Nat}:Zx P K (part t c o):=Zg (λ_=>ZbD) λb K=>by
 split
 ·exact Zg (λ_=>Xq) λ_ _=>trivial
 split<;>trivial
theorem Jc {e:RuntimeError}:Qx P (runtimePanic e:Sem α):=by
 unfold runtimePanic;cases e with
 |typeAssertion i c a m=>exact(Qx.bind_right (λe=>Qx.bind_right (λr=>Zd7) (newVar e _)) (elemOf P.rt.typeAssertionError):Qx P ((elemOf P.rt.typeAssertionError).bind _))
 |panicNil=>exact(Qx.bind_right (λe=>Qx.bind_right (λr=>Zd7) (newVar e _)) (elemOf P.rt.panicNilError):Qx P ((elemOf P.rt.panicNilError).bind _))
 |_=>exact(trivial:Qx P (goPanic _))
theorem ZY {e:RuntimeError}:Zx P K (runtimePanic e:Sem α):=.of_dies Jc _
theorem ZeT {k:IntKind} {x y:Int} {c:BoundsCode}:Qx P (boundsPanic k x y c:Sem α):=by
 unfold boundsPanic;split<;>exact Qx.bind_right (λ_=>Jc) _
theorem Za7 {k:IntKind} {x y:Int} {c:BoundsCode}:Zx P K (boundsPanic k x y c:Sem α):=.of_dies ZeT _
theorem ZbH {v:Value}:Zx P K (asIntOf v):=by unfold asIntOf;split<;>trivial
theorem ZlR {v:Value}:Zx P K (asInt v):=Zg (λ_=>ZbH) λ_ _=>trivial
theorem Zfq {v:Value}:Zx P K (asBool v):=by unfold asBool;split<;>trivial
theorem ZlS {v:Value}:Zx P K (asAgg v):=by unfold asAgg;split<;>trivial
theorem Zfr {v:Value}:Zx P K (asAddr v):=by
 unfold asAddr;split
 ·trivial
 ·exact ZY
 trivial
theorem Jw {v:Value}:Zx P K (cR v):=by unfold cR;split<;>trivial
end
section
variable {P:Program} {α β:Type} {K:Nat->Prop}
theorem ZgF {t:TypeId}:Zx P K (Instr.alloc t true (.tuple #[])):=Zg (λ_=>Zad) λ_ _=>Zg (λ_=>Zcf) λ_ _=>trivial
theorem Zqx {t:TypeId} {v:Value}:Zx P K (Instr.box t v):=Zg (λ_=>Zcf) λ_ _=>trivial
theorem Zfp {t:TypeId} {v:Value}:Zx P K (Instr.loadAt t v):=Zg (λ_=>Jw) λ_ _=>ZbC
theorem ZdV {t:TypeId} {v u:Value}:Zx P K (Instr.storeAt t v u):=Zg (λ_=>Jw) λ_ _=>Zdc
theorem ZfJ {a:Addr} {f:Field} (h:∀i,P.info? f.type=some i->i.size≠0):Zx P K (fieldPlace a f):=XB (λ_=>Zi4) λn K ⟨i,A,G⟩=>by
 rw[if_neg (by rw[G];exact h i A)];trivial
theorem ZiY {s:TypeId} {v:Value} {n:Nat} (h:∀A f,P.underlying s=some (.struct A)->A[n]? =some f->∀i,P.info? f.type=some i->i.size≠0):Zx P K (Instr.fieldAt s v n):=XB (λ_=>Yq) λd K G=>by
 split
 ·split
  ·rename_i H;exact Zg (λ_=>Jw) λa K=>Zg (λ_=>ZfJ (h _ _ G H)) λ_ _=>trivial
  trivial
 trivial
theorem mtA {s:Sem α} (h:Zx P K s:=by(repeat' (first|with_reducible exact Zq|with_reducible exact Qd|with_reducible exact Xd|with_reducible exact mild_goPanic|with_reducible exact mild_throw|with_reducible exact Jv|with_reducible exact Z2|with_reducible exact Zad|with_reducible exact Xq|with_reducible exact ZbD|with_reducible exact mild_elemOf|with_reducible exact ZeC|with_reducible exact ZgA|with_reducible exact mild_shape|with_reducible exact Zaz|with_reducible exact JW|with_reducible exact Zi3|with_reducible exact Zaf|with_reducible exact YN|with_reducible exact ZbC|with_reducible exact Zdc|with_reducible exact Zfo|with_reducible exact Zcf|with_reducible exact Yp|with_reducible exact ZY|with_reducible exact Za7|with_reducible exact ZbH|with_reducible exact ZlR|with_reducible exact Zfq|with_reducible exact ZlS|with_reducible exact Zfr|with_reducible exact Jw|with_reducible exact mild_asString|with_reducible exact YY rfl|with_reducible exact ZfI|with_reducible exact ZeB|with_reducible exact ZlI|with_reducible exact mild_lenOf|with_reducible exact mild_firstCells|with_reducible exact hm _ _|with_reducible exact mild_checkKey _ _ _ _|with_reducible exact mild_findKey hk|exact hd _ _ _|(refine Zg (λ_=>?_) λ_ _=>?_)|(with_reducible refine YE ?_ ?_)|split|(dsimp only)))):Zx P K s:=h
theorem ZiX {t:TypeId} {x i:Value}:Zx P K (eS t x i):=by
 unfold eS;exact mtA
theorem ZfI {x:Value} {y:Nat} {c:BoundsCode}:Zx P K (Instr.sliceBound x y c):=Zg (λ_=>ZbH) λA K=>by
 dsimp only;split
 ·trivial
 exact Za7
theorem ZeB {b:Bool} {l c:Nat} {lo hi A:Option Value}:Zx P K (dB b l c lo hi A):=by
 unfold dB;exact mtA
theorem ZlI {t:TypeId} {x:Value} {lo hi A:Option Value}:Zx P K (Instr.slice t x lo hi A):=by
 unfold Instr.slice;exact mtA
theorem ZiV {t:TypeId} {x:Value} {lo hi A:Option Value}:Zx P K (eT t x lo hi A):=by
 unfold eT;exact mtA
theorem ZlM {t:TypeId} {x:Value} {n:Nat}:Zx P K (Instr.field t x n):=by
 unfold Instr.field;exact mtA
theorem ZlL {t:TypeId} {x i:Value}:Zx P K (Instr.index t x i):=by
 unfold Instr.index;exact mtA
theorem ZiZ {v:Value} {n:Nat}:Zx P K (Instr.extract v n):=by
 unfold Instr.extract;(repeat' split)<;>trivial
theorem ZiW {t:TypeId}:Zx P K (Instr.makeMap t none):=Zg (λ_=>YY rfl) λ_ _=>trivial
theorem ZgD {t:TypeId} {l c:Value}:Zx P K (Instr.makeSlice t l c):=by
 unfold Instr.makeSlice;exact mtA
theorem Zh2 {f:α->Sem β} (h:∀a K,Zx P K (f a)):∀(l:List α) (K:Nat->Prop),Zx P K (l.mapM f)
 |[],_=>by rw[List.mapM_nil];trivial
 |a::l,K=>by
  rw[List.mapM_cons];exact Zg (h a) λ_ _=>Zg (λK=>Zh2 h l K) λ_ _=>trivial
theorem ZgC {f:α->Sem β} (h:∀a K,Zx P K (f a)) (l:Array α) (K:Nat->Prop):Zx P K (l.mapM f):=by
 rw[Array.mapM_eq_mapM_toList];exact Zg (λK=>Zh2 h _ K) λ_ _=>trivial
theorem ZlQ {t:TypeId} {ps:Array (Nat×Value)}:Zx P K (Instr.build t ps):=by
 unfold Instr.build;have hm:∀(A:Array Field) (K:Nat->Prop),Zx P K (A.mapM λf=>do pure (f.offset,<-sizeOf f.type):Sem (Array (Nat×Nat))):=λA K=>ZgC (λf K=>Zg (λ_=>Xq) λ_ _=>Zq) A K;exact mtA
theorem ZbW {t:TypeId} {n:Nat} {ps:Array (Nat×Value)}:Zx P K (Instr.buildSlice t n ps):=by
 unfold Instr.buildSlice;exact mtA
end
end Conc1
end Go.Proofs.YtjgpiclllehgmaaGreat
