/- Lemmas. -/
import Derived.Test.YtjgpiclllehgmaaGreatCxMild
set_option linter.all false
open Go.Instr renaming indexAt->eP,sliceAt->eQ,sliceBounds->dA,sureAddr->cN
namespace Go.Proofs.YtjgpiclllehgmaaGreat
namespace Conc1
open Go
section
variable {P:Program} {α β:Type} {K:Nat->Prop}
theorem ZA.of_dies {s:Sem α} (h:Qz P s) (K:Nat->Prop):ZA P K s:=Qj.of_dies h K
theorem ZbF {s:String}:Qz P (stuck s:Sem α):=trivial
theorem Qg {s:String}:ZA P K (stuck s:Sem α):=trivial
theorem Xk {s:Unsupported}:ZA P K (unsupported s:Sem α):=trivial
theorem Zp {a:α}:ZA P K (pure a:Sem α):=trivial
theorem ZdX {v:Value}:Qz P (goPanic v:Sem α):=trivial
theorem YG {c:Prop} [Decidable c] {a b:Sem α} (A:ZA P K a) (G:ZA P K b):ZA P K (if c then a else b):=by
 split
 ·exact A
 exact G
theorem Zg {s:Sem α} {f:α->Sem β} (h:∀K,ZA P K s) (A:∀a K,ZA P K (f a)):ZA P K (s>>=f):=Qj.bind (h K) λa G _ _=>A a G
theorem XG {Q:α->Prop} {s:Sem α} {f:α->Sem β} (h:∀K,Qj P Q K s) (A:∀a K,Q a->ZA P K (f a)):ZA P K (s>>=f):=Qj.bind (h K) λa G H _=>A a G H
theorem Zcg {Q:α->Prop} {Q':β->Prop} {s:Sem α} {f:α->Sem β} (h:∀K,Qj P Q K s) (A:∀a K,Q a->Qj P Q' K (f a)):Qj P Q' K (s>>=f):=Qj.bind (h K) λa G H _=>A a G H
theorem Zeu {a:Addr}:ZA P K (load a):=⟨.inl rfl,λ_=>trivial⟩
theorem Zgv {a:Addr} {v:Value}:ZA P K (store a v):=⟨.inl rfl,trivial⟩
theorem YY {o:Obj} (h:o.isChan=false):ZA P K (newObj o):=.inl ⟨h,λ_=>trivial⟩
theorem Zaq {q:Question}:ZA P K (choose q):=λ_=>trivial
theorem JV:ZA P K program:=trivial
theorem Zi5 {n:Nat}:ZA P K (askRoom n):=by
 unfold askRoom;split
 ·exact .inl ⟨rfl,trivial⟩
 trivial
theorem Xz {r:Nat} {f:Obj->Sem α} (h:∀o,o.isChan=false->ZA P (λx=>K x\/x=r) (f o)) (A:∀o,o.isChan=true->Qz P (f o)):ZA P K (getObj r>>=f):=λo=>⟨A o,h o⟩
theorem XU {r:Nat} {o:Obj} (hr:K r) (A:o.isChan=false):ZA P K (setObj r o):=.inl ⟨hr,A,trivial⟩
theorem Zcf {t:TypeId}:Qj P (λi=>P.info? t=some i) K (typeInfo t):=by
 show Qj P _ K (match P.info? t with|some i=>pure i|none=>stuck "no such type")
 split
 ·rename_i h;exact h
 trivial
theorem Jr {t:TypeId}:ZA P K (typeInfo t):=Zcf.mono (λ_ _=>trivial) λ_ h=>h
theorem Yt {t:TypeId}:Qj P (λi=>P.underlying t=some i) K (underlying t):=by
 show Qj P _ K (match P.underlying t with|some i=>pure i|none=>stuck "no such type")
 split
 ·rename_i h;exact h
 trivial
theorem Z5 {t:TypeId}:ZA P K (underlying t):=Yt.mono (λ_ _=>trivial) λ_ h=>h
theorem Zi6 {t:TypeId}:Qj P (λn=>∃i,P.info? t=some i/\n=i.size) K (sizeOf t):=Zcg (λ_=>Zcf) λi K h=>⟨i,h,rfl⟩
theorem Zac {t:TypeId}:ZA P K (zeroValue t):=Zg (λ_=>Jr) λi K=>by split<;>trivial
theorem Xy {t:TypeId}:ZA P K (sizeOf t):=Zg (λ_=>Jr) λi K=>trivial
theorem Zbt {t:TypeId}:ZA P K (isAgg t):=Zg (λ_=>Z5) λi K=>by split<;>trivial
theorem Zad {a:Addr}:∀ {n i:Nat} {A:Array Value} {K:Nat->Prop},ZA P K (loadCellsFrom a i n A)
 |0,_,_,_=>trivial
 |n+1,_,_,_=>Zg (λ_=>Zeu) λ_ _=>Zad
theorem Zae {a:Addr} {n:Nat}:ZA P K (loadCells a n):=Zad
theorem YN {a:Addr}:∀ {A:List Value} {i:Nat} {K:Nat->Prop},ZA P K (storeCells a A i)
 |[],_,_=>trivial
 |v::A,_,_=>Zg (λ_=>Zgv) λ_ _=>YN
theorem Zbs {t:TypeId} {a:Addr}:ZA P K (loadVar t a):=Zg (λ_=>Zbt) λb K=>by
 split
 ·exact Zg (λ_=>Xy) λ_ _=>Zg (λ_=>Zae) λ_ _=>trivial
 exact Zeu
theorem Zc6 {t:TypeId} {a:Addr} {v:Value}:ZA P K (storeVar t a v):=Zg (λ_=>Xy) λn K=>by
 split
 ·exact Qg
 exact YN
theorem Zfe {t:TypeId} {c:Array Value}:ZA P K (newRow t c):=Zg (λ_=>YY rfl) λ_ _=>trivial
theorem Zcb {t:TypeId} {c:Value}:ZA P K (newVar t c):=Zfe
theorem Ys {t:TypeId} {c:Array Value} {o:Nat}:ZA P K (part t c o):=Zg (λ_=>Zbt) λb K=>by
 split
 ·exact Zg (λ_=>Xy) λ_ _=>trivial
 split<;>trivial
theorem Jd {e:RuntimeError}:Qz P (runtimePanic e:Sem α):=by
 unfold runtimePanic;cases e with
 |typeAssertion i c a m=>exact(Qz.bind_right (λe=>Qz.bind_right (λr=>ZdX) (newVar e _)) (elemOf P.rt.typeAssertionError):Qz P ((elemOf P.rt.typeAssertionError).bind _))
 |panicNil=>exact(Qz.bind_right (λe=>Qz.bind_right (λr=>ZdX) (newVar e _)) (elemOf P.rt.panicNilError):Qz P ((elemOf P.rt.panicNilError).bind _))
 |_=>exact(trivial:Qz P (goPanic _))
theorem ZY {e:RuntimeError}:ZA P K (runtimePanic e:Sem α):=.of_dies Jd _
theorem ZeK {k:IntKind} {x y:Int} {c:BoundsCode}:Qz P (boundsPanic k x y c:Sem α):=by
 unfold boundsPanic;split<;>exact Qz.bind_right (λ_=>Jd) _
theorem ZaY {k:IntKind} {x y:Int} {c:BoundsCode}:ZA P K (boundsPanic k x y c:Sem α):=.of_dies ZeK _
theorem Zbx {v:Value}:ZA P K (asIntOf v):=by unfold asIntOf;split<;>trivial
theorem ZlL {v:Value}:ZA P K (asInt v):=Zg (λ_=>Zbx) λ_ _=>trivial
theorem Zfg {v:Value}:ZA P K (asBool v):=by unfold asBool;split<;>trivial
theorem ZlM {v:Value}:ZA P K (asAgg v):=by unfold asAgg;split<;>trivial
theorem Zfh {v:Value}:ZA P K (asAddr v):=by
 unfold asAddr;split
 ·trivial
 ·exact ZY
 trivial
theorem Js {v:Value}:ZA P K (cN v):=by unfold cN;split<;>trivial
end
section
variable {P:Program} {α β:Type} {K:Nat->Prop}
theorem ZgA {t:TypeId}:ZA P K (Instr.alloc t true (.tuple #[])):=Zg (λ_=>Zac) λ_ _=>Zg (λ_=>Zcb) λ_ _=>trivial
theorem Zqz {t:TypeId} {v:Value}:ZA P K (Instr.box t v):=Zg (λ_=>Zcb) λ_ _=>trivial
theorem Zff {t:TypeId} {v:Value}:ZA P K (Instr.loadAt t v):=Zg (λ_=>Js) λ_ _=>Zbs
theorem ZdN {t:TypeId} {v u:Value}:ZA P K (Instr.storeAt t v u):=Zg (λ_=>Js) λ_ _=>Zc6
theorem ZfA {a:Addr} {f:Field} (h:∀i,P.info? f.type=some i->i.size≠0):ZA P K (fieldPlace a f):=XG (λ_=>Zi6) λn K ⟨i,A,G⟩=>by
 rw[if_neg (by rw[G];exact h i A)];trivial
theorem Zi0 {s:TypeId} {v:Value} {n:Nat} (h:∀A f,P.underlying s=some (.struct A)->A[n]? =some f->∀i,P.info? f.type=some i->i.size≠0):ZA P K (Instr.fieldAt s v n):=XG (λ_=>Yt) λd K G=>by
 split
 ·split
  ·rename_i H;exact Zg (λ_=>Js) λa K=>Zg (λ_=>ZfA (h _ _ G H)) λ_ _=>trivial
  trivial
 trivial
theorem mtA {s:Sem α} (h:ZA P K s:=by(repeat' (first|with_reducible exact Zp|with_reducible exact Qg|with_reducible exact Xk|with_reducible exact mild_goPanic|with_reducible exact mild_throw|with_reducible exact Jr|with_reducible exact Z5|with_reducible exact Zac|with_reducible exact Xy|with_reducible exact Zbt|with_reducible exact mild_elemOf|with_reducible exact Zeu|with_reducible exact Zgv|with_reducible exact mild_shape|with_reducible exact Zaq|with_reducible exact JV|with_reducible exact Zi5|with_reducible exact Zae|with_reducible exact YN|with_reducible exact Zbs|with_reducible exact Zc6|with_reducible exact Zfe|with_reducible exact Zcb|with_reducible exact Ys|with_reducible exact ZY|with_reducible exact ZaY|with_reducible exact Zbx|with_reducible exact ZlL|with_reducible exact Zfg|with_reducible exact ZlM|with_reducible exact Zfh|with_reducible exact Js|with_reducible exact mild_asString|with_reducible exact YY rfl|with_reducible exact Zfz|with_reducible exact Zet|with_reducible exact ZlC|with_reducible exact mild_lenOf|with_reducible exact mild_firstCells|with_reducible exact hm _ _|with_reducible exact mild_checkKey _ _ _ _|with_reducible exact mild_findKey hk|exact hd _ _ _|(refine Zg (λ_=>?_) λ_ _=>?_)|(with_reducible refine YG ?_ ?_)|split|(dsimp only)))):ZA P K s:=h
theorem ZiZ {t:TypeId} {x i:Value}:ZA P K (eP t x i):=by
 unfold eP;exact mtA
theorem Zfz {x:Value} {y:Nat} {c:BoundsCode}:ZA P K (Instr.sliceBound x y c):=Zg (λ_=>Zbx) λA K=>by
 dsimp only;split
 ·trivial
 exact ZaY
theorem Zet {b:Bool} {l c:Nat} {lo hi A:Option Value}:ZA P K (dA b l c lo hi A):=by
 unfold dA;exact mtA
theorem ZlC {t:TypeId} {x:Value} {lo hi A:Option Value}:ZA P K (Instr.slice t x lo hi A):=by
 unfold Instr.slice;exact mtA
theorem ZiX {t:TypeId} {x:Value} {lo hi A:Option Value}:ZA P K (eQ t x lo hi A):=by
 unfold eQ;exact mtA
theorem ZlG {t:TypeId} {x:Value} {n:Nat}:ZA P K (Instr.field t x n):=by
 unfold Instr.field;exact mtA
theorem ZlF {t:TypeId} {x i:Value}:ZA P K (Instr.index t x i):=by
 unfold Instr.index;exact mtA
theorem Zi1 {v:Value} {n:Nat}:ZA P K (Instr.extract v n):=by
 unfold Instr.extract;(repeat' split)<;>trivial
theorem ZiY {t:TypeId}:ZA P K (Instr.makeMap t none):=Zg (λ_=>YY rfl) λ_ _=>trivial
theorem Zgy {t:TypeId} {l c:Value}:ZA P K (Instr.makeSlice t l c):=by
 unfold Instr.makeSlice;exact mtA
theorem Zh2 {f:α->Sem β} (h:∀a K,ZA P K (f a)):∀(l:List α) (K:Nat->Prop),ZA P K (l.mapM f)
 |[],_=>by rw[List.mapM_nil];trivial
 |a::l,K=>by
  rw[List.mapM_cons];exact Zg (h a) λ_ _=>Zg (λK=>Zh2 h l K) λ_ _=>trivial
theorem Zgx {f:α->Sem β} (h:∀a K,ZA P K (f a)) (l:Array α) (K:Nat->Prop):ZA P K (l.mapM f):=by
 rw[Array.mapM_eq_mapM_toList];exact Zg (λK=>Zh2 h _ K) λ_ _=>trivial
theorem ZlK {t:TypeId} {ps:Array (Nat×Value)}:ZA P K (Instr.build t ps):=by
 unfold Instr.build;have hm:∀(A:Array Field) (K:Nat->Prop),ZA P K (A.mapM λf=>do pure (f.offset,<-sizeOf f.type):Sem (Array (Nat×Nat))):=λA K=>Zgx (λf K=>Zg (λ_=>Xy) λ_ _=>Zp) A K;exact mtA
theorem ZbP {t:TypeId} {n:Nat} {ps:Array (Nat×Value)}:ZA P K (Instr.buildSlice t n ps):=by
 unfold Instr.buildSlice;exact mtA
end
end Conc1
end Go.Proofs.YtjgpiclllehgmaaGreat
