/- Lemmas. -/
import Derived.Test.YtjgpiclllehgmaaGreatCxMild
set_option linter.all false
open Go.Instr renaming indexAt->eO,sliceAt->eP,sliceBounds->cX,sureAddr->cP
namespace Go.Proofs.YtjgpiclllehgmaaGreat
namespace Conc1
open Go
section
variable {P:Program} {α β:Type} {K:Nat->Prop}
theorem Zv.of_dies {s:Sem α} (h:Qn P s) (K:Nat->Prop):Zv P K s:=Qc.of_dies h K
theorem ZbA {s:String}:Qn P (stuck s:Sem α):=trivial
theorem Z8 {s:String}:Zv P K (stuck s:Sem α):=trivial
theorem Q6 {s:Unsupported}:Zv P K (unsupported s:Sem α):=trivial
theorem Zn {a:α}:Zv P K (pure a:Sem α):=trivial
theorem ZdO {v:Value}:Qn P (goPanic v:Sem α):=trivial
theorem Yu {c:Prop} [Decidable c] {a b:Sem α} (G:Zv P K a) (A:Zv P K b):Zv P K (if c then a else b):=by
 split
 ·exact G
 exact A
theorem Zg {s:Sem α} {f:α->Sem β} (h:∀K,Zv P K s) (A:∀a K,Zv P K (f a)):Zv P K (s>>=f):=Qc.bind (h K) fun a G _ _=>A a G
theorem Xr {Q:α->Prop} {s:Sem α} {f:α->Sem β} (h:∀K,Qc P Q K s) (G:∀a K,Q a->Zv P K (f a)):Zv P K (s>>=f):=Qc.bind (h K) fun a H A _=>G a H A
theorem Zb8 {Q:α->Prop} {Q':β->Prop} {s:Sem α} {f:α->Sem β} (h:∀K,Qc P Q K s) (G:∀a K,Q a->Qc P Q' K (f a)):Qc P Q' K (s>>=f):=Qc.bind (h K) fun a H A _=>G a H A
theorem Zei {a:Addr}:Zv P K (load a):=⟨.inl rfl,fun _=>trivial⟩
theorem Zgh {a:Addr} {v:Value}:Zv P K (store a v):=⟨.inl rfl,trivial⟩
theorem YN {o:Obj} (h:o.isChan=false):Zv P K (newObj o):=.inl ⟨h,fun _=>trivial⟩
theorem Zah {q:Question}:Zv P K (choose q):=fun _=>trivial
theorem JJ:Zv P K program:=trivial
theorem ZiE {n:Nat}:Zv P K (askRoom n):=by
 unfold askRoom;split
 ·exact .inl ⟨rfl,trivial⟩
 trivial
theorem Xj {r:Nat} {f:Obj->Sem α} (h:∀o,o.isChan=false->Zv P (fun x=>K x\/x=r) (f o)) (A:∀o,o.isChan=true->Qn P (f o)):Zv P K (getObj r>>=f):=fun o=>⟨A o,h o⟩
theorem XD {r:Nat} {o:Obj} (hr:K r) (A:o.isChan=false):Zv P K (setObj r o):=.inl ⟨hr,A,trivial⟩
theorem Zb7 {t:TypeId}:Qc P (fun i=>P.info? t=some i) K (typeInfo t):=by
 show Qc P _ K (match P.info? t with|some i=>pure i|none=>stuck "no such type")
 split
 ·rename_i h;exact h
 trivial
theorem Ji {t:TypeId}:Zv P K (typeInfo t):=Zb7.mono (fun _ _=>trivial) fun _ h=>h
theorem Yg {t:TypeId}:Qc P (fun i=>P.underlying t=some i) K (underlying t):=by
 show Qc P _ K (match P.underlying t with|some i=>pure i|none=>stuck "no such type")
 split
 ·rename_i h;exact h
 trivial
theorem ZZ {t:TypeId}:Zv P K (underlying t):=Yg.mono (fun _ _=>trivial) fun _ h=>h
theorem ZiF {t:TypeId}:Qc P (fun n=>∃i,P.info? t=some i/\n=i.size) K (sizeOf t):=Zb8 (fun _=>Zb7) fun i K h=>⟨i,h,rfl⟩
theorem JX {t:TypeId}:Zv P K (zeroValue t):=Zg (fun _=>Ji) fun i K=>by split<;>trivial
theorem Xi {t:TypeId}:Zv P K (sizeOf t):=Zg (fun _=>Ji) fun i K=>trivial
theorem Zbm {t:TypeId}:Zv P K (isAgg t):=Zg (fun _=>ZZ) fun i K=>by split<;>trivial
theorem JY {a:Addr}:∀ {n i:Nat} {A:Array Value} {K:Nat->Prop},Zv P K (loadCellsFrom a i n A)
 |0,_,_,_=>trivial
 |n+1,_,_,_=>Zg (fun _=>Zei) fun _ _=>JY
theorem JZ {a:Addr} {n:Nat}:Zv P K (loadCells a n):=JY
theorem YD {a:Addr}:∀ {A:List Value} {i:Nat} {K:Nat->Prop},Zv P K (storeCells a A i)
 |[],_,_=>trivial
 |v::A,_,_=>Zg (fun _=>Zgh) fun _ _=>YD
theorem Zbl {t:TypeId} {a:Addr}:Zv P K (loadVar t a):=Zg (fun _=>Zbm) fun b K=>by
 split
 ·exact Zg (fun _=>Xi) fun _ _=>Zg (fun _=>JZ) fun _ _=>trivial
 exact Zei
theorem ZcX {t:TypeId} {a:Addr} {v:Value}:Zv P K (storeVar t a v):=Zg (fun _=>Xi) fun n K=>by
 split
 ·exact Z8
 exact YD
theorem Ze2 {t:TypeId} {c:Array Value}:Zv P K (newRow t c):=Zg (fun _=>YN rfl) fun _ _=>trivial
theorem Zb3 {t:TypeId} {c:Value}:Zv P K (newVar t c):=Ze2
theorem Yf {t:TypeId} {c:Array Value} {o:Nat}:Zv P K (part t c o):=Zg (fun _=>Zbm) fun b K=>by
 split
 ·exact Zg (fun _=>Xi) fun _ _=>trivial
 split<;>trivial
theorem Y2 {e:RuntimeError}:Qn P (runtimePanic e:Sem α):=by
 unfold runtimePanic;cases e with
 |typeAssertion i c a m=>exact(Qn.bind_right (fun e=>Qn.bind_right (fun r=>ZdO) (newVar e _)) (elemOf P.rt.typeAssertionError):Qn P ((elemOf P.rt.typeAssertionError).bind _))
 |panicNil=>exact(Qn.bind_right (fun e=>Qn.bind_right (fun r=>ZdO) (newVar e _)) (elemOf P.rt.panicNilError):Qn P ((elemOf P.rt.panicNilError).bind _))
 |_=>exact(trivial:Qn P (goPanic _))
theorem ZW {e:RuntimeError}:Zv P K (runtimePanic e:Sem α):=.of_dies Y2 _
theorem Zey {k:IntKind} {x y:Int} {c:BoundsCode}:Qn P (boundsPanic k x y c:Sem α):=by
 unfold boundsPanic;split<;>exact Qn.bind_right (fun _=>Y2) _
theorem ZaQ {k:IntKind} {x y:Int} {c:BoundsCode}:Zv P K (boundsPanic k x y c:Sem α):=.of_dies Zey _
theorem Zbq {v:Value}:Zv P K (asIntOf v):=by unfold asIntOf;split<;>trivial
theorem Zln {v:Value}:Zv P K (asInt v):=Zg (fun _=>Zbq) fun _ _=>trivial
theorem Ze4 {v:Value}:Zv P K (asBool v):=by unfold asBool;split<;>trivial
theorem Zlo {v:Value}:Zv P K (asAgg v):=by unfold asAgg;split<;>trivial
theorem Ze5 {v:Value}:Zv P K (asAddr v):=by
 unfold asAddr;split
 ·trivial
 ·exact ZW
 trivial
theorem Jj {v:Value}:Zv P K (cP v):=by unfold cP;split<;>trivial
end
section
variable {P:Program} {α β:Type} {K:Nat->Prop}
theorem Zgm {t:TypeId}:Zv P K (Instr.alloc t true (.tuple #[])):=Zg (fun _=>JX) fun _ _=>Zg (fun _=>Zb3) fun _ _=>trivial
theorem Zqb {t:TypeId} {v:Value}:Zv P K (Instr.box t v):=Zg (fun _=>Zb3) fun _ _=>trivial
theorem Ze3 {t:TypeId} {v:Value}:Zv P K (Instr.loadAt t v):=Zg (fun _=>Jj) fun _ _=>Zbl
theorem ZdC {t:TypeId} {v u:Value}:Zv P K (Instr.storeAt t v u):=Zg (fun _=>Jj) fun _ _=>ZcX
theorem Zfn {a:Addr} {f:Field} (h:∀i,P.info? f.type=some i->i.size≠0):Zv P K (fieldPlace a f):=Xr (fun _=>ZiF) fun n K ⟨i,G,A⟩=>by
 rw[if_neg (by rw[A];exact h i G)];trivial
theorem Ziz {s:TypeId} {v:Value} {n:Nat} (h:∀A f,P.underlying s=some (.struct A)->A[n]? =some f->∀i,P.info? f.type=some i->i.size≠0):Zv P K (Instr.fieldAt s v n):=Xr (fun _=>Yg) fun d K H=>by
 split
 ·split
  ·rename_i G;exact Zg (fun _=>Jj) fun a K=>Zg (fun _=>Zfn (h _ _ H G)) fun _ _=>trivial
  trivial
 trivial
theorem mtA {s:Sem α} (h:Zv P K s:=by(repeat' (first|with_reducible exact Zn|with_reducible exact Z8|with_reducible exact Q6|with_reducible exact mild_goPanic|with_reducible exact mild_throw|with_reducible exact Ji|with_reducible exact ZZ|with_reducible exact JX|with_reducible exact Xi|with_reducible exact Zbm|with_reducible exact mild_elemOf|with_reducible exact Zei|with_reducible exact Zgh|with_reducible exact mild_shape|with_reducible exact Zah|with_reducible exact JJ|with_reducible exact ZiE|with_reducible exact JZ|with_reducible exact YD|with_reducible exact Zbl|with_reducible exact ZcX|with_reducible exact Ze2|with_reducible exact Zb3|with_reducible exact Yf|with_reducible exact ZW|with_reducible exact ZaQ|with_reducible exact Zbq|with_reducible exact Zln|with_reducible exact Ze4|with_reducible exact Zlo|with_reducible exact Ze5|with_reducible exact Jj|with_reducible exact mild_asString|with_reducible exact YN rfl|with_reducible exact Zfm|with_reducible exact Zeh|with_reducible exact Zle|with_reducible exact mild_lenOf|with_reducible exact mild_firstCells|with_reducible exact hm _ _|with_reducible exact mild_checkKey _ _ _ _|with_reducible exact mild_findKey hk|exact hd _ _ _|(refine Zg (fun _=>?_) fun _ _=>?_)|(with_reducible refine Yu ?_ ?_)|split|(dsimp only)))):Zv P K s:=h
theorem Ziy {t:TypeId} {x i:Value}:Zv P K (eO t x i):=by
 unfold eO;exact mtA
theorem Zfm {x:Value} {y:Nat} {c:BoundsCode}:Zv P K (Instr.sliceBound x y c):=Zg (fun _=>Zbq) fun A K=>by
 dsimp only;split
 ·trivial
 exact ZaQ
theorem Zeh {b:Bool} {l c:Nat} {lo hi A:Option Value}:Zv P K (cX b l c lo hi A):=by
 unfold cX;exact mtA
theorem Zle {t:TypeId} {x:Value} {lo hi A:Option Value}:Zv P K (Instr.slice t x lo hi A):=by
 unfold Instr.slice;exact mtA
theorem Ziw {t:TypeId} {x:Value} {lo hi A:Option Value}:Zv P K (eP t x lo hi A):=by
 unfold eP;exact mtA
theorem Zli {t:TypeId} {x:Value} {n:Nat}:Zv P K (Instr.field t x n):=by
 unfold Instr.field;exact mtA
theorem Zlh {t:TypeId} {x i:Value}:Zv P K (Instr.index t x i):=by
 unfold Instr.index;exact mtA
theorem ZiA {v:Value} {n:Nat}:Zv P K (Instr.extract v n):=by
 unfold Instr.extract;(repeat' split)<;>trivial
theorem Zix {t:TypeId}:Zv P K (Instr.makeMap t none):=Zg (fun _=>YN rfl) fun _ _=>trivial
theorem Zgk {t:TypeId} {l c:Value}:Zv P K (Instr.makeSlice t l c):=by
 unfold Instr.makeSlice;exact mtA
theorem ZhF {f:α->Sem β} (h:∀a K,Zv P K (f a)):∀(l:List α) (K:Nat->Prop),Zv P K (l.mapM f)
 |[],_=>by rw[List.mapM_nil];trivial
 |a::l,K=>by
  rw[List.mapM_cons];exact Zg (h a) fun _ _=>Zg (fun K=>ZhF h l K) fun _ _=>trivial
theorem Zgj {f:α->Sem β} (h:∀a K,Zv P K (f a)) (l:Array α) (K:Nat->Prop):Zv P K (l.mapM f):=by
 rw[Array.mapM_eq_mapM_toList];exact Zg (fun K=>ZhF h _ K) fun _ _=>trivial
theorem Zlm {t:TypeId} {ps:Array (Nat×Value)}:Zv P K (Instr.build t ps):=by
 unfold Instr.build;have hm:∀(A:Array Field) (K:Nat->Prop),Zv P K (A.mapM fun f=>do pure (f.offset,<-sizeOf f.type):Sem (Array (Nat×Nat))):=fun A K=>Zgj (fun f K=>Zg (fun _=>Xi) fun _ _=>Zn) A K;exact mtA
theorem ZbI {t:TypeId} {n:Nat} {ps:Array (Nat×Value)}:Zv P K (Instr.buildSlice t n ps):=by
 unfold Instr.buildSlice;exact mtA
end
end Conc1
end Go.Proofs.YtjgpiclllehgmaaGreat
