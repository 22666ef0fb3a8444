/- Lemmas. -/
import Derived.Test.YtjgpiclllehgmaaGreatCxPhase4
set_option linter.all false
open Array renaming getElem?_eq_some_iff->aM,getElem?_push->bK,getElem?_setIfInBounds_ne->aF
open List renaming foldl_cons->dP,foldl_nil->ga
namespace Go.Proofs.YtjgpiclllehgmaaGreat
namespace Conc1
open Go Go.Conc
section
variable {P:Program} {St:Frame->List Frame->World->Prop} {KF:Frame->List Frame->Option (Nat×Nat×RP)}
variable {a:Cf} {gs:Array Goroutine} {sl:Option (Nat×Nat)} {t:Trace} {q:Nat->Nat} {d:Nat}
theorem Zqe {b:Cf} (Z:Ow P (fun _=>False) ⟨a.fr,a.cs,a.w.at d⟩ b) (hG:Zco P St b) (I:gs[0]? =some (G a.fr a.cs)) (hL:Leavers P t gs q) (Y:XH t):
  ∃U ops,runT P (crowd gs (a.w.at d) sl) 0=(.next U,ops)/\QJ P St U (t++ops):=by
 obtain⟨es,V,e2⟩:=Z.step true;have H:=runT_crowd_go (P:=P) (sl:=sl) (i:=0) I (show stepG P (0==0) _ (a.w.at d)=_ from V);have A:0<gs.size:=(aM.1 I).1;refine⟨_,_,H,?_⟩;have J:=(Qo.of_zero hL).apps (gs':=(gs.map (woken P (G a.fr a.cs) (G b.fr b.cs) b.w)).setIfInBounds 0 (G b.fr b.cs)) (u:=MemOp.ofEvents 0 (G a.fr a.cs).frame.fn (G a.fr a.cs).frame.place es)
  (fun op h=>by obtain⟨e,_,rfl⟩:=Conc.mem_ofEvents h;exact .inl rfl) A A (by simp) (fun i g hi _ S=>by
   rw[aF (by omega),Array.getElem?_map]at S;obtain⟨y,hy,rfl⟩:=Option.map_eq_some_iff.1 S
   exact⟨y,hy,Za7⟩)
 exact hG _ sl _ q b.w.drawn (by simp[A]) J.zero (Y.own e2)
theorem ZsD {H A:Frame} {ch cell s:Nat} {R:RP} {U:Bool} (h1:Zn4 P a.fr a.cs H A) (hE:Zri P ch cell R (H,a.cs)) (hc:a.w.heap[ch]? =some (.chan 0 #[] false s s U))
  (J:a.w.cell? ⟨cell,0,none⟩=some (.chan (some ch))) (Z:ch≠cell) (h2:ZkK P St ch cell R ⟨A,[],a.w.at d⟩) (h0:gs[0]? =some (G a.fr a.cs)) (V:Leavers P t gs q) (hP:XH t):
  ∃m' ops,runT P (crowd gs (a.w.at d) sl) 0=(.next m',ops)/\QJ P St m' (t++ops):=by
 obtain⟨es,e1,e2⟩:=h1 (a.w.at d);have I:=runT_crowd_spawn (P:=P) (sl:=sl) (i:=0) h0 (show stepG P (0==0) _ (a.w.at d)=_ from e1);refine⟨_,_,I,?_⟩;obtain⟨n,hn⟩:=hE.start;have ae:0<gs.size:=(aM.1 h0).1;have ah:XH (t++MemOp.ofEvents 0 (G a.fr a.cs).frame.fn (G a.fr a.cs).frame.place es):=hP.own e2;have ac:Deaf (t++MemOp.ofEvents 0 (G a.fr a.cs).frame.fn (G a.fr a.cs).frame.place es) gs.size=0:=by
  rw[Deaf_other t (g':=0) (by omega) _ X7];exact V.above _ (Nat.le_refl _)
 have aa:=ah.fork (cell:=cell) (by omega) ac {g:=0,fn:=(G a.fr a.cs).frame.fn,pos:=(G a.fr a.cs).frame.place,act:=.go gs.size} {g:=gs.size,fn:=(G A []).frame.fn,pos:=(G a.fr a.cs).frame.place,act:=.start} ⟨rfl,rfl⟩ ⟨rfl,rfl⟩;have e3:t++((MemOp.ofEvents 0 (G a.fr a.cs).frame.fn (G a.fr a.cs).frame.place es).push {g:=0,fn:=(G a.fr a.cs).frame.fn,pos:=(G a.fr a.cs).frame.place,act:=.go gs.size}|>.push {g:=gs.size,fn:=(G A []).frame.fn,pos:=(G a.fr a.cs).frame.place,act:=.start})=
   (t++MemOp.ofEvents 0 (G a.fr a.cs).frame.fn (G a.fr a.cs).frame.place es)++ #[({g:=0,fn:=(G a.fr a.cs).frame.fn,pos:=(G a.fr a.cs).frame.place,act:=.go gs.size}:MemOp),{g:=gs.size,fn:=(G A []).frame.fn,pos:=(G a.fr a.cs).frame.place,act:=.start}]:=by
  rw[Array.append_assoc];congr 1
 rw[e3];have ab:sw (a.w.at d) ch (.chan 0 #[] false s s U)=a.w.at d:=Zsb hc;have:=h2 ((gs.setIfInBounds 0 (G H a.cs)).push (G A [])) sl _ q d gs.size _ [] s s U (n+1) 1 (G H a.cs) (G A []) (by rw[bK,if_neg (by simp;omega)];simp[ae]) (.run hn) (by rw[bK,if_pos (by simp)]) .run (by omega) ?_ aa (by simp;omega) hc J Z
 ·rw[ab]at this;exact this
 refine⟨fun i g S aj Y=>?_,fun i S=>?_⟩
 ·have ai:i<gs.size:=by
   have:=(aM.1 Y).1;simp at this;omega
  rw[bK,if_neg (by simp;omega),aF (by omega)]at Y;rw[show Deaf _ i=Deaf t i from ?_]
  ·exact V.old i g S Y
  rw[show(#[({g:=0,fn:=(G a.fr a.cs).frame.fn,pos:=(G a.fr a.cs).frame.place,act:=.go gs.size}:MemOp),{g:=gs.size,fn:=(G A []).frame.fn,pos:=(G a.fr a.cs).frame.place,act:=.start}]:Trace)=[_,_].toArray from rfl,Deaf_append];simp only[dP,ga,deafStep];exact Deaf_other t (g':=0) (by omega) _ X7
 have S:gs.size+1<=i:=by simpa using S
 rw[show(#[({g:=0,fn:=(G a.fr a.cs).frame.fn,pos:=(G a.fr a.cs).frame.place,act:=.go gs.size}:MemOp),{g:=gs.size,fn:=(G A []).frame.fn,pos:=(G a.fr a.cs).frame.place,act:=.start}]:Trace)=[_,_].toArray from rfl,Deaf_append];simp only[dP,ga,deafStep];rw[Deaf_other t (g':=0) (by omega) _ X7];exact V.above i (by omega)
theorem Zhm {Stop:Fc->Prop} (hS:∀a,Stop a->Zrg P St a) {a:Fc} (h:ZcS (T P KF) Stop Fc.re (fun a=>a.w.tape) a):Zrg P St a:=by
 induction h with
 |stop h=>exact hS _ h
 | @step a f hT hM ih=>
  cases a with
  |one a=>
   refine Zco.of_main fun gs sl t q d I U J=>?_;have S:=hT d;have A:=ih d;generalize f d=b at S A;cases S with
   |own H=>exact Zqe (a:=a) (d:=d) H A I U J
   |go hk H G V h4 Z=>exact ZsD (a:=a) (d:=d) H G V h4 Z (A ⟨G.recv,G.next⟩) I U J
  |two ch Y R a=>
   exact fun hE=>ZkK.of (KF:=KF) hE fun d=>⟨f d,hT d,ih d⟩
end
end Conc1
end Go.Proofs.YtjgpiclllehgmaaGreat
