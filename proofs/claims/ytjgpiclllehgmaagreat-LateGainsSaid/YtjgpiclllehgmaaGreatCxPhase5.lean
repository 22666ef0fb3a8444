/- Lemmas. -/
import Derived.Test.YtjgpiclllehgmaaGreatCxPhase4
set_option linter.all false
open Array renaming getElem?_eq_some_iff->aM,getElem?_push->bK,getElem?_setIfInBounds_ne->aF
open List renaming foldl_cons->dR,foldl_nil->gg
namespace Go.Proofs.YtjgpiclllehgmaaGreat
namespace Conc1
open Go Go.Conc
section
variable {P:Program} {St:Frame->List Frame->World->Prop} {KF:Frame->List Frame->Option (Nat×Nat×RP)}
variable {a:Cf} {gs:Array Goroutine} {sl:Option (Nat×Nat)} {t:Trace} {q:Nat->Nat} {d:Nat}
theorem ZqB {b:Cf} (hb:Ow P (λ_=>False) ⟨a.fr,a.cs,a.w.at d⟩ b) (hG:Zcw P St b) (J:gs[0]? =some (G a.fr a.cs)) (hL:Leavers P t gs q) (Y:XX t):
  ∃I ops,runT P (crowd gs (a.w.at d) sl) 0=(.next I,ops)/\QY P St I (t++ops):=by
 obtain⟨es,V,e2⟩:=hb.step true;have H:=runT_crowd_go (P:=P) (sl:=sl) (i:=0) J (show stepG P (0==0) _ (a.w.at d)=_ from V);have A:0<gs.size:=(aM.1 J).1;refine⟨_,_,H,?_⟩;have S:=(QA.of_zero hL).apps (gs':=(gs.map (woken P (G a.fr a.cs) (G b.fr b.cs) b.w)).setIfInBounds 0 (G b.fr b.cs)) (u:=MemOp.ofEvents 0 (G a.fr a.cs).frame.fn (G a.fr a.cs).frame.place es)
  (λop h=>by obtain⟨e,_,rfl⟩:=Conc.mem_ofEvents h;exact .inl rfl) A A (by simp) (λi g hi _ U=>by
   rw[aF (by omega),Array.getElem?_map]at U;obtain⟨y,Z,rfl⟩:=Option.map_eq_some_iff.1 U
   exact⟨y,Z,Zbe⟩)
 exact hG _ sl _ q b.w.drawn (by simp[A]) S.zero (Y.own e2)
theorem ZsY {H A:Frame} {ch cell s:Nat} {R:RP} {Y:Bool} (h1:Zos P a.fr a.cs H A) (hE:ZrF P ch cell R (H,a.cs)) (hc:a.w.heap[ch]? =some (.chan 0 #[] false s s Y))
  (J:a.w.cell? ⟨cell,0,none⟩=some (.chan (some ch))) (aa:ch≠cell) (h2:Zk8 P St ch cell R ⟨A,[],a.w.at d⟩) (h0:gs[0]? =some (G a.fr a.cs)) (U:Leavers P t gs q) (hP:XX t):
  ∃m' ops,runT P (crowd gs (a.w.at d) sl) 0=(.next m',ops)/\QY P St m' (t++ops):=by
 obtain⟨es,e1,e2⟩:=h1 (a.w.at d);have I:=runT_crowd_spawn (P:=P) (sl:=sl) (i:=0) h0 (show stepG P (0==0) _ (a.w.at d)=_ from e1);refine⟨_,_,I,?_⟩;obtain⟨n,hn⟩:=hE.start;have Z:0<gs.size:=(aM.1 h0).1;have ab:XX (t++MemOp.ofEvents 0 (G a.fr a.cs).frame.fn (G a.fr a.cs).frame.place es):=hP.own e2;have ah:Deaf (t++MemOp.ofEvents 0 (G a.fr a.cs).frame.fn (G a.fr a.cs).frame.place es) gs.size=0:=by
  rw[Deaf_other t (g':=0) (by omega) _ Yj];exact U.above _ (Nat.le_refl _)
 have ac:=ab.fork (cell:=cell) (by omega) ah {g:=0,fn:=(G a.fr a.cs).frame.fn,pos:=(G a.fr a.cs).frame.place,act:=.go gs.size} {g:=gs.size,fn:=(G A []).frame.fn,pos:=(G a.fr a.cs).frame.place,act:=.start} ⟨rfl,rfl⟩ ⟨rfl,rfl⟩;have e3:t++((MemOp.ofEvents 0 (G a.fr a.cs).frame.fn (G a.fr a.cs).frame.place es).push {g:=0,fn:=(G a.fr a.cs).frame.fn,pos:=(G a.fr a.cs).frame.place,act:=.go gs.size}|>.push {g:=gs.size,fn:=(G A []).frame.fn,pos:=(G a.fr a.cs).frame.place,act:=.start})=
   (t++MemOp.ofEvents 0 (G a.fr a.cs).frame.fn (G a.fr a.cs).frame.place es)++ #[({g:=0,fn:=(G a.fr a.cs).frame.fn,pos:=(G a.fr a.cs).frame.place,act:=.go gs.size}:MemOp),{g:=gs.size,fn:=(G A []).frame.fn,pos:=(G a.fr a.cs).frame.place,act:=.start}]:=by
  rw[Array.append_assoc];congr 1
 rw[e3];have ae:sw (a.w.at d) ch (.chan 0 #[] false s s Y)=a.w.at d:=Zsz hc;have:=h2 ((gs.setIfInBounds 0 (G H a.cs)).push (G A [])) sl _ q d gs.size _ [] s s Y (n+1) 1 (G H a.cs) (G A []) (by rw[bK,if_neg (by simp;omega)];simp[Z]) (.run hn) (by rw[bK,if_pos (by simp)]) .run (by omega) ?_ ac (by simp;omega) hc J aa
 ·rw[ae]at this;exact this
 refine⟨λi g S aj V=>?_,λi S=>?_⟩
 ·have ai:i<gs.size:=by
   have:=(aM.1 V).1;simp at this;omega
  rw[bK,if_neg (by simp;omega),aF (by omega)]at V;rw[show Deaf _ i=Deaf t i from ?_]
  ·exact U.old i g S V
  rw[show(#[({g:=0,fn:=(G a.fr a.cs).frame.fn,pos:=(G a.fr a.cs).frame.place,act:=.go gs.size}:MemOp),{g:=gs.size,fn:=(G A []).frame.fn,pos:=(G a.fr a.cs).frame.place,act:=.start}]:Trace)=[_,_].toArray from rfl,Deaf_append];simp only[dR,gg,deafStep];exact Deaf_other t (g':=0) (by omega) _ Yj
 have S:gs.size+1<=i:=by simpa using S
 rw[show(#[({g:=0,fn:=(G a.fr a.cs).frame.fn,pos:=(G a.fr a.cs).frame.place,act:=.go gs.size}:MemOp),{g:=gs.size,fn:=(G A []).frame.fn,pos:=(G a.fr a.cs).frame.place,act:=.start}]:Trace)=[_,_].toArray from rfl,Deaf_append];simp only[dR,gg,deafStep];rw[Deaf_other t (g':=0) (by omega) _ Yj];exact U.above i (by omega)
theorem ZhC {Stop:Fc->Prop} (Y:∀a,Stop a->ZrD P St a) {a:Fc} (h:ZcZ (T P KF) Stop Fc.re (λa=>a.w.tape) a):ZrD P St a:=by
 induction h with
 |stop h=>exact Y _ h
 | @step a f hT hM ih=>
  cases a with
  |one a=>
   refine Zcw.of_main λgs sl t q d S U J=>?_;have I:=hT d;have H:=ih d;generalize f d=b at I H;cases I with
   |own G=>exact ZqB (a:=a) (d:=d) G H S U J
   |go hk G A h3 Z h5=>exact ZsY (a:=a) (d:=d) G A h3 Z h5 (H ⟨A.recv,A.next⟩) S U J
  |two ch aa R a=>
   exact λV=>Zk8.of (KF:=KF) V λd=>⟨f d,hT d,ih d⟩
end
end Conc1
end Go.Proofs.YtjgpiclllehgmaaGreat
