/- Goroutines: steps in canonical order. -/
import Derived.Test.YtjgpiclllehgmaaGreatCxPhase4
set_option linter.unusedSimpArgs false
set_option linter.unusedVariables false
namespace Go.Proofs.YtjgpiclllehgmaaGreat.Conc1
open Go Go.Conc
section
variable {P:Program} {St:Frame→List Frame→World→Prop} {KF:Frame→List Frame→Option (Nat×Nat×RP)}
variable {a:Cf} {gs:Array Goroutine} {sl:Option (Nat×Nat)} {t:Trace} {q:Nat→Nat} {d:Nat}
theorem Zob {b:Cf} (hb:Ow P (fun _=>False) ⟨a.fr,a.cs,a.w.at d⟩ b) (hG:ZbE P St b) (h0:gs[0]? =some (G a.fr a.cs)) (hL:Leavers P t gs q) (hP:Xu t):
  ∃m' ops,runT P (crowd gs (a.w.at d) sl) 0=(.next m',ops)∧Qy P St m' (t++ops):=by
 obtain⟨es,e1,e2⟩:=hb.step true
 have hrunT:=runT_crowd_go (P:=P) (sl:=sl) (i:=0) h0 (show stepG P (0==0) _ (a.w.at d)=_ from e1)
 have hlt:0<gs.size:=(Array.getElem?_eq_some_iff.1 h0).1
 refine⟨_,_,hrunT,?_⟩
 have hL2:=(Qj.of_zero hL).apps (gs':=(gs.map (woken P (G a.fr a.cs) (G b.fr b.cs) b.w)).setIfInBounds 0 (G b.fr b.cs)) (u:=MemOp.ofEvents 0 (G a.fr a.cs).frame.fn (G a.fr a.cs).frame.place es)
  (fun op h=>by obtain⟨e,_,rfl⟩:=Conc.mem_ofEvents h;exact .inl rfl) hlt hlt (by simp) (fun i g hi _ hx=>by
   rw[Array.getElem?_setIfInBounds_ne (by omega),Array.getElem?_map]at hx
   obtain⟨y,hy,rfl⟩:=Option.map_eq_some_iff.1 hx
   exact⟨y,hy,Zau⟩)
 exact hG _ sl _ q b.w.drawn (by simp[hlt]) hL2.zero (hP.own e2)
theorem Zqk {fr' cfr:Frame} {ch cell s:Nat} {R:RP} {tm:Bool} (h1:Zmd P a.fr a.cs fr' cfr) (hE:Zo8 P ch cell R (fr',a.cs)) (hc:a.w.heap[ch]? =some (.chan 0 #[] false s s tm))
  (hcell:a.w.cell? ⟨cell,0,none⟩=some (.chan (some ch))) (hne:ch≠cell) (h2:Zjl P St ch cell R ⟨cfr,[],a.w.at d⟩) (h0:gs[0]? =some (G a.fr a.cs)) (hL:Leavers P t gs q) (hP:Xu t):
  ∃m' ops,runT P (crowd gs (a.w.at d) sl) 0=(.next m',ops)∧Qy P St m' (t++ops):=by
 obtain⟨es,e1,e2⟩:=h1 (a.w.at d)
 have hrunT:=runT_crowd_spawn (P:=P) (sl:=sl) (i:=0) h0 (show stepG P (0==0) _ (a.w.at d)=_ from e1)
 refine⟨_,_,hrunT,?_⟩
 obtain⟨n,hn⟩:=hE.start
 have hlt:0<gs.size:=(Array.getElem?_eq_some_iff.1 h0).1
 have hP1:Xu (t++MemOp.ofEvents 0 (G a.fr a.cs).frame.fn (G a.fr a.cs).frame.place es):=hP.own e2
 have hd0:Deaf (t++MemOp.ofEvents 0 (G a.fr a.cs).frame.fn (G a.fr a.cs).frame.place es) gs.size=0:=by
  rw[Deaf_other t (g':=0) (by omega) _ XO]
  exact hL.above _ (Nat.le_refl _)
 have hPh:=hP1.fork (cell:=cell) (by omega) hd0 {g:=0,fn:=(G a.fr a.cs).frame.fn,pos:=(G a.fr a.cs).frame.place,act:=.go gs.size} {g:=gs.size,fn:=(G cfr []).frame.fn,pos:=(G a.fr a.cs).frame.place,act:=.start} ⟨rfl,rfl⟩ ⟨rfl,rfl⟩
 have e3:t++((MemOp.ofEvents 0 (G a.fr a.cs).frame.fn (G a.fr a.cs).frame.place es).push {g:=0,fn:=(G a.fr a.cs).frame.fn,pos:=(G a.fr a.cs).frame.place,act:=.go gs.size}|>.push {g:=gs.size,fn:=(G cfr []).frame.fn,pos:=(G a.fr a.cs).frame.place,act:=.start})=
   (t++MemOp.ofEvents 0 (G a.fr a.cs).frame.fn (G a.fr a.cs).frame.place es)++ #[({g:=0,fn:=(G a.fr a.cs).frame.fn,pos:=(G a.fr a.cs).frame.place,act:=.go gs.size}:MemOp),{g:=gs.size,fn:=(G cfr []).frame.fn,pos:=(G a.fr a.cs).frame.place,act:=.start}]:=by
  rw[Array.append_assoc]
  congr 1
 rw[e3]
 have hsw:sw (a.w.at d) ch (.chan 0 #[] false s s tm)=a.w.at d:=ZpX hc
 have:=h2 ((gs.setIfInBounds 0 (G fr' a.cs)).push (G cfr [])) sl _ q d gs.size _ [] s s tm (n+1) 1 (G fr' a.cs) (G cfr []) (by rw[Array.getElem?_push,if_neg (by simp;omega)];simp[hlt]) (.run hn) (by rw[Array.getElem?_push,if_pos (by simp)]) .run (by omega) ?_ hPh (by simp;omega) hc hcell hne
 ·rw[hsw]at this
  exact this
 ·refine⟨fun i g hi hij hx=>?_,fun i hi=>?_⟩
  ·have hlt':i<gs.size:=by
    have:=(Array.getElem?_eq_some_iff.1 hx).1
    simp at this
    omega
   rw[Array.getElem?_push,if_neg (by simp;omega),Array.getElem?_setIfInBounds_ne (by omega)]at hx
   rw[show Deaf _ i=Deaf t i from ?_]
   ·exact hL.old i g hi hx
   ·rw[show(#[({g:=0,fn:=(G a.fr a.cs).frame.fn,pos:=(G a.fr a.cs).frame.place,act:=.go gs.size}:MemOp),{g:=gs.size,fn:=(G cfr []).frame.fn,pos:=(G a.fr a.cs).frame.place,act:=.start}]:Trace)=[_,_].toArray from rfl,Deaf_append]
    simp only[List.foldl_cons,List.foldl_nil,deafStep]
    exact Deaf_other t (g':=0) (by omega) _ XO
  ·have hi:gs.size+1≤i:=by simpa using hi
   rw[show(#[({g:=0,fn:=(G a.fr a.cs).frame.fn,pos:=(G a.fr a.cs).frame.place,act:=.go gs.size}:MemOp),{g:=gs.size,fn:=(G cfr []).frame.fn,pos:=(G a.fr a.cs).frame.place,act:=.start}]:Trace)=[_,_].toArray from rfl,Deaf_append]
   simp only[List.foldl_cons,List.foldl_nil,deafStep]
   rw[Deaf_other t (g':=0) (by omega) _ XO]
   exact hL.above i (by omega)
theorem Zgd {Stop:Fc→Prop} (hS:∀a,Stop a→Zo6 P St a) {a:Fc} (h:Zb9 (T P KF) Stop Fc.re (fun a=>a.w.tape) a):Zo6 P St a:=by
 induction h with
 |stop h=>exact hS _ h
 | @step a f hT hM ih=>
  cases a with
  |one a=>
   refine ZbE.of_main fun gs sl t q d h0 hL hP=>?_
   have hd:=hT d
   have hi:=ih d
   generalize f d=b at hd hi
   cases hd with
   |own h1=>exact Zob (a:=a) (d:=d) h1 hi h0 hL hP
   |go hk h1 h2 h3 h4 h5=>exact Zqk (a:=a) (d:=d) h1 h2 h3 h4 h5 (hi ⟨h2.recv,h2.next⟩) h0 hL hP
  |two ch cell R a=>
   exact fun hE=>Zjl.of (KF:=KF) hE fun d=>⟨f d,hT d,ih d⟩
end
end Go.Proofs.YtjgpiclllehgmaaGreat.Conc1
