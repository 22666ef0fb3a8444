/- The statement LateCome: for every list of numbers the law returns true on every schedule, and the list reads afterwards as it read before. No condition. -/
import Derived.Conc.LeavingOf
import Derived.Test.YtjgpiclllehgmaaGreatB1
import Derived.Test.YtjgpiclllehgmaaGreatB6
set_option linter.unusedSimpArgs false
set_option linter.unusedVariables false
namespace Go.Proofs.YtjgpiclllehgmaaGreat.lateCome
open Go.ChangeShapes Go.WideShapes Go.ChangeAt Go.RowKit Go.Conc
def Zue (w:World) (a:Option Addr) (len cap:Nat) (l:List Int):Prop:=
 (a=none∧len=0∧cap=0∧l=[])∨∃b o,a=some ⟨b,o,none⟩∧b<w.heap.size∧len≤cap∧l.length=len∧∀i,i<len→w.cell? ⟨b,o+i,none⟩=some (.int .i64 (l.getD i 0))
set_option maxRecDepth 100000 in
theorem lifted (os:Os) (started:os.Started) (H:Type) (enc:TypeId×Value→H):
  ReturnsInLeavingWide {} Tryz.checked os 13 .any (Rows.lateComeSpec.pre6 enc Tryz.prog Tryz.f13 Rows.lateComeRow.domain false) (Rows.lateComeSpec.post enc Tryz.prog Tryz.f13 false true false false):=by
 refine returnsInLeavingWide_of_change_sized (C:=Tryz.checked) Vm.own started Tryz.func13
  (ChangeSpec.witness6 (enc:=enc) (C:=Tryz.checked) false ⟨#[], #[.slice none 0 0],[]⟩ 8 (by kernel_rfl) (by kernel_rfl) (by kernel_rfl) (by kernel_rfl)) ?_
 intro W base args ds gs before hval0 hW _ _ _
 have hval:∀(j:Nat) t v,Tryz.f13.params[j]? =some t→args[j]? =some v→Value.okWide Tryz.prog W .any base t v:=hval0
 have hW':=hW
 obtain⟨p,q,hA0,hV,rfl,hfz,hnd⟩:=hW
 have hA:DataW.TrodAll enc Tryz.prog W 0 (fun _=>true) true Tryz.f13.params.toList args.toList ds p:=hA0
 rw[Tryz.params13]at hA hval
 obtain⟨v0,vs0,d0,ds0,p0,q0,hargs,rfl,rfl,h0,r0⟩:=trodAll_cons hA
 obtain⟨rfl,rfl,rfl⟩:=trodAll_nil r0
 obtain rfl:args= #[v0]:=by cases args;simp_all
 obtain⟨rfl,rfl⟩:=trodVars_none hV
 have hv0:=hval 0 33 v0 rfl rfl
 obtain⟨a0,len0,cap0,rfl⟩:=okWide_slice Tryz.underlying33 hv0
 have k0:=h0
 have lt0:∀x∈p0,x.block<W.heap.size:=by obtain⟨m,hm⟩:=k0;exact DataW.trod_lt m _ _ _ hm
 obtain⟨l,w0,hl⟩:∃l,Zue W a0 len0 cap0 l∧(l.length:Int)≤9223372036854775807:=by
  obtain⟨fuel,hf⟩:=h0
  rcases open_ints Tryz.underlying33 Tryz.underlying3 (by kernel_rfl) hf with⟨hcs,_⟩|⟨x,n,c,zs,hcs,_,hle,hm,hz,_,hcell,hwz⟩
  ·simp[Value.cells]at hcs
   obtain⟨rfl,rfl,rfl⟩:=hcs
   exact⟨[],.inl ⟨rfl,rfl,rfl,rfl⟩,by simp⟩
  ·simp[Value.cells]at hcs
   obtain⟨rfl,rfl,rfl⟩:=hcs
   simp only[Value.okWide,Tryz.underlying33]at hv0
   obtain⟨b,o,rfl,hb⟩:=Vm.Zid Tryz.underlying33 hv0
   have hz:zs.length=cap0:=by simpa using hz
   have hlen:(zs.take len0).length=len0:=by rw[List.length_take];omega
   refine⟨zs.take len0,.inr ⟨b,o,rfl,hb,hle,hlen,fun i hi=>?_⟩,by rw[hlen];unfold maxLen at hm;omega⟩
   have:=hcell i (by omega)
   rw[show(⟨b,o+i,none⟩:Addr)=(⟨b,o,none⟩:Addr).add i from(Go.WideShapes.add_plain ..).symm,this]
   simp[List.getD_eq_getElem?_getD,List.getElem?_take,hi]
 clear hA0 hval0
 obtain⟨M,last,o,w',t',h1,h2,h3,h4⟩:=Vm.Zqr (f:=13) (xs:=[Vm.lst 1 Vm.XC 0 l]) (vs:= #[.slice a0 len0 cap0]) (W:=W) (by kernel_rfl) (fun t d=>⟨rfl,fun j c hj=>by
  cases j with
  |zero=>
   simp only[List.getElem?_cons_zero,Option.some.injEq]at hj
   subst hj
   exact Vm.Zt8 (Vm.Zon (w:=Conc1.re W t d) w0)
  |succ j=>simp at hj⟩) (Vm.Zu2 l hl)
 refine⟨M,last,o,w',t',h1,h2,h3,h4.mono fun v hF=>?_⟩
 obtain⟨rfl,bel⟩:=hF
 exact⟨_,_,_,[],_,[],hW',trodAll_mk1 (shut_bool Tryz.underlying4 _),(trodAll_cons_mk (Below.trod Vm.Zqn (by kernel_rfl) (of_decide_eq_true (by kernel_rfl)) k0 bel lt0) trodAll_mk0),rfl,bel.frame _,fun h=>by cases h⟩
theorem o1:Tryz.pinned.checked.prog.funcNamed Rows.lateComeRow.func=some 13:=by kernel_rfl
theorem o2:joinedFacts Tryz.pinned.checked.prog 13 Tryz.f13 Rows.lateComeSpec Rows.lateComeRow=true:=by kernel_rfl
theorem o3:Tryz.f13.isInstance Tryz.pinned.checked.prog Rows.lateComeRow.origin Rows.lateComeRow.targs:=of_decide_eq_true (by kernel_rfl)
theorem o4:Tryz.f13.isWrapper Tryz.pinned.checked.prog Rows.lateComeRow.wrapper Rows.lateComeRow.mainSum:=by unfold Func.isWrapper;first|(rw[if_pos (by decide+kernel)];kernel_rfl)|(rw[if_neg (by decide+kernel)];exact⟨rfl,rfl⟩)
theorem over:Rows.lateComeRow.holds Tryz.pinned (OpenSpec.ofChange Rows.lateComeSpec):=
 OpenClaim.holds_of_wide_leaving 13 Tryz.f13 rfl rfl rfl rfl rfl rfl rfl ⟨rfl,rfl,rfl,rfl,rfl⟩ rfl rfl rfl rfl rfl o1 Tryz.func13 o2 o3 o4
  (fun os started H enc _=>lifted os started H enc)
theorem proved:Rows.LateComeSaid:=over
#print axioms proved
end Go.Proofs.YtjgpiclllehgmaaGreat.lateCome
