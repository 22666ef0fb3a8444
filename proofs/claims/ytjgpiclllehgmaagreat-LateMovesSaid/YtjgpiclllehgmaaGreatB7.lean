/- Lemmas. -/
import Derived.Test.YtjgpiclllehgmaaGreatB5
import Derived.Test.YtjgpiclllehgmaaGreatB0
import Derived.Test.YtjgpiclllehgmaaGreatB2
import Derived.Test.YtjgpiclllehgmaaGreatB6
import Derived.Test.YtjgpiclllehgmaaGreatB4
import Derived.Test.YtjgpiclllehgmaaGreatB3
set_option linter.all false
open Array renaming length_toList->cX,mem_toList_iff->cM
open Bool renaming and_eq_true->aU,eq_iff_iff->ej,false_ne_true->aO,false_or->bZ,not_eq_true->fX,or_assoc->g9,or_eq_true->cJ,true_or->cS
open Decidable renaming of_not_not->bQ
open Int renaming le_refl->bS,toNat_natCast->aV
open List renaming any_append->fZ,any_eq_true->cZ,filter_append->fL,getD_eq_getElem?_getD->aA,getElem?_cons_zero->bJ,getElem?_eq_getElem->aD,getElem?_eq_none->cE,getElem?_map->aQ,getElem?_range->cQ,getElem?_set->bR,getElem?_set_ne->cU,getElem?_set_self->cV,getElem?_take->cO,getElem_mem->bM,getElem_take->fQ,length_append->bA,length_cons->bF,length_map->aX,length_nil->cF,length_pos_iff->dV,length_range->cH,length_set->bP,length_singleton->fx,length_take->bW,mem_iff_getElem->dQ,mem_iff_getElem?->en,mem_map->bC,mem_range->bV,range->aP,range'->eL
open Nat renaming le_refl->aI,zero_le->aT
open Option.some renaming injEq->aC
open Prod.mk renaming injEq->aK
open Go.Result renaming andThen_ok->aH
open Go.Sem renaming run_bind->aR,run_pure->bD
open Go.Proofs.Tryz renaming prog->aB
namespace Go.Proofs.YtjgpiclllehgmaaGreat
namespace Vm
open Sp
def QM (b:Xy) (j:Nat):Sp.Z6:=⟨(b.old.getD j default).number,0⟩
structure RL (b:Xy) (i:Nat) (runs:List Sp.Z6) (rows:List (List Sp.Call)):Prop where
 len:rows.length=runs.length
 le:runs.length<=i
 row:∀k,k<runs.length->∃j,j<i/\j<b.old.length/\runs.getD k default=QM b j/\Xb b (QM b j)=(rows.getD k [],true)
 pw:runs.Pairwise λa c=>a≠c
 some:∀j,j<i->(Xb b (QM b j)).2=true->0<runs.length
theorem RL.nil {b:Xy}:RL b 0 [] []:=⟨rfl,aI _,λk h=>by simp at h,.nil,λj h=>by omega⟩
theorem RL.skip {b:Xy} {i:Nat} {runs:List Sp.Z6} {A:List (List Sp.Call)} (h:RL b i runs A) (J:(Xb b (QM b i)).2=false):RL b (i+1) runs A:=
 ⟨h.len,by have:=h.le;omega,λk H=>by
  obtain⟨j,U,I⟩:=h.row k H;exact⟨j,by omega,I⟩,h.pw,λj S G=>by
  by_cases e:j=i
  ·subst e;rw[J]at G;cases G
  exact h.some j (by omega) G⟩
theorem ZeL {α:Type} {d:α} {l:List α} {a:α} {k:Nat} (h:k<l.length):(l++[a]).getD k d=l.getD k d:=by rw[aA,List.getElem?_append_left h,<-aA]
theorem ZeM {α:Type} {d:α} {l:List α} {a:α}:(l++[a]).getD l.length d=a:=by simp[aA]
theorem RL.snoc {b:Xy} {n:Int} {i:Nat} {runs:List Sp.Z6} {G:List (List Sp.Call)} {C:List Sp.Call} (S:DL n b.old) (h:RL b i runs G) (hi:i<b.old.length) (J:Xb b (QM b i)=(C,true)):RL b (i+1) (runs++[QM b i]) (G++[C]):=by
 have U:=h.len;refine⟨by simp[U],by have:=h.le;simp;omega,λk H=>?_,?_,λj hj hs=>by simp⟩
 ·simp only[bA,bF,cF]at H;by_cases hk2:k<runs.length
  ·obtain⟨j,h1,I,A,Z⟩:=h.row k hk2;exact⟨j,by omega,I,by rw[ZeL hk2];exact A,by rw[ZeL (by omega)];exact Z⟩
  have Y:k=runs.length:=by omega
  subst Y;refine⟨i,by omega,hi,ZeM,?_⟩;rw[<-U,ZeM];exact J
 refine List.pairwise_append.2 ⟨h.pw,List.pairwise_singleton _ _,λc J e V=>?_⟩;simp only[List.mem_singleton]at V;subst V;obtain⟨k,H,rfl⟩:=dQ.1 J;obtain⟨j,h1,I,A,_⟩:=h.row k H;rw[aA,aD H]at A;have A:runs[k]=QM b j:=A;rw[A];intro e;have e:=congrArg Sp.Z6.number e;have e:(b.old.getD j default).number=(b.old.getD i default).number:=e;rw[Zfx S I,Zfx S hi]at e;omega
structure RJ (b:Xy) (runs:List Sp.Z6) (rows:List (List Sp.Call)):Prop where
 len:rows.length=runs.length
 pos:1<=runs.length/\runs.length<=4
 check:Yl b=0
 row:∀r∈rows,Zlb r
 calls:∀w d,callsOf ⟨b,runs,w,d⟩=rows
 err:∀w d,Q5 ⟨b,runs,w,d⟩=0
 from_:∀k,k<runs.length->∃j,j<b.old.length/\runs.getD k default=QM b j
theorem ZeW {b:Xy} {d:Sp.Z6} {C:List Sp.Call} (h:Xb b d=(C,true)):Xf (Run b d.number d.day).1=0/\(Run b d.number d.day).1=C/\(Run b d.number d.day).2=0:=by
 unfold Xb at h;split at h
 ·cases h
 rename_i A;simp only[aK,iU]at h;exact⟨by omega,h⟩
theorem RL.ok {z:Zone} {n:Int} {i:Nat} {old:List Train} {runs:List Sp.Z6} {H:List (List Sp.Call)} (hz:Zy z=0) (Z:DL n old) (hn:n=old.length) (hl:old.length<=4) (h:RL (Zt z old) i runs H) (hi:i<=4) (hp:0<runs.length):RJ (Zt z old) runs H:=by
 have hc:=Zjn hz Z hn hl;have ab:=h.le
 refine⟨h.len,by omega,hc,λr hr=>?_,λw d=>?_,λw d=>?_,λk A=>by
  obtain⟨j,S,G,h3,h4⟩:=h.row k A
  exact⟨j,G,h3⟩⟩
 ·obtain⟨k,A,rfl⟩:=dQ.1 hr;obtain⟨j,S,G,h3,h4⟩:=h.row k (by rw[<-h.len];exact A);obtain⟨Y,J,I⟩:=ZeW h4;rw[aA,aD A]at J;have J:(Run (Zt z old) (QM (Zt z old) j).number (QM (Zt z old) j).day).1=H[k]:=J;rw[<-J];have e:=ZmM hc Z (j:=j) G;have e:Run (Zt z old) (QM (Zt z old) j).number (QM (Zt z old) j).day=_:=e;rw[e]at Y|-;obtain⟨st,_,_,ht⟩:=Z.all j G;exact Zqi ht Y
 ·refine List.ext_getElem (by show(List.map _ runs).length=_;rw[aX,h.len]) λk S G=>?_;have A:k<runs.length:=by rw[<-h.len];exact G
  have e0:∀(f:Sp.Z6->List Sp.Call) (S:k<(runs.map f).length),(runs.map f)[k]'S=f runs[k]:=λf S=>List.getElem_map _;refine(e0 _ S).trans ?_;obtain⟨j,Y,J,I,V⟩:=h.row k A;rw[aA,aD A]at I;have I:runs[k]=QM (Zt z old) j:=I;rw[aA,aD G]at V;have g5:=(ZeW V).2.1;rw[I];exact g5
 unfold Q5;show(if runs.length=0 then(7:Int)else if 4<runs.length then 6 else _)=0;rw[iN (by omega),iN (by omega)];refine ZbM λk _ A=>?_;have A:k<runs.length:=by have A:k<0+runs.length:=A;omega
 obtain⟨j,Y,J,I,V⟩:=h.row k A;obtain⟨e1,e2,e3⟩:=ZeW V;rw[<-I]at e1 e2 e3;unfold JM;show(if(Run (Zt z old) (runs.getD k default).number (runs.getD k default).day).2≠0 then _ else if Xf (Run (Zt z old) (runs.getD k default).number (runs.getD k default).day).1≠0 then(5:Int)else if(runs.take k).any (λx=>decide (x=runs.getD k default))then 4 else 0)=0;rw[iN (λU=>U e3),iN (λU=>U e1),iN];rw[fX,List.any_eq_false];intro x hx;obtain⟨q,hq,rfl⟩:=dQ.1 hx;have aa:q<k:=by simp at hq;omega
 have:=Zqt (d:=default) h.pw aa A;rw[aA,aD (show q<runs.length by omega)]at this;rw[fQ];simpa using this
structure Zrs (t:Zb):Prop where
 begin:Zn t=0
 row:∀r∈callsOf t,Zlb r
 book:∃z old n,t.book=Zt z old/\Zy z=0/\DL n old
 from_:∀k,k<t.runs.length->∃j,j<t.book.old.length/\t.runs.getD k default=QM t.book j
theorem RL.one {n:Int} {old:List Train} (S:Yl (Zt ⟨0,[]⟩ old)=0) (A:DL n old) (H:0<old.length):Xb (Zt ⟨0,[]⟩ old) (QM (Zt ⟨0,[]⟩ old) 0)=((Xb (Zt ⟨0,[]⟩ old) (QM (Zt ⟨0,[]⟩ old) 0)).1,true):=by
 have e:Run (Zt ⟨0,[]⟩ old) (QM (Zt ⟨0,[]⟩ old) 0).number (QM (Zt ⟨0,[]⟩ old) 0).day=_:=ZmM S A (j:=0) H;obtain⟨st,_,_,I⟩:=A.all 0 H;have J:=ZlA I;unfold Xb;rw[e];rw[iN (λG=>G J)];rfl
open Go Go.Proofs Conc1
section
variable {P:Program} {G:Nat->Nat->Nat->Prop} {R:RC} {h:List Zh}
theorem Zs7 (H:HR G R h) {E:Operand->AV} {ρ:Operand->Value} {t:TypeId} {n:Nat} {ps:Array (Nat×Operand)} {s:Nat} {m:Unit->Int} {f:(Unit->Int)->List AV} {tk:Tk} (hE:∀p∈ps.toList,VR R (E p.2) (ρ p.2)) (hv:Yj P E t n ps.toList=some (.isl s m f tk)):
  ∃u J,(Instr.buildSlice t n (ps.map λ(i,x)=>(i,ρ x))).run P R.w= .ok u J.w/\HR G J (h++[.gar s m f])/\Xj R h J (h++[.gar s m f])/\R.le J/\VR J (.gsl h.length m) u:=by
 unfold Yj at hv;split at hv;case h_2=>cases hv
 rename_i T hT;split at hv;case h_2=>cases hv
 rename_i e U eb hk;split at hv;case isFalse=>cases hv
 rename_i ac;simp only[aU]at ac;obtain⟨⟨ae,I⟩,V⟩:=ac;have I:=ZD I;have V:=Q8 V;obtain⟨j,hu,Y,hs,_⟩:=JC hT hk;obtain⟨j',z,aa,hz,ao,am,_⟩:=YT ae;rw[Y]at aa;cases aa;split at hv;case h_2=>
  unfold Zjc at hv;split at hv;case h_2=>cases hv
  split at hv;case isFalse=>cases hv
  cases hv
 rename_i A hr;unfold ZgR at hv;simp only[aC,AV.isl.injEq]at hv;obtain⟨rfl,rfl,rfl,_⟩:=hv;obtain⟨arr,a1,a2,a3,a4,a5⟩:=ZeR (R:=R) (ρ:=ρ) ps.toList 0 A ((Array.range (n*U)).map λk=>(if n*U=0 then #[]else z.cells)[k%(if n*U=0 then #[]else z.cells).size]!) hr (by simp[I]) hE;have ab:A.length=n:=by rw[a3,cX];rw[cX]at I;exact I
 have ah:arr.size=n*U:=by rw[a2];simp
 obtain⟨J,hw,H',hx,S,hm,ak,aj⟩:=H.garFresh U (λ_=>(A.length:Int)) (λe=>A.getD (e ()).toNat (A.headD [])) n (by show(A.length:Int)=n;rw[ab]) arr e ah (λJ S i hi=>by
  have Z:A[i]? =some A[i]:=aD (by omega);have er:A.getD (i:Int).toNat (A.headD [])=A[i]:=by rw[aV,aA,Z];rfl
  show(A.getD (i:Int).toNat (A.headD [])).length=U/\∀j c,(A.getD (i:Int).toNat (A.headD []))[j]? =some c->_;rw[er];refine⟨(a5 i _ Z).1,λj c Y=>?_⟩;have:=(a5 i _ Z).2 j c Y;rw[Nat.zero_add]at this
  exact this.mono S.ok S.keep S.keepM)
 refine⟨.slice (some ⟨R.w.heap.size,0,none⟩) n n,J,?_,H',hx,S,?_⟩
 ·have ai:(ps.map λ(i,x)=>(i,ρ x)).toList=ps.toList.map λp=>(p.1,ρ p.2):=by simp
  unfold Instr.buildSlice;simp only[aR,Zw hu,aH,Z3 Y,hs,ai];rw[iN (by omega)];rw[hw];by_cases hns:n*U=0
  ·simp only[iP hns]at a1|-;simp only[aR,bD,aH];rw[a1];rfl
  simp only[iN hns]at a1|-;simp only[aR,bD,aH,zeroValue,Xo Y,hz];rw[a1];rfl
 rw[H.len];exact .gsl _ _ _ _ _ (by omega) (by rw[ak];exact bS _) (λ_=>aj.symm) ⟨by show(A.length:Int)=n;rw[ab],.inr ⟨_,_,rfl⟩⟩
end
def ZqQ (T:Tb) (o:Oper) (E:Operand->AV) (h:List Zh):Option (AV×List Zh×Cd):=match o.op,o.guard with
 |.buildSlice t n ps,none=>(match Ys T (λx=>strip (E x)) t n ps.toList with
  |some (.isl s m f _)=>some (.gsl h.length m,h++[.gar s m f],gdC E o.op.operands.toList)
  |_=>none)
 |_,_=>none
def ZfB (T:Tb) (p:Unit->Program) (d:Nat) (ops:Array Oper):List Oper->List AV->List Zh->Cd->(List AV->List Zh->Cd->Prop)->Prop
 |[],s,h,c,K=>K s h c
 |o::r,s,h,c,K=>(match o.dst with
  |some e=>if ZI e d then(match ZqQ T o (ev s) h with
   |some (v,h',c')=>ZfB T p d ops r (putO s o.dst v) h' (c++c') K
   |none=>False)else Wop T p ops o (ev s) h c λv h c=>ZfB T p d ops r (putO s o.dst v) h c K
  |none=>Wop T p ops o (ev s) h c λv h c=>ZfB T p d ops r (putO s o.dst v) h c K)
section
variable {T:Tb} {p:Unit->Program} {R₀:RC} {h₀:List Zh}
theorem ZqP (hT:T.Of (p ())) {ops:Array Oper} {i:Nat} {o:Oper} (ho:ops[i]? =some o) {E:Operand->AV} {h h':List Zh} {v:AV} {c:Cd} (hv:ZqQ T o E h=some (v,h',c)) (hc:ZW c):Zei (p ()) R₀ h₀ ops i o E h λZ I=>Z=v/\I=h':=by
 unfold ZqQ at hv;split at hv;case h_2=>cases hv
 rename_i t n ps A hg;split at hv;case h_2=>cases hv
 rename_i s m f tk hb;have Y:=JQ hT hb;simp only[aC,aK]at hv;obtain⟨rfl,rfl,rfl⟩:=hv;intro R H U hE b ds k cs aa;have G:∀x∈o.op.operands,VR R (strip (E x)) (QQ H x):=λx V=>(hE x (List.mem_append_left _ (cM.2 V))).strip (ZfV hc x (cM.2 V))
 obtain⟨u,R',h1,h2,S,J,h5⟩:=Zs7 (ρ:=QQ H) U.hr (λq hq=>G q.2 (by
  rw[A];simp only[Op.operands];rw[<-cM];simp only[Array.toList_map]
  exact bC.2 ⟨q,hq,rfl⟩)) Y
 refine⟨_,_,R',u,⟨rfl,rfl⟩,U.step h2 S J,S,J,h5,.one (ZaY (nv:=.value u) ho (by simp[Region.wanted,hg]) (λc e=>by rw[A]at e;cases e) ?_ ?_ (.inl rfl))⟩
 ·unfold execOp;simp only[A];exact Zg (λ_=>ZbW) λ_ _=>Zq
 unfold execOp;simp only[A];rw[aR,h1];rfl
theorem Zk6 (hT:T.Of (p ())) {d:Nat} {ops:Array Oper} {K:List AV->List Zh->Cd->Prop} (hK:∀s h c,K s h c->ZW c):∀(l:List Oper) (j:Nat) (s:List AV) (h:List Zh) (c:Cd),(∀m,m<l.length->ops[j+m]? =l[m]?)->ZfB T p d ops l s h c K->
  ZW c/\ZbT (p ()) R₀ h₀ ops (eL j l.length) s h λs h=>∃c,K s h c
 |[],j,s,h,c,_,hW=>⟨hK _ _ _ hW,λR t hi H b ds k cs=>⟨s,h,R,t,⟨_,hW⟩,hi,Xj.refl _ _,RC.le.refl _,H,.one Jk⟩⟩
 |o::r,j,s,h,c,hl,hW=>by
  have ho:ops[j]? =some o:=by simpa using hl 0 (by simp)
  have ih:=λs h c=>Zk6 hT (d:=d) hK r (j+1) s h c (λm hm=>by have:=hl (m+1) (by simpa using hm);rw[show j+1+m=j+(m+1) by omega];simpa using this);have S:∀(Q:AV->List Zh->Prop),Zei (p ()) R₀ h₀ ops j o (Vm.ev s) h Q->(∀v A,Q v A->∃V,ZfB T p d ops r (putO s o.dst v) A V K)->ZbT (p ()) R₀ h₀ ops (eL j (o::r).length) s h λs h=>∃c,K s h c:=λQ U G R t hi H b ds k cs=>by
   obtain⟨v,A,R',u,hQ,a1,a2,Z,a4,a5⟩:=U R t hi (H.eok ops o) b ds k cs (eL (j+1) r.length);obtain⟨V,Y⟩:=G v A hQ;obtain⟨ab,I,ac,aa,b1,b2,b3,b4,b5,b6⟩:=(ih _ _ _ Y).2 R' _ a1 ((H.mono Z).putO a4 o.dst) b ds k cs;exact⟨ab,I,ac,aa,b1,b2,a2.trans b3,Z.trans b4,b5,a5.trans (YB Z b6)⟩
  have other:(Wop T p ops o (Vm.ev s) h c λv h c=>ZfB T p d ops r (putO s o.dst v) h c K)->ZW c/\ZbT (p ()) R₀ h₀ ops (eL j (o::r).length) s h λs h=>∃c,K s h c:=λhW=>by
   obtain⟨h1,U⟩:=ZjF hT (R₀:=R₀) (h₀:=h₀) ho (λv h c Y=>(ih _ _ _ Y).1) hW;exact⟨h1,S _ U λv A G=>G⟩
  unfold ZfB at hW;split at hW
  ·split at hW
   ·split at hW;case h_2=>exact hW.elim
    rename_i v A V hv;have J:=(ih _ _ _ hW).1
    exact⟨(Z5 J).1,S _ (ZqP hT ho hv (Z5 J).2) λv' I G=>by
     obtain⟨rfl,rfl⟩:=G
     exact⟨_,hW⟩⟩
   exact other hW
  exact other hW
theorem hpX {nb:Nat} {K:Ex->List AV->List Zh->Cd->Prop} {id:Nat} {ops:Array Oper} {k:List Item} {s:List AV} {h:List Zh} (hT:T.Of (p ())) (d:Nat) (hW:ZfB T p d ops ops.toList s h [] λs h c=>Chk c (HP false nb p k K s h)):HP false nb p (.code (.region id ops false)::k) K s h:=
 ⟨λS G A I=>by
  obtain⟨_,J⟩:=Zk6 (R₀:=G) (h₀:=A) hT (λs h c (H:Chk c _)=>H.c) ops.toList 0 s h [] (λm hm=>by simp) hW;have U:ZbT (p ()) G A ops (aP ops.size) s h λs h=>∃c,Chk c (HP false nb p k K s h):=by
   rw[List.range_eq_range'];simpa using J
  exact CI.then (CI.region U λs h H=>⟨rfl,H⟩) λs h ⟨c,H⟩=>H.g.run S G A I⟩
end
end Vm
namespace Vm
attribute [local irreducible] Dn
open Go Go.Proofs Sp
set_option maxRecDepth 100000
set_option maxHeartbeats 8000000
theorem ZK.garE {n k s:Nat} {m m':Unit->Int} {f H:(Unit->Int)->List AV} (hm:m ()=m' ()) (hf:∀i:Nat,(i:Int)<m ()->Ya (f λ_=>(i:Int)) (H λ_=>(i:Int))):ZK n k (.gar s m f) (.gar s m' H):=
 ⟨λR id hN ⟨Y,S⟩=>⟨Y.trans hm,by
  rcases S with⟨h3,V⟩|⟨b,o,len,G,arr,ty,a1,a2,Z,a4,a5,J⟩
  ·exact .inl ⟨by omega,V⟩
  refine .inr ⟨b,o,len,G,arr,ty,by omega,a2,Z,a4,a5,λi I=>?_⟩;have A:=hf i (by omega);refine⟨by rw[A.1];exact(J i I).1,λj c hj=>?_⟩;obtain⟨c0,g1,U⟩:=A.2 j c hj
  exact U _ _ _ ((J i I).2 j c0 g1)⟩,λ_ _ _=>Iff.rfl,λ_ _ _ _ _=>Iff.rfl,rfl⟩
theorem To.rsvC {s:List AV} {h:List Zh} {id:Nat} {cs:List AV} (S:h[id]? =some (.cells cs)):To s h s (h.set id (.cells (cs.map (Vm.rsv h)))):=λG R t H hs=>by
 have J:∀ {j x},(h.set id (.cells (cs.map (Vm.rsv h))))[j]? =some x->(j=id/\x= .cells (cs.map (Vm.rsv h)))\/(j≠id/\h[j]? =some x):=λ{j x} A=>by
  rw[bR]at A;split at A
  ·rename_i e;split at A
   ·simp only[aC]at A;exact .inl ⟨e.symm,A.symm⟩
   cases A
  rename_i e;exact .inr ⟨λe'=>e e'.symm,A⟩
 have ac:∀ {j},j≠id->(h.set id (.cells (cs.map (Vm.rsv h))))[j]? =h[j]? :=λ{j} e=>by rw[cU (Ne.symm e)]
 have ae:=(List.getElem?_eq_some_iff.1 S).1;have ab:(h.set id (.cells (cs.map (Vm.rsv h))))[id]? =some (.cells (cs.map (Vm.rsv h))):=by rw[cV ae]
 have aa:∀ {j x b},(h.set id (.cells (cs.map (Vm.rsv h))))[j]? =some x->ZC R j x b->∃y,h[j]? =some y/\ZC R j y b:=λ{j x b} A I=>by
  rcases J A with⟨rfl,rfl⟩|⟨V,A⟩
  ·exact⟨_,S,I⟩
  exact⟨x,A,I⟩
 have ai:∀b o n,Zdh R h b o n↔Zdh R (h.set id (.cells (cs.map (Vm.rsv h)))) b o n:=λb o n=>by
  constructor
  ·intro ha j x A;rcases J A with⟨rfl,rfl⟩|⟨V,A⟩
   ·exact(ha j _ S:¬ZC R j (.cells cs) b)
   exact ha j x A
  intro ha j x A;by_cases e:j=id
  ·subst e;rw[S]at A;cases A;exact(ha j _ ab:¬ZC R j (.cells (cs.map (Vm.rsv h))) b)
  exact ha j x (by rw[ac e];exact A)
 refine⟨R,rfl,⟨by rw[bP];exact H.len,λb o n=>by rw[<-ai];exact H.okd b o n,λj x A=>?_,λi j bi bj b aj U hj I Z=>?_,H.cl,H.fresh,λj x b A Y I o n=>?_,H.n0m⟩,⟨rfl,rfl,rfl,rfl,aI _,aI _,λ_ _=>rfl,λ_ _ _ k=>k,λ_ _ _ _ _ _=>rfl,λ_ _ _=>rfl,λj x b A I=>?_⟩,RC.le.refl _,hs⟩
 ·rcases J A with⟨rfl,rfl⟩|⟨V,A⟩
  ·obtain⟨arr,ty,h1,h2,h3⟩:=H.blk _ _ S;refine⟨arr,ty,h1,by rw[aX];exact h2,λk c Y=>?_⟩;rw[aQ,Option.map_eq_some_iff]at Y;obtain⟨c0,ah,rfl⟩:=Y
   have:=(SL.rsv (t:= #[arr.getD ((R.α j).o+k) undef]) H ⟨rfl,λi a U=>by
    cases i with
    |zero=>
     have U:c0=a:=by simpa using U
     subst U;exact h3 k _ ah
    |succ i=>simp at U⟩ {tb with rs:=true} (s:=[c0])).2 0 (Vm.rsv h c0) rfl
   exact this
  exact H.blk j x A
 ·obtain⟨y,hy,I⟩:=aa U I;obtain⟨y',ak,Z⟩:=aa hj Z;exact H.dis i j y y' b aj hy ak I Z
 ·rcases J A with⟨rfl,rfl⟩|⟨V,A⟩
  ·cases Y
  exact H.tokG j x b A Y I o n
 obtain⟨y,hy,I⟩:=aa A I;exact .inr ⟨j,y,hy,I,.inl rfl⟩
theorem ZK.deadF {n k s:Nat} {m:Unit->Int} {f:(Unit->Int)->List AV}:ZK n k (.fro s m f) .dead:=⟨λ_ _ _ _=>trivial,λ_ _ _=>Iff.rfl,λ_ _ _ _ _=>Iff.rfl,rfl⟩
theorem PR.nilw' {w:World} {ok:Nat->Nat->Nat->Prop} {s s':Nat} {m m':Unit->Int} {f G:(Unit->Int)->List AV} {v:Value} (h:PR w ok (.isl s m f .nil) v) (hm:m' ()=0):PR w ok (.isl s' m' G .none) v:=by
 cases h with
 |isl0 _ _ _ _ H A=>exact .isl0 _ _ _ _ hm rfl
 |islE _ _ _ _ a H A=>exact .islE _ _ _ _ a hm (.inl rfl)
 |isl _ _ _ _ b o len I J U S A=>rcases A with h|h<;>cases h
theorem ZsL {p A:Prop} {α I S H J:Type} {k:List Item} {K:Ex->List AV->List Zh->Cd->Prop} (st:α×I×S×H×J->List AV) (G:α×I×S×H×J->List Zh) (inv:α×I×S×H×J->Prop) (Y:p->(∀i,inv i->HP false 1 (λ_=>aB) k K (st i) (G i))->A) (V:¬p->(∀i,inv i->HP false 1 (λ_=>aB) k K (st i) (G i))->A)
  (U:∀a b c d e,inv (a,b,c,d,e)->HP false 1 (λ_=>aB) k K (st (a,b,c,d,e)) (G (a,b,c,d,e))):A:=by
 by_cases h:p
 ·exact Y h λ⟨a,b,c,d,e⟩ hi=>U a b c d e hi
 exact V h λ⟨a,b,c,d,e⟩ hi=>U a b c d e hi
theorem Zi9 (kp rs:Bool) (cs:List Nat) {x:Code} {Q:Ex->List AV->List Zh->Prop} {s:List AV} {h:List Zh} {α A G:Type} (L:List Nat) (ex:List Zh) (ch:α×A×G->List (Nat×AV)) (H:α×A×G->List (Nat×Zh)) (inv:α×A×G->Prop) (J:α×A×G->Nat) (i:α×A×G)
  (hi:inv i) (I:To (Vm.keep L s) h (YQ (Vm.keep L s) (ch i)) (X3 (h++ex) (H i)))
  (step:∀a b c,inv (a,b,c)->Dn (tbX kp rs cs) (λ_=>aB) (ZeI L (λi=>YQ (Vm.keep L s) (ch i)) (λi=>X3 (h++ex) (H i)) inv J (a,b,c) (h++ex).length Q) 100 .none [.code x] (YQ (Vm.keep L s) (ch (a,b,c))) (X3 (h++ex) (H (a,b,c))) []):LP false (λ_=>aB) x Q s h:=
 ZG kp rs cs L ex ch H inv J i hi I λ⟨a,b,c⟩ h=>step a b c h
theorem Zxq {A:(α:Type)->α->List α->Int->α} (O:∀(α:Type) (d:α) (l:List α) (i:Int),A α d l i=l.getD i.toNat d) (z:Zone) (old:List Train) (n:Int) (G:Xk (Zt z old)) (H:(Xb (Zt z old) ⟨n,0⟩).2=false):SC (λ_=>aB) 75 [.agg [.gd (λ_=>decide ((1:Int)=1)) (.isl 2 (λ_=>1) (λe=>encZone (A Zone default [z] (e ()))) .none),.isl 3 (λ_=>(old.length:Int)) (λe=>encTrain (A Train default old (e ()))) .none,.isl 0 (λ_=>0) (λ_=>[]) .nil,.int .i64 λ_=>1,.int .i64 λ_=>0],.agg [.int .i64 λ_=>n,.int .i64 λ_=>0]] [] λv h=>v= .tup [.undef,.bool λ_=>false]/\h=[]:=by
 have k:=Zxr (Zt z old) ⟨n,0⟩ G H;simp only[Zd,Zk,Zt,Za O]at k;refine SC.to ?_ k;(refine To.of [] ?_;cbv;(try simp only[nc]);(repeat' first|exact xT|refine⟨?_,?_⟩|refine ZK.cells ?_|refine Zz.agg ?_|refine Zz.tup ?_);all_goals try exact XU);all_goals exact .gd rfl (.none rfl λ_ _=>rfl)
theorem Zvi (kp rs:Bool) (cs:List Nat) {x:Code} {Q:Ex->List AV->List Zh->Prop} {s:List AV} {h:List Zh} {α G H A:Type} (L:List Nat) (ex:List Zh) (ch:α×G×H×A->List (Nat×AV)) (I:α×G×H×A->List (Nat×Zh)) (inv:α×G×H×A->Prop) (S:α×G×H×A->Nat) (i:α×G×H×A)
  (hi:inv i) (J:To (Vm.keep L s) h (YQ (Vm.keep L s) (ch i)) (X3 (h++ex) (I i)))
  (step:∀a b c d,inv (a,b,c,d)->Dn (tbX kp rs cs) (λ_=>aB) (ZeI L (λi=>YQ (Vm.keep L s) (ch i)) (λi=>X3 (h++ex) (I i)) inv S (a,b,c,d) (h++ex).length Q) 100 .none [.code x] (YQ (Vm.keep L s) (ch (a,b,c,d))) (X3 (h++ex) (I (a,b,c,d))) []):LP false (λ_=>aB) x Q s h:=
 ZG kp rs cs L ex ch I inv S i hi J λ⟨a,b,c,d⟩ h=>step a b c d h
structure ByL (b:List Int) (n:Int):Prop where
 rng:∀k,k<b.length->0<=b.getD k 0/\b.getD k 0<=240
 asc:∀k,k+1<b.length->b.getD k 0<b.getD (k+1) 0
 bd:0<=n/\n<=10+60*b.length
 last:∀k,k<b.length->b.getD k 0<n
theorem ByL.nil {n:Int} (h:0<=n/\n<=10):ByL [] n:=⟨λk h=>by simp at h,λk h=>by simp at h,by simp;omega,λk h=>by simp at h⟩
theorem ByL.snoc {b:List Int} {n y:Int} (h:ByL b n) (S:b.length<=2) (U:1<=y/\y<=60):ByL (b++[n]) (n+y):=by
 have J:=h.bd;have G:∀k,k<b.length->(b++[n]).getD k 0=b.getD k 0:=λk A=>ZeL A;have I:(b++[n]).getD b.length 0=n:=ZeM;have H:(b++[n]).length=b.length+1:=by rw[bA,fx]
 refine⟨λk A=>?_,λk A=>?_,by rw[H];omega,λk A=>?_⟩
 ·by_cases e:k<b.length
  ·rw[G k e];exact h.rng k e
  rw[show k=b.length by omega,I];omega
 ·rw[G k (by omega)];by_cases e:k+1<b.length
  ·rw[G _ e];exact h.asc k e
  rw[show k+1=b.length by omega,I];exact h.last k (by omega)
 by_cases e:k<b.length
 ·rw[G k e];have:=h.last k e;omega
 rw[show k=b.length by omega,I];omega
theorem Zoq {α:Type} {p:α->Bool} {d:α} {l:List α} {k:Nat} (h:k<l.length):(l.take (k+1)).any p=((l.take k).any p||p (l.getD k d)):=by
 rw[List.take_add_one,fZ,aD h,aA,aD h];simp
theorem Ztz (a b c d:Int):decide (a=b/\c=d)=(bif a==b then c==d else false):=by
 by_cases h:a=b
 ·subst h;simp;rfl
 simp[h]
theorem cL3 (l:List Nat) {f:FuncId} {xs I:List AV} {h J:List Zh} {G Q:AV->List Zh->Prop} (H:SC (λ_=>aB) f I J Q) (S:∀ r A,Q r A->G (ren (Jh l h.length) 5 r) (back l h A)) (Z:l.Nodup:=by decide) (U:∀ i∈l,i<h.length:=by simp) (Y:xs.map (QD false l h 5)=I:=by first|rfl|(simp only[Ze,Zd,Zf,Zc,Zk,Zt,Za O];rfl)) (V:sel false l h=J:=by first|rfl|(simp only[Ze,Zd,Zf,Zc,Zk,Zt,Za O];rfl)):SC (λ_=>aB) f xs h G:=ZU l H Z U Y V S
theorem ZyL (s runs waits delays:Int) (hr:1<=runs/\runs<=4) (hw:0<=waits/\waits<=4) (hd:0<=delays/\delays<=6):SC (λ_=>aB) 19 [.ptr 0 0,.int .i64 λ_=>runs,.int .i64 λ_=>waits,.int .i64 λ_=>delays] [X1 s] λv h=>
  ∃(t:Zb) (s':Int),(Zrs t/\(t.runs.length:Int)<=runs/\(t.waits.length:Int)<=waits/\(t.delays.length:Int)<=delays)/\v=Zf t/\h=[X1 s']:=by
 obtain⟨G,O⟩:=Zm;obtain⟨N,hN⟩:∃N:Nat,(N:Int)=4*waits:=⟨(4*waits).toNat,by omega⟩;refine SC.less (Zvr false false [] [1] false 1 Tryz.func19 (body:=Zj Tryz.f19) rfl (by decide+kernel) rfl ?_);refine wS ?_;refine hpX (T:=tbH false false [] [] false 1) (hTH false false [] [] false 1) 33 ?_;refine vS ?_;refine cL3 [0] (c22 s (-1) 1 (by omega) (by omega)) λr I H=>?_;(try simp only[Ze,Zd,Zf,Zc,Zk,Zt,Za O]at H);obtain⟨x,s1,hx,rfl,rfl⟩:=H;refine wS ?_;refine Zcn [0,1,2,3,8,9] 4 rfl rfl (s₂:=mkS 312 [(0,.ptr 0 0),(1,.int .i64 λ_=>runs),(2,.int .i64 λ_=>waits),(3,.int .i64 λ_=>delays),(8,.ptr 1 0),(9,.ptr 3 0)]) (h₂:=[X1 s1,.cells [.isl 0 (λ_=>0) (λ_=>[]) .nil,.isl 0 (λ_=>0) (λ_=>[]) .nil,.isl 0 (λ_=>0) (λ_=>[]) .nil,.int .i64 λ_=>0,.int .i64 λ_=>0,.isl 0 (λ_=>0) (λ_=>[]) .nil,.isl 0 (λ_=>0) (λ_=>[]) .nil,.isl 0 (λ_=>0) (λ_=>[]) .nil],.gar 2 (λ_=>1) (λe=>encZone (G Zone default [⟨30*x,[]⟩] (e ()))),.cells [.gsl 2 λ_=>1,.isl 0 (λ_=>0) (λ_=>[]) .nil,.isl 0 (λ_=>0) (λ_=>[]) .nil,.int .i64 λ_=>1,.int .i64 λ_=>0,.isl 0 (λ_=>0) (λ_=>[]) .nil,.isl 0 (λ_=>0) (λ_=>[]) .nil,.isl 0 (λ_=>0) (λ_=>[]) .nil]]) ?_ ?_
 ·refine Ji ?_;refine ZK.garE rfl λi hi=>?_;match i,hi with
  |0,_=>(show Ya [_,_] (encZone (G Zone default [⟨30*x,[]⟩] 0)));rw[O];exact Ya.two λw ok v h=>h.nilw' rfl
 refine Zfu false false [4] [19,21] false ?_;refine wS ?_;refine cL3 [0] (c37 s1 1 5 (by omega)) λr I H=>?_;(try simp only[Ze,Zd,Zf,Zc,Zk,Zt,Za O]at H);obtain⟨bb,s2,rfl,rfl⟩:=H;refine wS ?_;refine Zq7 false false [] 50 [0,1,2,3,8,9] (λ_=>[]) (λ(⟨s,z⟩:Int×Zone)=>[(0,X1 s),(2,.gar 2 (λ_=>1) (λe=>encZone (G Zone default [z] (e ())))),(3,.cells [.gsl 2 λ_=>1,.isl 0 (λ_=>0) (λ_=>[]) .nil,.isl 0 (λ_=>0) (λ_=>[]) .nil,.int .i64 λ_=>1,.int .i64 λ_=>0,.isl 0 (λ_=>0) (λ_=>[]) .nil,.isl 0 (λ_=>0) (λ_=>[]) .nil,.isl 0 (λ_=>0) (λ_=>[]) .nil])]) (λ⟨s,z⟩=>Zrp 1 z) (λ_ _ h=>h) (by decide) ?_ ?_
 ·refine wS ?_;refine⟨λhb=>?_,λhb=>?_⟩
  ·refine wS ?_;refine cL3 [0] (c29 s2 1 (by omega)) λr I H=>?_;(try simp only[Ze,Zd,Zf,Zc,Zk,Zt,Za O]at H);obtain⟨z,s3,hz,rfl,rfl⟩:=H;refine wS ?_;refine⟨(s3,z),hz,?_⟩;refine Ji ?_;refine ZK.garE rfl λi hi=>?_;match i,hi with
   |0,_=>(simp only[O]);exact Ya.two λw ok v h=>h.wk rfl (λj hj=>rfl) (.inl rfl)
  refine wS ?_;refine⟨(s2,⟨30*x,[]⟩),⟨by dsimp only;omega,.inr rfl,.nil,by simp,by simp⟩,?_⟩;exact ZB
 rintro⟨s,z⟩ hz;refine wS ?_;refine cL3 [0] (c22 s 1 runs (by omega) (by omega)) λr I H=>?_;(try simp only[Ze,Zd,Zf,Zc,Zk,Zt,Za O]at H);obtain⟨n,s4,hn,rfl,rfl⟩:=H;refine wS ?_;obtain⟨n,rfl⟩:∃k:Nat,n=k:=⟨n.toNat,by omega⟩;refine ZG false false [] [0,2,3,8,9,10] [.tok 3 λ_=>0] (λ(⟨i,s,old⟩:Nat×Int×List Train)=>[(10,.int .i64 λ_=>i)])
  (λ⟨i,s,old⟩=>[(0,X1 s),(3,.cells [.gsl 2 λ_=>1,.isl 3 (λ_=>(old.length:Int)) (λe=>encTrain (G Train default old (e ()))) (.own 4),.isl 0 (λ_=>0) (λ_=>[]) .nil,.int .i64 λ_=>1,.int .i64 λ_=>0,.isl 0 (λ_=>0) (λ_=>[]) .nil,.isl 0 (λ_=>0) (λ_=>[]) .nil,.isl 0 (λ_=>0) (λ_=>[]) .nil]),(4,.tok 3 λ_=>(old.length:Int))])
  (λ⟨i,s,old⟩=>i<=n/\old.length+i=n/\DL n old) (λi=>i.1+0) (n,s4,[]) ⟨aI _,by simp,⟨λk hk=>by simp at hk⟩⟩ ?_ ?_
 ·(refine To.of [(3,false)] ?_;cbv;(try simp only[nc]);(repeat' first|exact xT|refine⟨?_,?_⟩|refine ZK.cells ?_|refine Zz.agg ?_|refine Zz.tup ?_);all_goals try exact XU)
 rintro⟨i,s,old⟩ ⟨hi,ci,hdl⟩;refine wS ?_;refine⟨λhb=>?_,λhb=>?_⟩
 ·simp only[iU]at hb;refine wS ?_;refine cL3 [0] (c22 s 3 5 (by omega) (by omega)) λr I H=>?_;(try simp only[Ze,Zd,Zf,Zc,Zk,Zt,Za O]at H);obtain⟨st,s5,ae,rfl,rfl⟩:=H;refine wS ?_;obtain⟨st,rfl⟩:∃k:Nat,st=k:=⟨st.toNat,by omega⟩;refine cL3 [0] (ZyA s5 i st (by omega)) λr I H=>?_;(try simp only[Ze,Zd,Zf,Zc,Zk,Zt,Za O]at H);obtain⟨t,s6,ht,rfl,rfl⟩:=H;refine wS ?_;obtain⟨j,rfl⟩:∃j,i=j+1:=⟨i-1,by omega⟩;refine⟨(j,s6,old++[t]),⟨by omega,by simp only[bA,bF,cF];omega,hdl.snoc (st:=st) (by omega) (by rw[show(n:Int)-old.length=((j+1:Nat):Int) by omega];exact ht)⟩,by show j+0<j+1+0;omega,?_⟩;(refine To.of [] ?_;cbv;(try simp only[nc]);(repeat' first|exact xT|refine⟨?_,?_⟩|refine ZK.cells ?_|refine Zz.agg ?_|refine Zz.tup ?_);all_goals try exact XU);all_goals trace_state
 simp only[iV]at hb;have ci:old.length=n:=by omega
 have bm:(n:Int)=old.length:=by omega
 have ar:old.length<=4:=by omega
 have dy:(old.length:Int)<=runs:=by omega
 have bh:=ZoE hz (by decide);have c6:=Zjn bh hdl (by omega) (by omega);have hf:Xk (Zt z old):=by
  have hc:=ZcV c6;exact⟨by have:=hc.zlen;omega,by have:=hc.olen;omega,by have:=hc.nlen;omega,λz hz=>by have:=(Zcz (hc.zones z hz)).2.2.1;omega,⟨λt ht=>by have:=(hc.old t ht).len;omega,λt ht=>by have:=(hc.new t ht).len;omega⟩⟩
 apply ZsL (p:=∃j,j<old.length/\(Xb (Zt z old) (QM (Zt z old) j)).2=true) (λ(⟨s,z,old,rs,A⟩:Int×Zone×List Train×List Sp.Z6×List (List Sp.Call))=>mkS 312 [(0,.ptr 0 0),(2,.int .i64 λ_=>waits),(3,.int .i64 λ_=>delays),(8,.ptr 1 0),(9,.ptr 3 0),(11,.isl 1 (λ_=>(A.length:Int)) (λe=>[.isl 3 (λ_=>((G (List Sp.Call) [] A (e ())).length:Int)) (λe2=>XY (G Sp.Call default (G (List Sp.Call) [] A (e ())) (e2 ()))) .none]) .none)])
  (λ⟨s,z,old,rs,A⟩=>[X1 s,.cells [.isl 0 (λ_=>0) (λ_=>[]) .nil,.isl 0 (λ_=>0) (λ_=>[]) .nil,.isl 0 (λ_=>0) (λ_=>[]) .nil,.int .i64 λ_=>0,.int .i64 λ_=>0,.isl 0 (λ_=>0) (λ_=>[]) .nil,.isl 0 (λ_=>0) (λ_=>[]) .nil,.isl 0 (λ_=>0) (λ_=>[]) .nil],.dead,.cells [.isl 2 (λ_=>1) (λe=>encZone (G Zone default [z] (e ()))) .none,.isl 3 (λ_=>(old.length:Int)) (λe=>encTrain (G Train default old (e ()))) .none,.isl 0 (λ_=>0) (λ_=>[]) .nil,.int .i64 λ_=>1,.int .i64 λ_=>0,.isl 2 (λ_=>(rs.length:Int)) (λe=>Zk (G Sp.Z6 default rs (e ()))) .none,.isl 0 (λ_=>0) (λ_=>[]) .nil,.isl 0 (λ_=>0) (λ_=>[]) .nil]])
  (λ⟨s,z,old,rs,A⟩=>RJ (Zt z old) rs A/\(rs.length:Int)<=runs/\Zy z=0/\∃n,DL n old)
 ·intro cq M;refine wS ?_;refine ZG false false [] [0,2,3,8,9,11,12] [.tok 1 λ_=>0,.tok 2 λ_=>0] (λ(⟨i,runs,A⟩:Nat×List Sp.Z6×List (List Sp.Call))=>[(11,.isl 1 (λ_=>(A.length:Int)) (λe=>Zc (G (List Sp.Call) [] A (e ()))) (.own 5)),(12,.int .i64 λ_=>i)])
   (λ⟨i,runs,A⟩=>[(2,.dead),(3,.cells [.isl 2 (λ_=>1) (λe=>encZone (G Zone default [z] (e ()))) .none,.isl 3 (λ_=>(old.length:Int)) (λe=>encTrain (G Train default old (e ()))) .none,.isl 0 (λ_=>0) (λ_=>[]) .nil,.int .i64 λ_=>1,.int .i64 λ_=>0,.isl 2 (λ_=>(runs.length:Int)) (λe=>Zk (G Sp.Z6 default runs (e ()))) (.own 6),.isl 0 (λ_=>0) (λ_=>[]) .nil,.isl 0 (λ_=>0) (λ_=>[]) .nil]),(5,.tok 1 λ_=>(A.length:Int)),(6,.tok 2 λ_=>(runs.length:Int))])
   (λ⟨i,runs,A⟩=>i<=old.length/\RL (Zt z old) i runs A) (λi=>old.length-i.1+0) (0,[],[]) ⟨aT _,.nil⟩ ?_ ?_
  ·refine(To.froze (id:=2) rfl).trans ((To.rsvC (id:=3) rfl).trans ?_);(refine To.of [(1,false),(2,false)] ?_;cbv;(try simp only[nc]);(repeat' first|exact xT|refine⟨?_,?_⟩|refine ZK.cells ?_|refine Zz.agg ?_|refine Zz.tup ?_);all_goals try exact XU)
   ·exact .deadF
   exact .none rfl λ_ _=>rfl
  rintro⟨i,runs,A⟩ ⟨hi,Z⟩;refine wS ?_;refine⟨λhb=>?_,λhb=>?_⟩
  ·simp only[iU]at hb;have ab:QM (Zt z old) i=⟨(G Train default old i).number,0⟩:=by unfold QM Zt;rw[O];rfl
   have hE:Xb (Zt z old) (QM (Zt z old) i)=Xb ⟨[z],old,[],1,0⟩ ⟨(G Train default old i).number,0⟩:=by rw[ab];rfl
   have k:=ZvB ⟨[z],old,[],1,0⟩ ⟨(G Train default old i).number,0⟩ hf;generalize Xb ⟨[z],old,[],1,0⟩ ⟨(G Train default old i).number,0⟩=E at hE k;refine wS ?_;refine ZbQ (k) (by(try simp only[Ze,Zd,Zf,Zc,Zk,Zt,Za O]);exact ZB) (by first|rfl|(simp only[Ze,Zd,Zf,Zc,Zk,Zt,Za O];rfl)) λr I H=>?_;(try simp only[Ze,Zd,Zf,Zc,Zk,Zt,Za O]at H);obtain⟨rfl,rfl⟩:=H;refine wS ?_;refine⟨λh9=>?_,λh9=>?_⟩
   ·have bt:=Z.len;have cf:=Z.le;refine wS ?_
    refine⟨(i+1,runs++[⟨(G Train default old i).number,0⟩],A++[E.1]),⟨by omega,by
     have:=Z.snoc hdl (by show i<old.length;omega) (C:=E.1) (by rw[hE,<-h9]);rw[ab]at this
     exact this⟩,by show old.length-(i+1)+0<old.length-i+0;omega,?_⟩
    refine Ji ?_;exact .snoc O rfl (by simp) (by unfold Zc;rw[Za O];rfl)
   refine wS ?_;refine⟨(i+1,runs,A),⟨by omega,Z.skip (by rw[hE,<-h9])⟩,by show old.length-(i+1)+0<old.length-i+0;omega,?_⟩;exact ZB
  simp only[iV]at hb;have ck:0<runs.length:=by
   obtain⟨j,d7,aw⟩:=cq;exact Z.some j (by omega) aw
  refine wS ?_;refine Br.isF (by simp only[beq_eq_false_iff_ne];omega) ?_;refine wS ?_;have cy:i=old.length:=by omega
  subst cy;have cf:=Z.le;refine Zcn [0,2,3,8,9,11] 4 rfl rfl ?_ (M (s,z,old,runs,A) ⟨Z.ok bh hdl bm ar ar ck,by show(runs.length:Int)<=_;omega,bh,_,hdl⟩);refine Ji ?_;exact .none rfl λi hi=>by simp only[Zc,Za O]
 ·intro c9 M;refine wS ?_;refine ZG false false [] [0,2,3,8,9,11,12] [] (λ(i:Nat)=>[(12,.int .i64 λ_=>i)]) (λ_=>[]) (λi=>i<=old.length) (λi=>old.length-i+0) 0 (aT _) ?_ ?_
  ·exact ZB
  intro i hi;have hi:i<=old.length:=hi;refine wS ?_;refine⟨λhb=>?_,λhb=>?_⟩
  ·simp only[iU]at hb;have ab:QM (Zt z old) i=⟨(G Train default old i).number,0⟩:=by unfold QM Zt;rw[O];rfl
   have hE:(Xb (Zt z old) ⟨(G Train default old i).number,0⟩).2=false:=by
    rw[<-ab,<-fX];exact λh=>c9 ⟨i,by omega,h⟩
   refine wS ?_;refine SC.lend0 (Zxq O z old _ hf hE) rfl λr I H=>?_;obtain⟨rfl,rfl⟩:=H;refine⟨rfl,rfl,?_⟩;refine wS ?_;refine Br.isF rfl ?_;refine wS ?_;refine⟨i+1,by show i+1<=_;omega,by show old.length-(i+1)+0<old.length-i+0;omega,?_⟩;exact ZB
  simp only[iV]at hb;refine wS ?_;refine Br.isT rfl ?_;refine wS ?_;have cg:=Zjn (z:=⟨0,[]⟩) rfl hdl bm ar;have dj:Xk (Zt ⟨0,[]⟩ old):=⟨by simp[Zt],hf.old,hf.new,λz hz=>by simp[Zt]at hz;subst hz;simp,hf.stops⟩;have ah:=RL.one cg hdl (by omega);have ab:QM (Zt ⟨0,[]⟩ old) 0=⟨(G Train default old 0).number,0⟩:=by unfold QM Zt;rw[O];rfl
  have Z:=RL.snoc (C:=(Xb (Zt ⟨0,[]⟩ old) (QM (Zt ⟨0,[]⟩ old) 0)).1) hdl RL.nil (by show 0<old.length;omega) ah;have V:=Z.ok (z:=⟨0,[]⟩) rfl hdl bm ar (by omega) (by simp);have k:=ZvB (Zt ⟨0,[]⟩ old) (QM (Zt ⟨0,[]⟩ old) 0) dj;rw[ab]at k V ah;rw[show(Xb (Zt ⟨0,[]⟩ old) ⟨(G Train default old 0).number,0⟩).2=true by rw[ah]]at k;generalize (Xb (Zt ⟨0,[]⟩ old) ⟨(G Train default old 0).number,0⟩).1=C at V k;refine Zcn [0,2,3,8,9] 4 rfl rfl (s₂:=mkS 312 [(0,.ptr 0 0),(2,.int .i64 λ_=>waits),(3,.int .i64 λ_=>delays),(8,.ptr 1 0),(9,.ptr 3 0)]) (h₂:=[X1 s,.cells [.isl 0 (λ_=>0) (λ_=>[]) .nil,.isl 0 (λ_=>0) (λ_=>[]) .nil,.isl 0 (λ_=>0) (λ_=>[]) .nil,.int .i64 λ_=>0,.int .i64 λ_=>0,.isl 0 (λ_=>0) (λ_=>[]) .nil,.isl 0 (λ_=>0) (λ_=>[]) .nil,.isl 0 (λ_=>0) (λ_=>[]) .nil],.dead,.cells [.isl 2 (λ_=>1) (λe=>encZone (G Zone default [⟨0,[]⟩] (e ()))) .none,.isl 3 (λ_=>(old.length:Int)) (λe=>encTrain (G Train default old (e ()))) .none,.isl 0 (λ_=>0) (λ_=>[]) .nil,.int .i64 λ_=>1,.int .i64 λ_=>0,.isl 2 (λ_=>1) (λe=>Zk (G Sp.Z6 default [⟨(G Train default old 0).number,0⟩] (e ()))) .none,.isl 0 (λ_=>0) (λ_=>[]) .nil,.isl 0 (λ_=>0) (λ_=>[]) .nil]]) ((To.froze (id:=2) rfl).trans ((To.rsvC (id:=3) rfl).trans ?_)) ?_
  ·(refine To.of [] ?_;cbv;(try simp only[nc]);(repeat' first|exact xT|refine⟨?_,?_⟩|refine ZK.cells ?_|refine Zz.agg ?_|refine Zz.tup ?_);all_goals try exact XU)
   ·exact .deadF
   ·refine .gd rfl (.elems rfl λi hi=>?_);match i,hi with
    |0,_=>(simp only[O]);exact Ya.two λw ok v h=>h.wk rfl (λj hj=>by have hj:(j:Int)<0:=hj;omega) (.inl rfl)
   refine .none rfl λi hi=>?_;match i,hi with
   |0,_=>(simp only[O]);rfl
  refine Zfu false false [] [21] false ?_;simp only[Zd,Zk,Zt,Za O]at k;refine wS ?_;have e0:G Sp.Z6 default [⟨(G Train default old 0).number,0⟩] 0=⟨(G Train default old 0).number,0⟩:=by rw[O];rfl
  refine ZbQ k (by((refine To.of [] ?_;cbv;(try simp only[nc]);(repeat' first|exact xT|refine⟨?_,?_⟩|refine ZK.cells ?_|refine Zz.agg ?_|refine Zz.tup ?_);all_goals try exact XU);all_goals exact .int (by simp only[e0]))) rfl λr I H=>?_;obtain⟨rfl,rfl⟩:=H;refine wS ?_;refine Zcn [0,2,3,8,9,11] 4 rfl rfl ?_ (M (s,⟨0,[]⟩,old,[⟨(G Train default old 0).number,0⟩],[C]) ⟨V,by show((1:Nat):Int)<=_;omega,rfl,_,hdl⟩);refine Ji ?_;refine .none rfl λi hi=>?_;match i,hi with
  |0,_=>(simp only[O]);rfl
 intro s z old rs A hj;have V:=hj.1;have di:=hj.2.1;have au:(∃z' bc n,Zt z old=Zt z' bc/\Zy z'=0/\DL n bc)/\∀k,k<rs.length->∃j,j<old.length/\rs.getD k default=QM (Zt z old) j:=⟨⟨z,old,hj.2.2.2.choose,rfl,hj.2.2.1,hj.2.2.2.choose_spec⟩,V.from_⟩;have dt:=V.pos;have bt:=V.len;clear hj;have ak:∀f:Int,0<=f->f<A.length->Zlb (G (List Sp.Call) [] A f):=λf h1 h2=>by rw[O];exact V.row _ (ZsT (by omega))
 refine Zfu false false [] [] false ?_;refine wS ?_;refine Zi9 false false [] [0,2,3,8,9,11,18] [.tok 4 λ_=>0] (λ(⟨i,s,S⟩:Nat×Int×List Sp.QH)=>[(18,.int .i64 λ_=>i)])
  (λ⟨i,s,S⟩=>[(0,X1 s),(3,.cells [.isl 2 (λ_=>1) (λe=>encZone (G Zone default [z] (e ()))) .none,.isl 3 (λ_=>(old.length:Int)) (λe=>encTrain (G Train default old (e ()))) .none,.isl 0 (λ_=>0) (λ_=>[]) .nil,.int .i64 λ_=>1,.int .i64 λ_=>0,.isl 2 (λ_=>(rs.length:Int)) (λe=>Zk (G Sp.Z6 default rs (e ()))) .none,.isl 4 (λ_=>(S.length:Int)) (λe=>Qz (G Sp.QH default S (e ()))) (.own 4),.isl 0 (λ_=>0) (λ_=>[]) .nil]),(4,.tok 4 λ_=>(S.length:Int))])
  (λ⟨i,s,S⟩=>i<=N/\LOk (Qc A) S/\(S.length:Int)<=waits) (λi=>i.1+0) (N,s,[]) ⟨aI _,.nil,by simp;omega⟩ ?_ ?_
 ·(refine To.of [(4,false)] ?_;cbv;(try simp only[nc]);(repeat' first|exact xT|refine⟨?_,?_⟩|refine ZK.cells ?_|refine Zz.agg ?_|refine Zz.tup ?_);all_goals try exact XU)
  exact .int hN.symm
 intro i s S hq;have hi:i<=N:=hq.1;have bw:LOk (Qc A) S:=hq.2.1;have ca:(S.length:Int)<=waits:=hq.2.2;clear hq;refine wS ?_;refine⟨λhb=>?_,λhb=>?_⟩
 ·have dq:0<i/\(S.length:Int)<waits:=by
   by_cases h0:(0:Int)<i<;>simp[h0]at hb<;>omega
  refine wS ?_;refine cL3 [0] (c17 s ((A.length:Int)-1) (by omega)) λr I H=>?_;(try simp only[Ze,Zd,Zf,Zc,Zk,Zt,Za O]at H);obtain⟨U,s5,dp,rfl,rfl⟩:=H;refine wS ?_;refine cL3 [0] (c17 s5 ((A.length:Int)-1) (by omega)) λr I H=>?_;(try simp only[Ze,Zd,Zf,Zc,Zk,Zt,Za O]at H);obtain⟨tr,s6,cz,rfl,rfl⟩:=H;refine wS ?_;have dh:=ak U (by omega) (by omega);have cj:=ak tr (by omega) (by omega);have da:=dh.len;have ec:=cj.len;refine cL3 [0] (c17 s6 20 (by omega)) λr I H=>?_;(try simp only[Ze,Zd,Zf,Zc,Zk,Zt,Za O]at H);obtain⟨m1,s7,ed,rfl,rfl⟩:=H;refine wS ?_;refine cL3 [0] (c17 s7 60 (by omega)) λr I H=>?_;(try simp only[Ze,Zd,Zf,Zc,Zk,Zt,Za O]at H);obtain⟨m2,s8,d8,rfl,rfl⟩:=H;refine wS ?_;refine cL3 [0] (ZkU s8 [0,m1,m2] (by simp)) λr I H=>?_;(try simp only[Ze,Zd,Zf,Zc,Zk,Zt,Za O]at H);obtain⟨mi,s9,bl,rfl,rfl⟩:=H;have bl:0<=mi/\mi<=60:=by simp at bl;omega
  refine wS ?_;refine⟨?_,?_⟩;all_goals
   (try refine wS ?_)
   refine cL3 [0] (c22 s9 1 (((G (List Sp.Call) [] A U).length:Int)-1) (by omega) (by omega)) λr I H=>?_;(try simp only[Ze,Zd,Zf,Zc,Zk,Zt,Za O]at H);obtain⟨x,s10,hx,rfl,rfl⟩:=H;refine wS ?_;refine Zi9 false false [] [0,2,3,8,9,11,18,19,20,21] [] (λ(⟨j,S,u⟩:Nat×List Sp.QH×Unit)=>[(21,.int .i64 λ_=>j)])
    (λ⟨j,S,u⟩=>[(3,.cells [.isl 2 (λ_=>1) (λe=>encZone (G Zone default [z] (e ()))) .none,.isl 3 (λ_=>(old.length:Int)) (λe=>encTrain (G Train default old (e ()))) .none,.isl 0 (λ_=>0) (λ_=>[]) .nil,.int .i64 λ_=>1,.int .i64 λ_=>0,.isl 2 (λ_=>(rs.length:Int)) (λe=>Zk (G Sp.Z6 default rs (e ()))) .none,.isl 4 (λ_=>(S.length:Int)) (λe=>Qz (G Sp.QH default S (e ()))) (.own 4),.isl 0 (λ_=>0) (λ_=>[]) .nil]),(4,.tok 4 λ_=>(S.length:Int))])
    (λ⟨j,S,u⟩=>LOk (Qc A) S/\(S.length:Int)<=waits/\((S.length:Int)<waits\/(S.any λq=>decide (q.feeder=U/\q.train=tr/\q.station=(G Sp.Call default (G (List Sp.Call) [] A U) x).station))=true)) (λq=>(G (List Sp.Call) [] A tr).length-q.1+0) (0,S,()) ⟨bw,ca,.inl dq.2⟩ ?_ ?_
   ·exact ZB
   intro j Y u am;have ac:LOk (Qc A) Y:=am.1;have ai:(Y.length:Int)<=waits:=am.2.1;have aj:=am.2.2;clear am;refine wS ?_;refine⟨λbk=>?_,λbk=>?_⟩
   ·have aw:(j:Int)<((G (List Sp.Call) [] A tr).length:Int)-1/\U≠tr:=by
     by_cases h0:(j:Int)<((G (List Sp.Call) [] A tr).length:Int)-1<;>simp[h0]at bk<;>exact⟨h0,bk⟩
    refine wS ?_;generalize aa:(bif (G Sp.Call default (G (List Sp.Call) [] A tr) (j:Int)).station==(G Sp.Call default (G (List Sp.Call) [] A U) x).station then decide ((G Sp.Call default (G (List Sp.Call) [] A U) x).arrive<=(G Sp.Call default (G (List Sp.Call) [] A tr) (j:Int)).depart)else false)=c7;refine⟨λh7=>?_,λh7=>?_⟩
    ·subst h7;have h8:(G Sp.Call default (G (List Sp.Call) [] A tr) (j:Int)).station=(G Sp.Call default (G (List Sp.Call) [] A U) x).station/\(G Sp.Call default (G (List Sp.Call) [] A U) x).arrive<=(G Sp.Call default (G (List Sp.Call) [] A tr) (j:Int)).depart:=by
      by_cases h0:(G Sp.Call default (G (List Sp.Call) [] A tr) (j:Int)).station=(G Sp.Call default (G (List Sp.Call) [] A U) x).station
      ·simp only[h0,beq_self_eq_true,cond_true,iU]at aa;exact⟨h0,aa⟩
      have h1:((G Sp.Call default (G (List Sp.Call) [] A tr) (j:Int)).station==(G Sp.Call default (G (List Sp.Call) [] A U) x).station)=false:=by simpa using h0
      rw[h1]at aa;cases aa
     clear aa;have k:=Zyz Y ⟨U,tr,(G Sp.Call default (G (List Sp.Call) [] A U) x).station,mi⟩ (by omega);dsimp only at k;generalize hE:(Y.any λq=>decide (q.feeder=U/\q.train=tr/\q.station=(G Sp.Call default (G (List Sp.Call) [] A U) x).station))=E at k;simp only[Za O]at k;refine wS ?_;refine ZbQ k (by((refine To.of [] ?_;cbv;(try simp only[nc]);(repeat' first|exact xT|refine⟨?_,?_⟩|refine ZK.cells ?_|refine Zz.agg ?_|refine Zz.tup ?_);all_goals try exact XU);all_goals exact .none rfl λ_ _=>rfl)) rfl λr I H=>?_;obtain⟨rfl,rfl⟩:=H;refine wS ?_;refine⟨λh9=>?_,λh9=>?_⟩
     ·have h9:E=false:=by
       cases E
       ·rfl
       cases h9
      have d6:(Y.length:Int)<waits:=by
       rcases aj with h|h
       ·exact h
       rw[hE,h9]at h;cases h
      have dk:1<=x.toNat/\x.toNat<(Sp.Zl A U).length:=by have h1:=hx;have h2:=da;simp only[O]at h1 h2;unfold Sp.Zl;omega
      have ct:j+1<(Sp.Zl A tr).length:=by have:=aw.1;simp only[O]at this;unfold Sp.Zl;omega
      have cu:Qc A ⟨U,tr,(G Sp.Call default (G (List Sp.Call) [] A U) x).station,mi⟩ Y=0:=ZrJ (w:=⟨U,tr,(G Sp.Call default (G (List Sp.Call) [] A U) x).station,mi⟩) V.row (i:=x.toNat) (k:=j) ⟨dp.1,by dsimp only;omega⟩ ⟨cz.1,by dsimp only;omega⟩ aw.2 dk ct (by simp only[O];rfl) (by have:=h8.1;simp only[O,aV]at this|-;exact this) (by have:=h8.2;simp only[O,aV]at this|-;exact this) bl (by dsimp only;rw[hE,h9]);have cr:=ac.snoc cu;have dn:((Y++[(⟨U,tr,(G Sp.Call default (G (List Sp.Call) [] A U) x).station,mi⟩:Sp.QH)]).length:Int)<=waits:=by rw[bA,fx];omega
      have db:((Y++[(⟨U,tr,(G Sp.Call default (G (List Sp.Call) [] A U) x).station,mi⟩:Sp.QH)]).any λq=>decide (q.feeder=U/\q.train=tr/\q.station=(G Sp.Call default (G (List Sp.Call) [] A U) x).station))=true:=by rw[fZ];simp
      refine wS ?_;refine⟨(j+1,Y++[⟨U,tr,(G Sp.Call default (G (List Sp.Call) [] A U) x).station,mi⟩],()),⟨cr,dn,.inr db⟩,by show(G (List Sp.Call) [] A tr).length-(j+1)+0<(G (List Sp.Call) [] A tr).length-j+0;omega,?_⟩;exact ZB
     refine wS ?_;refine⟨(j+1,Y,()),⟨ac,ai,aj⟩,by show(G (List Sp.Call) [] A tr).length-(j+1)+0<(G (List Sp.Call) [] A tr).length-j+0;omega,?_⟩;exact ZB
    subst h7;clear aa;refine wS ?_;refine Br.isF rfl ?_;refine wS ?_;refine⟨(j+1,Y,()),⟨ac,ai,aj⟩,by show(G (List Sp.Call) [] A tr).length-(j+1)+0<(G (List Sp.Call) [] A tr).length-j+0;omega,?_⟩;exact ZB
   refine wS ?_;obtain⟨k,rfl⟩:∃k,i=k+1:=⟨i-1,by omega⟩;refine⟨(k,s10,Y),⟨by omega,ac,ai⟩,by show k+0<k+1+0;omega,?_⟩;exact ZB
 refine wS ?_;obtain⟨D,hD⟩:∃D:Nat,(D:Int)=delays:=⟨delays.toNat,by omega⟩;refine Zi9 false false [] [0,8,9,11,23] [.tok 3 λ_=>0] (λ(⟨i,s,J⟩:Nat×Int×List Sp.ZR)=>[(23,.int .i64 λ_=>i)])
  (λ⟨i,s,J⟩=>[(0,X1 s),(3,.cells [.isl 2 (λ_=>1) (λe=>encZone (G Zone default [z] (e ()))) .none,.isl 3 (λ_=>(old.length:Int)) (λe=>encTrain (G Train default old (e ()))) .none,.isl 0 (λ_=>0) (λ_=>[]) .nil,.int .i64 λ_=>1,.int .i64 λ_=>0,.isl 2 (λ_=>(rs.length:Int)) (λe=>Zk (G Sp.Z6 default rs (e ()))) .none,.isl 4 (λ_=>(S.length:Int)) (λe=>Qz (G Sp.QH default S (e ()))) (.own 4),.isl 3 (λ_=>(J.length:Int)) (λe=>Zp (G Sp.ZR default J (e ()))) (.own 5)]),(5,.tok 3 λ_=>(J.length:Int))])
  (λ⟨i,s,J⟩=>i<=D/\LOk (Ql A) J/\J.length+i<=D) (λi=>i.1+0) (D,s,[]) ⟨aI _,.nil,by simp⟩ ?_ ?_
 ·(refine To.of [(3,false)] ?_;cbv;(try simp only[nc]);(repeat' first|exact xT|refine⟨?_,?_⟩|refine ZK.cells ?_|refine Zz.agg ?_|refine Zz.tup ?_);all_goals try exact XU)
  exact .int hD.symm
 intro i s J hq;have dw:i<=D:=hq.1;have az:LOk (Ql A) J:=hq.2.1;have du:J.length+i<=D:=hq.2.2;clear hq;refine wS ?_;refine⟨λb9=>?_,λb9=>?_⟩
 ·simp only[iU]at b9;refine wS ?_;refine cL3 [0] (c17 s ((A.length:Int)-1) (by omega)) λr I H=>?_;(try simp only[Ze,Zd,Zf,Zc,Zk,Zt,Za O]at H);obtain⟨r,s5,dc,rfl,rfl⟩:=H;have dm:=ak r (by omega) (by omega);have Z:=dm.len;refine wS ?_;refine cL3 [0] (c17 s5 (((G (List Sp.Call) [] A r).length:Int)-2) (by omega)) λr I H=>?_;(try simp only[Ze,Zd,Zf,Zc,Zk,Zt,Za O]at H);obtain⟨lg,s6,bz,rfl,rfl⟩:=H;refine wS ?_;refine cL3 [0] (c17 s6 10 (by omega)) λr I H=>?_;(try simp only[Ze,Zd,Zf,Zc,Zk,Zt,Za O]at H);obtain⟨n0,s7,d9,rfl,rfl⟩:=H;refine wS ?_;refine cL3 [0] (ZkU s7 [0,0,n0] (by simp)) λr I H=>?_;(try simp only[Ze,Zd,Zf,Zc,Zk,Zt,Za O]at H);obtain⟨nn,s8,bq,rfl,rfl⟩:=H;have bq:0<=nn/\nn<=10:=by simp at bq;omega
  refine wS ?_;refine cL3 [0] (c22 s8 1 3 (by omega) (by omega)) λr I H=>?_;(try simp only[Ze,Zd,Zf,Zc,Zk,Zt,Za O]at H);obtain⟨kk,s9,dv,rfl,rfl⟩:=H;refine wS ?_;obtain⟨kk,rfl⟩:∃q:Nat,kk=q:=⟨kk.toNat,by omega⟩;refine Zvi false false [] [0,8,9,11,23,24,25,26] [.tok 1 λ_=>0] (λ(⟨k,n,s,b⟩:Nat×Int×Int×List Int)=>[(25,.int .i64 λ_=>n),(26,.int .i64 λ_=>k)])
   (λ⟨k,n,s,b⟩=>[(0,X1 s),(6,.cells [.int .i64 λ_=>r,.int .i64 λ_=>lg,.isl 1 (λ_=>(b.length:Int)) (λe=>QO (G Int 0 b (e ()))) (.own 7)]),(7,.tok 1 λ_=>(b.length:Int))])
   (λ⟨k,n,s,b⟩=>b.length+k=kk/\ByL b n) (λq=>q.1+0) (kk,nn,s9,[]) ⟨by simp,.nil bq⟩ ?_ ?_
  ·(refine To.of [(1,false)] ?_;cbv;(try simp only[nc]);(repeat' first|exact xT|refine⟨?_,?_⟩|refine ZK.cells ?_|refine Zz.agg ?_|refine Zz.tup ?_);all_goals try exact XU)
  intro k n s b a9;have au:b.length+k=kk:=a9.1;have ao:ByL b n:=a9.2;clear a9;refine wS ?_;refine⟨λbp=>?_,λbp=>?_⟩
  ·simp only[iU]at bp;have dz:=ao.bd;refine wS ?_;refine cL3 [0] (c22 s 1 60 (by omega) (by omega)) λr I H=>?_;(try simp only[Ze,Zd,Zf,Zc,Zk,Zt,Za O]at H);obtain⟨y,s10,hy,rfl,rfl⟩:=H;refine wS ?_;refine cL3 [0] (ZkU s10 [5,10,20,y] (by simp)) λr I H=>?_;(try simp only[Ze,Zd,Zf,Zc,Zk,Zt,Za O]at H);obtain⟨y2,c8,bg,rfl,rfl⟩:=H;have bg:1<=y2/\y2<=60:=by simp at bg;omega
   refine wS ?_;obtain⟨k,rfl⟩:∃q,k=q+1:=⟨k-1,by omega⟩;refine⟨(k,n+y2,c8,b++[n]),⟨by simp only[bA,bF,cF];omega,ao.snoc (by omega) bg⟩,by show k+0<k+1+0;omega,?_⟩;exact ZB
  simp only[iV]at bp;refine wS ?_;have au:b.length=kk:=by omega
  refine Zi9 false false [] [0,8,9,11,23,24,27,28] [] (λ(⟨k,M,u⟩:Nat×Bool×Unit)=>[(27,.bool λ_=>M),(28,.int .i64 λ_=>k)])
   (λ⟨k,M,u⟩=>[(6,.cells [.int .i64 λ_=>r,.int .i64 λ_=>lg,.isl 1 (λ_=>(b.length:Int)) (λe=>QO (G Int 0 b (e ()))) .none])])
   (λ⟨k,M,u⟩=>k<=J.length/\M=(J.take k).any λq=>decide (q.run=r/\q.leg=lg)) (λq=>J.length-q.1+0) (0,false,()) ⟨aT _,rfl⟩ ?_ ?_
  ·(refine To.of [] ?_;cbv;(try simp only[nc]);(repeat' first|exact xT|refine⟨?_,?_⟩|refine ZK.cells ?_|refine Zz.agg ?_|refine Zz.tup ?_);all_goals try exact XU)
   all_goals exact .none rfl λ_ _=>rfl
  intro k M u ba;have ea:k<=J.length:=ba.1;have hM:M=(J.take k).any λq=>decide (q.run=r/\q.leg=lg):=ba.2;clear ba;refine wS ?_;refine⟨λbo=>?_,λbo=>?_⟩
  ·simp only[iU]at bo;have ae:=Zoq (p:=λq:Sp.ZR=>decide (q.run=r/\q.leg=lg)) (d:=default) (l:=J) (k:=k) (by omega);have bx:decide ((J.getD k default).run=r/\(J.getD k default).leg=lg)=(bif (J.getD k default).run==r then(J.getD k default).leg==lg else false):=Ztz _ _ _ _;have cw:J.getD k default=G Sp.ZR default J (k:Int):=by rw[O];rfl
   rw[cw]at bx ae;rw[<-hM]at ae;cases M
   ·refine wS ?_;refine⟨(k+1,(bif (G Sp.ZR default J (k:Int)).run==r then(G Sp.ZR default J (k:Int)).leg==lg else false),()),⟨by omega,by rw[ae];exact bx.symm⟩,by show J.length-(k+1)+0<J.length-k+0;omega,?_⟩;exact ZB
   refine wS ?_;refine⟨(k+1,true,()),⟨by omega,by rw[ae];rfl⟩,by show J.length-(k+1)+0<J.length-k+0;omega,?_⟩;exact ZB
  simp only[iV]at bo;have hM:M=J.any λq=>decide (q.run=r/\q.leg=lg):=by rw[hM,List.take_of_length_le (by omega)]
  refine wS ?_;obtain⟨i,rfl⟩:∃q,i=q+1:=⟨i-1,by omega⟩;refine⟨λaq=>?_,λaq=>?_⟩
  ·have aq:M=false:=by
    cases M
    ·rfl
    cases aq
   rw[aq]at hM;have cn:Ql A ⟨r,lg,b⟩ J=0:=Zq3 (d:=⟨r,lg,b⟩) ⟨dc.1,by dsimp only;omega⟩ ⟨bz.1,by have h1:=bz.2;have h2:=Z;simp only[O]at h1 h2;unfold Sp.Zl;dsimp only;omega⟩ ⟨by dsimp only;omega,by dsimp only;omega⟩ ao.rng ao.asc hM.symm;have bu:=az.snoc cn;have ce:(J++[(⟨r,lg,b⟩:Sp.ZR)]).length+i<=D:=by rw[bA,fx];omega
   refine wS ?_;refine⟨(i,s,J++[⟨r,lg,b⟩]),⟨by omega,bu,ce⟩,by show i+0<i+1+0;omega,?_⟩;refine Ji ?_;exact .snoc O rfl (by simp) (by unfold Zp;rw[Za O];rfl)
  refine wS ?_;refine⟨(i,s,J),⟨by omega,az,by show J.length+i<=D;omega⟩,by show i+0<i+1+0;omega,?_⟩;exact ZB
 refine wS ?_;have dg:Zn ⟨Zt z old,rs,S,J⟩=0:=ZkX V.check (V.err S J) (by show S.length<=4;omega) (by rw[V.calls];exact bw) (by show J.length<=6;omega) (by rw[V.calls];exact az);refine⟨Zf ⟨Zt z old,rs,S,J⟩,[X1 s],?_,⟨Zt z old,rs,S,J⟩,s,⟨⟨dg,by rw[V.calls];exact V.row,au.1,au.2⟩,di,ca,by show(J.length:Int)<=delays;omega⟩,rfl,rfl⟩;unfold Zf Zt;simp only[Za O];(refine To.of [] ?_;cbv;(try simp only[nc]);(repeat' first|exact xT|refine⟨?_,?_⟩|refine ZK.cells ?_|refine Zz.agg ?_|refine Zz.tup ?_);all_goals try exact XU);all_goals exact .none rfl λ_ _=>rfl
end Vm
namespace Vm
open Go Go.Proofs Sp
set_option maxRecDepth 100000
set_option maxHeartbeats 1600000
set_option maxHeartbeats 8000000
theorem Zr1 {t:Zb} (h:Zn t=0):Qe t:=by
 have hw:=Yx h;obtain⟨I,V,h3,Y,Z,S⟩:=Zcx h;have A:=ZcV I;have hr:=hw.calls.len;have U:(callsOf t).length=t.runs.length:=by unfold callsOf;rw[aX]
 exact⟨⟨by have:=A.zlen;omega,by have:=A.olen;omega,by have:=A.nlen;omega,λz J=>by have:=(Zcz (A.zones z J)).2.2.1;omega,⟨λt G=>by have:=(A.old t G).len;omega,λt G=>by have:=(A.new t G).len;omega⟩⟩,by omega,by omega,by omega,λd H=>by have:=(hw.d d H).2.1;omega⟩
attribute [local irreducible] Dn
def Zq0 (A:(α:Type)->α->List α->Int->α) (x:Zb):List AV:=[.isl 2 (λ_=>(x.book.zones.length:Int)) (λe=>encZone (A Zone default x.book.zones (e ()))) .none,.isl 3 (λ_=>(x.book.old.length:Int)) (λe=>encTrain (A Train default x.book.old (e ()))) .none,.isl 3 (λ_=>(x.book.new.length:Int)) (λe=>encTrain (A Train default x.book.new (e ()))) .none,.int .i64 λ_=>x.book.night,.int .i64 λ_=>x.book.last,
 .isl 2 (λ_=>(x.runs.length:Int)) (λe=>Zk (A Sp.Z6 default x.runs (e ()))) .none,.isl 4 (λ_=>(x.waits.length:Int)) (λe=>Qz (A Sp.QH default x.waits (e ()))) .none,.isl 3 (λ_=>(x.delays.length:Int)) (λe=>Zp (A Sp.ZR default x.delays (e ()))) .none]
end Vm
namespace Sp
open Vm
def Zaq (p:Nat->Bool):Nat->Nat->Bool
 |_,0=>false
 |i,n+1=>p i||Zaq p (i+1) n
theorem Zhm {p:Nat->Bool} {i n:Nat} (h:0<n):Zaq p i n=(p i||Zaq p (i+1) (n-1)):=by
 cases n with
 |zero=>omega
 |succ n=>rfl
theorem Y3 {p:Nat->Bool}:∀ {n i:Nat},Zaq p i n=true↔∃k,i<=k/\k<i+n/\p k=true
 |0,i=>⟨(λh=>by cases h),λ⟨k,h1,h2,_⟩=>by omega⟩
 |n+1,i=>by
  unfold Zaq;rw[cJ,Y3];constructor
  ·rintro(h|⟨k,h1,h2,h3⟩)
   ·exact⟨i,aI _,by omega,h⟩
   exact⟨k,by omega,by omega,h3⟩
  rintro⟨k,h1,h2,h3⟩;by_cases h:k=i
  ·subst h;exact .inl h3
  exact .inr ⟨k,by omega,by omega,h3⟩
theorem Zhl (p:Nat->Bool) (n:Nat):Zaq p 0 (n+1)=(Zaq p 0 n||p n):=by
 rw[ej,cJ,Y3,Y3];constructor
 ·rintro⟨k,h1,h2,h3⟩;by_cases h:k=n
  ·subst h;exact .inr h3
  exact .inl ⟨k,h1,by omega,h3⟩
 rintro(⟨k,h1,h2,h3⟩|h)
 ·exact⟨k,h1,by omega,h3⟩
 exact⟨n,aT _,by omega,h⟩
def Zex (a b:List Int) (d:Int) (i:Nat):Bool:=bif decide ((i:Int)≠d)then decide (a.getD i 0≠b.getD i 0)else false
def ZcA (a b:List Int) (d:Int):Bool:= !Zaq (Zex a b d) 0 a.length
def ZhY (x y:WorldL) (r:Int) (i:Nat):Bool:=bif decide (((x.come.getD r.toNat []).getD i 0)≠((y.come.getD r.toNat []).getD i 0))then true else decide (((x.go.getD r.toNat []).getD i 0)≠((y.go.getD r.toNat []).getD i 0))
def ZdC (x y:WorldL) (r:Int):Bool:=Zaq (ZhY x y r) 0 (x.come.getD r.toNat []).length
def JE (t:Zb) (d:Int) (r:Nat) (i k:Nat):Bool:=bif ZcA (Qn t (Zi t i)) (Qn t (Zi t k)) d then ZdC (Jj t (Zi t i)) (Jj t (Zi t k)) r else false
def Zab (P:Nat->Nat->Bool) (i:Nat) (k:Nat):Bool:=Zaq (P i) 0 k
def JI (P:Nat->Nat->Bool) (n:Nat):Bool:=Zaq (λi=>Zab P i i) 0 n
theorem Ztx {l:List Int} (h:∀i,i+1<l.length->l.getD i 0<l.getD (i+1) 0):∀i j,i<j->j<l.length->l.getD i 0<l.getD j 0:=λi j I=>by
 induction j with
 |zero=>omega
 |succ j G=>
  intro A;have H:=h j A;by_cases e:i=j
  ·subst e;exact H
  have:=G (by omega) (by omega);omega
theorem ZfO {t:Zb} {x:List Int} {j:Nat} (A:j<t.delays.length):(Qn t x).getD j 0=(t.delays.getD j default).by_.getD (x.getD j 0).toNat 0:=by
 unfold Qn;rw[aA,aQ,cQ A];rfl
theorem Ze3 {t:Zb} {x y:List Int} {d:Int}:ZcA (Qn t x) (Qn t y) d=true↔∀j:Nat,j<t.delays.length->(j:Int)≠d->(Qn t x).getD j 0=(Qn t y).getD j 0:=by
 unfold ZcA;rw[Bool.not_eq_true',<-fX,Y3,Zf5];constructor
 ·intro h j H G;refine Decidable.byContradiction λI=>h ⟨j,aT _,by omega,?_⟩;unfold Zex;rw[iZ G];exact iZ I
 rintro h ⟨j,_,H,A⟩;unfold Zex at A;by_cases G:(j:Int)=d
 ·rw[iY (by omega)]at A;cases A
 rw[iZ G]at A;exact(iW A) (h j (by omega) G)
theorem Ze2 {t:Zb} {x y:List Int} {r:Nat} (hr:r<(callsOf t).length):ZdC (Jj t x) (Jj t y) r=true↔∃a,a<YF t r/\((ZE t x r a).comes≠(ZE t y r a).comes\/(ZE t x r a).goes≠(ZE t y r a).goes):=by
 unfold ZdC;rw[Y3,aV];have H:((Jj t x).come.getD r []).length=YF t r:=by
  show((Yv t _).getD r []).length=_;rw[Zbf t _ hr,aX,cH]
 rw[H];have G:∀a,a<YF t r->(ZhY (Jj t x) (Jj t y) r a=true↔((ZE t x r a).comes≠(ZE t y r a).comes\/(ZE t x r a).goes≠(ZE t y r a).goes)):=λa A=>by
  unfold ZhY;rw[aV];show(bif decide (((Yv t _).getD r []).getD a 0≠((Yv t _).getD r []).getD a 0)then true else decide (((Yv t _).getD r []).getD a 0≠((Yv t _).getD r []).getD a 0))=true↔_;rw[ZcR t _ hr A,ZcR t _ hr A,ZcR t _ hr A,ZcR t _ hr A];by_cases h:(ZE t x r a).comes=(ZE t y r a).comes
  ·rw[iY (λg=>g h)];simp[h]
  rw[iZ h];simp[h]
 constructor
 ·rintro⟨a,_,h1,h2⟩;exact⟨a,by omega,(G a (by omega)).1 h2⟩
 rintro⟨a,h1,h2⟩;exact⟨a,aT _,by omega,(G a h1).2 h2⟩
theorem ZtA {P:Nat->Nat->Bool} {n:Nat}:JI P n=true↔∃i k,k<i/\i<n/\P i k=true:=by
 unfold JI Zab;rw[Y3];constructor
 ·rintro⟨i,_,h1,h2⟩;obtain⟨k,_,A,G⟩:=Y3.1 h2;exact⟨i,k,by omega,by omega,G⟩
 rintro⟨i,k,h1,h2,A⟩;exact⟨i,aT _,by omega,Y3.2 ⟨k,aT _,by omega,A⟩⟩
theorem ZoM {t:Zb} (I:Zn t=0) {x y:List Int} (J:YH t x) (H:YH t y) {j:Nat} (A:j<t.delays.length) (h:(Qn t x).getD j 0=(Qn t y).getD j 0):x.getD j 0=y.getD j 0:=by
 rw[ZfO A,ZfO A]at h;have U:=J.d j A;have S:=H.d j A;have G:=Ztx (Zq4 I A).asc;rcases Nat.lt_trichotomy (x.getD j 0).toNat (y.getD j 0).toNat with g|g|g
 ·have:=G _ _ g (by omega);omega
 ·omega
 have:=G _ _ g (by omega);omega
theorem set_get {x:List Int} {d k:Nat} (A:d<x.length):(x.set d 0).getD k 0=if k=d then 0 else x.getD k 0:=by
 by_cases h:k=d
 ·subst h;rw[iP rfl,aA,cV A];rfl
 rw[iN h,aA,cU (Ne.symm h),<-aA]
theorem Zkb {t:Zb} {d i r a:Nat} (G:a<YF t r) (h:(ZE t (Zi t i) r a).comes≠(ZE t ((Zi t i).set d 0) r a).comes\/(ZE t (Zi t i) r a).goes≠(ZE t ((Zi t i).set d 0) r a).goes) (I:d<6):Yo t d i r=true:=by
 have A:(Zi t i).length=6:=XG _ _;unfold Yo;rw[aU];refine⟨iZ λH=>?_,cZ.2 ⟨a,bV.2 G,?_⟩⟩
 ·have e:(Zi t i).set d 0=Zi t i:=Zs9 (by rw[bP];exact A) A λk _=>by
   rw[set_get (by omega)];split
   ·rename_i g;subst g;exact H.symm
   rfl
  rw[e]at h;rcases h with h|h<;>exact h rfl
 unfold Zg5;rw[cJ,iU,iU];exact h
theorem Zka {t:Zb} (he:Zn t=0) {d r:Nat} (hd:d<t.delays.length) (hr:r<(callsOf t).length):JI (JE t d r) (manyT t)=Xp t d (manyT t) r:=by
 have S:=Yx he;have h6:=S.dlen;have A:∀i,(Zi t i).length=6:=λi=>XG _ _;rw[ej,ZtA];constructor
 ·rintro⟨i,k,hki,U,hp⟩;unfold JE at hp;cases V:ZcA (Qn t (Zi t i)) (Qn t (Zi t k)) d with
  |false=>rw[V]at hp;cases hp
  |true=>
   rw[V]at hp;have V:=Ze3.1 V;obtain⟨a,H,G⟩:=(Ze2 hr).1 hp;have hz:(Zi t i).set d 0=(Zi t k).set d 0:=Zs9 (by rw[bP];exact A i) (by rw[bP];exact A k) λj hj=>by
    rw[set_get (by rw[A];omega),set_get (by rw[A];omega)];split
    ·rfl
    rename_i ah;by_cases hjl:j<t.delays.length
    ·exact ZoM he (Xn S i) (Xn S k) hjl (V j hjl (by omega))
    exact(Jb _ _ _ (by omega)).trans (Jb _ _ _ (by omega)).symm
   by_cases hi:(ZE t (Zi t i) r a).comes=(ZE t ((Zi t i).set d 0) r a).comes/\(ZE t (Zi t i) r a).goes=(ZE t ((Zi t i).set d 0) r a).goes
   ·refine Zdr (Zkb (i:=k) H ?_ (by omega)) _ (by omega);rw[<-hz,<-hi.1,<-hi.2];rcases G with h|h
    ·exact .inl (Ne.symm h)
    exact .inr (Ne.symm h)
   refine Zdr (Zkb (i:=i) H ?_ (by omega)) _ U;by_cases I:(ZE t (Zi t i) r a).comes=(ZE t ((Zi t i).set d 0) r a).comes
   ·exact .inr λY=>hi ⟨I,Y⟩
   exact .inl I
 intro h;obtain⟨i,U,hm⟩:=ZbB _ h;unfold Yo at hm;rw[aU,iU]at hm;obtain⟨a,H,G⟩:=cZ.1 hm.2;have H:a<YF t r:=bV.1 H;unfold Zg5 at G;rw[cJ,iU,iU]at G;have aa:=Xn S i
 obtain⟨j,ac,hj⟩:=Zf6 S (x:=(Zi t i).set d 0) ⟨by rw[bP];exact A i,λk Z=>by
  rw[set_get (by rw[A];omega)];have:=aa.d k Z;split
  ·omega
  ·exact this⟩ λk I Y=>by
  rw[set_get (by rw[A];omega)];split
  ·rfl
  exact Jb _ _ _ I
 have ab:j≠i:=λe=>by
  subst e;have:=set_get (x:=Zi t j) (d:=d) (k:=d) (by rw[A];omega);rw[iP rfl,<-hj]at this;exact hm.1 this
 have J:∀k:Nat,k<t.delays.length->(k:Int)≠(d:Int)->(Qn t (Zi t i)).getD k 0=(Qn t (Zi t j)).getD k 0:=λk Z ae=>by
  rw[ZfO Z,ZfO Z,hj,set_get (by rw[A];omega),iN (by omega)]
 rw[<-hj]at G;rcases Nat.lt_or_gt_of_ne ab with g|g
 ·refine⟨i,j,g,U,?_⟩;unfold JE;rw[Ze3.2 J];exact(Ze2 hr).2 ⟨a,H,G⟩
 refine⟨j,i,g,ac,?_⟩;unfold JE;rw[Ze3.2 λk I Y=>(J k I Y).symm];refine(Ze2 hr).2 ⟨a,H,?_⟩;rcases G with h|h
 ·exact .inl (Ne.symm h)
 exact .inr (Ne.symm h)
end Sp
namespace Vm
attribute [local irreducible] Dn
open Go Go.Proofs Sp
set_option maxRecDepth 100000
set_option maxHeartbeats 4000000
theorem Zjy (a b:Int):(a !=b)=decide (a≠b):=by
 by_cases h:a=b
 ·subst h;simp
 rw[iZ h];simpa using h
theorem Zyr (a b:List Int) (d:Int) (aa:a.length<=b.length) (hl:a.length<=1000000):SC (λ_=>aB) 109 [lst 1 QO 0 a,lst 1 QO 0 b,.int .i64 λ_=>d] [] λv h=>v= .bool (λ_=>ZcA a b d)/\h=[]:=by
 obtain⟨J,O⟩:=Zm;refine Qq Tryz.func109 (body:=Zj Tryz.f109) rfl (by decide+kernel) ?_;unfold ZcA;have Y:∀i:Nat,Zex a b d i=(bif ((i:Int) !=d)then(J Int 0 a (i:Int) !=J Int 0 b (i:Int))else false):=λi=>by
  unfold Zex;rw[Zjy,Zjy,O,O,aV]
 generalize Zex a b d=P at*;generalize V:Zaq P 0 a.length=E;simp only[Za O];refine wS ?_;refine XD λQ S=>?_;refine ZG false false [] [0,1,2,7] [] (λ(i:Nat)=>[(7,.int .i64 λ_=>(i:Int))]) (λ_=>[]) (λi=>i<=a.length/\Zaq P i (a.length-i)=E) (λi=>a.length-i+0) 0 ⟨aT _,V⟩ ?_ ?_
 ·exact ZB
 intro i U;have Z:=U.1;have A:=U.2;refine wS ?_;refine⟨λG=>?_,λG=>?_⟩
 ·have G:=iW G;have I:=Y i;rw[Zhm (by omega)]at A;refine wS ?_;refine⟨λH=>?_,λH=>?_⟩
  ·rw[I.trans H,cS]at A;subst A;refine wS ?_;refine S _ _ _ ?_;exact zW
  rw[I.trans H,bZ]at A;refine wS ?_;refine⟨i+1,⟨by omega,A⟩,by show a.length-(i+1)+0<a.length-i+0;omega,?_⟩;exact ZB
 have G:=iX G;rw[show a.length-i=0 by omega]at A;have A:false=E:=A;subst A;refine wS ?_;refine S _ _ _ ?_;exact zW
theorem Zyq (x y:WorldL) (r n:Nat) (U:r<x.come.length/\r<x.go.length) (S:r<y.come.length/\r<y.go.length) (H:(x.come.getD r []).length=n/\(x.go.getD r []).length=n/\(y.come.getD r []).length=n/\(y.go.getD r []).length=n) (hl:n<=1000000):
  SC (λ_=>aB) 110 [.agg (QR x),.agg (QR y),.int .i64 λ_=>(r:Int)] [] λv h=>v= .bool (λ_=>ZdC x y r)/\h=[]:=by
 obtain⟨G,O⟩:=Zm;refine Qq Tryz.func110 (body:=Zj Tryz.f110) rfl (by decide+kernel) ?_;unfold ZdC;have e:∀l:List (List Int),l.getD r []=G (List Int) [] l (r:Int):=λl=>by rw[O,aV]
 have hP:∀i:Nat,ZhY x y r i=(bif (G Int 0 (G (List Int) [] x.come (r:Int)) (i:Int) !=G Int 0 (G (List Int) [] y.come (r:Int)) (i:Int))then true else(G Int 0 (G (List Int) [] x.go (r:Int)) (i:Int) !=G Int 0 (G (List Int) [] y.go (r:Int)) (i:Int))):=λi=>by
  unfold ZhY;simp only[Zjy,O,aV]
 rw[aV,H.1];rw[e,e,e,e]at H;have ah:=H.1;have am:=H.2.1;have ak:=H.2.2.1;have aa:=H.2.2.2;have aj:=U.1;have ac:=U.2;have ae:=S.1;have ai:=S.2;clear e H U S;generalize ZhY x y r=P at*;generalize hE:Zaq P 0 n=E;simp only[ZaE O];refine wS ?_;refine XD λQ V=>?_;refine ZG false false [] [2,3,4,7] [] (λ(i:Nat)=>[(7,.int .i64 λ_=>(i:Int))]) (λ_=>[]) (λi=>i<=n/\Zaq P i (n-i)=E) (λi=>n-i+0) 0 ⟨aT _,hE⟩ ?_ ?_
 ·exact ZB
 intro i Z;have ab:=Z.1;have A:=Z.2;refine wS ?_;refine⟨λI=>?_,λI=>?_⟩
 ·have I:=iW I;have Y:=hP i;rw[Zhm (by omega)]at A;refine wS ?_;refine⟨λJ=>?_,λJ=>?_⟩
  ·rw[Y.trans J,cS]at A;subst A;refine wS ?_;refine V _ _ _ ?_;exact zW
  rw[Y.trans J,bZ]at A;refine wS ?_;refine⟨i+1,⟨by omega,A⟩,by show n-(i+1)+0<n-i+0;omega,?_⟩;exact ZB
 have I:=iX I;rw[show n-i=0 by omega]at A;have A:false=E:=A;subst A;refine wS ?_;refine V _ _ _ ?_;exact zW
end Vm
namespace Sp
open Vm
def Ju (p:Nat->Bool) (n:Nat):List Int:=((aP n).filter p).map λ(r:Nat)=>(r:Int)
theorem ZiU (p:Nat->Bool) (n:Nat):Ju p (n+1)=if p n then Ju p n++[(n:Int)]else Ju p n:=by
 unfold Ju;rw[List.range_succ,fL,List.map_append];by_cases h:p n=true
 ·rw[iP h];simp[h]
 rw[iN h];simp[h]
theorem Zkc (p:Nat->Bool) (n:Nat):(Ju p n).length<=n:=by
 unfold Ju;rw[aX];exact Nat.le_trans (List.length_filter_le _ _) (by rw[cH];exact aI _)
theorem Zkd {t:Zb} {d:Nat} (I:(callsOf t).length<=4):Zce t d=Ju (λr=>Xp t d (manyT t) r) (callsOf t).length:=by
 unfold Zce Ju;obtain⟨m,hm⟩:∃m,4=(callsOf t).length+m:=⟨4-(callsOf t).length,by omega⟩;have H:((aP m).map λx=>(callsOf t).length+x).filter (λr=>Xp t d (manyT t) r)=[]:=by
  rw[List.filter_eq_nil_iff];intro r hr h;obtain⟨j,_,rfl⟩:=bC.1 hr;obtain⟨i,_,G⟩:=ZbB _ h;unfold Yo at G;rw[aU]at G;obtain⟨a,A,_⟩:=cZ.1 G.2;have A:=bV.1 A;have e:Zl (callsOf t) (((callsOf t).length+j:Nat):Int)=[]:=by
   unfold Zl;rw[aV,aA,cE (by omega)];rfl
  rw[e]at A;cases A
 rw[hm,List.range_add,fL,H,List.append_nil]
end Sp
namespace Vm
attribute [local irreducible] Dn
open Go Go.Proofs Sp
set_option maxRecDepth 100000
set_option maxHeartbeats 8000000
theorem Zjw {f:FuncId} {xs I:List AV} {h:List Zh} {A Q:AV->List Zh->Prop} {B:Prop} (H:SC (λ_=>aB) f I [] Q) (k:B) (t:SC (λ_=>aB) f I [] Q->HdW B->SC (λ_=>aB) f xs h A:=by intro S hW;refine ZN S (by first|rfl|(simp only[Ze,Zd,Zf,Zc,Z4,QR,Za O];rfl)) λr J G=>?_;(try simp only[Ze,Zd,Zf,Zc,Z4,QR,Za O]at G);obtain⟨rfl,rfl⟩:=G;exact hW.out):SC (λ_=>aB) f xs h A:=t H ⟨k⟩
theorem ZyI (t:Zb) (d:Int) (hf:Qe t):SC (λ_=>aB) 42 [Zf t,.int .i64 λ_=>d] [] λv h=>v= .tup [lst 1 QO 0 (X8 t d).1,.int .i64 λ_=>(X8 t d).2]/\h=[]:=by
 obtain⟨A,O⟩:=Zm;refine SC.less (Zx3 false false [] Tryz.func42 (body:=Zj Tryz.f42) rfl (by decide+kernel) ?_);have k1:=ZvD t hf;have k2:=Zhc d 0 ((t.delays.length:Int)-1);have ca:=hf.delays;obtain⟨E,H⟩:∃E,E=X8 t d:=⟨_,rfl⟩;rw[<-H];unfold X8 at H;by_cases hbe:Zn t=0
 ·rw[iN (λh=>h hbe)]at H;rw[hbe]at k1;cases ho:Qw d 0 ((t.delays.length:Int)-1)with
  |true=>
   rw[ho,iP rfl]at H;rw[ho]at k2;subst H;unfold Zf at*;simp only[Za O]at*;refine wS ?_;refine Zjw (k1) ?_;refine wS ?_;refine Br.isF rfl ?_;refine wS ?_;refine Zjw (k2) ?_;refine wS ?_;refine Br.isT rfl ?_;refine wS ?_;refine⟨_,_,?_,rfl,rfl⟩;exact ZB
  |false=>
   rw[ho,iN aO]at H;rw[ho]at k2;have hb:=QE ho;obtain⟨D,rfl⟩:∃D:Nat,d=D:=⟨d.toNat,by omega⟩;rw[aV]at H;have hw:=Yx hbe;have h4:=hw.calls.len;have ba:(callsOf t).length=t.runs.length:=by unfold callsOf;rw[aX]
   have aq:∀d∈t.delays,d.by_.length<=3:=λd hd=>(hw.d d hd).2.1;have k3:=Zvx t.delays hw.dlen aq;rw[Zdk hw.dlen]at k3;have k4:=ZhN hf hbe;have bu:((aP (manyT t)).map λn=>Qn t (Zi t n)).length=manyT t:=by rw[aX,cH]
   have S:∀i:Nat,i<manyT t->A (List Int) [] ((aP (manyT t)).map λn=>Qn t (Zi t n)) (i:Int)=Qn t (Zi t i):=λi G=>by
    rw[O,aV,aA,aQ,cQ G];rfl
   have aw:∀i:Nat,i<manyT t->(A (List Int) [] ((aP (manyT t)).map λn=>Qn t (Zi t n)) (i:Int)).length=t.delays.length:=λi G=>by rw[S i G,Zf5]
   have bz:=ZgJ hw.dlen aq;have bw:=Zdj t;have Y:∀i:Nat,i<manyT t->A WorldL default (Qk t) (i:Int)=Jj t (Zi t i):=λi G=>by rw[O];exact ZcD t G
   have aa:∀(i r:Nat),i<manyT t->r<(callsOf t).length->((A WorldL default (Qk t) (i:Int)).come.length=(callsOf t).length/\(A WorldL default (Qk t) (i:Int)).go.length=(callsOf t).length)/\((A WorldL default (Qk t) (i:Int)).come.getD r []).length=YF t r/\((A WorldL default (Qk t) (i:Int)).go.getD r []).length=YF t r:=λi r G hr=>by
    rw[O,aV];have:=Zlk G hr;exact⟨⟨this.1,this.2.1⟩,this.2.2⟩
   have a9:∀r:Nat,r<(callsOf t).length->YF t r<=4:=λr hr=>(hw.calls.row (Sp.Zl (callsOf t) r) (by
    unfold Sp.Zl;rw[aA,aD (by omega)]
    exact bM _)).2
   have bg:∀r i k:Nat,i<manyT t->k<manyT t->JE t D r i k=(bif ZcA (A (List Int) [] ((aP (manyT t)).map λn=>Qn t (Zi t n)) (i:Int)) (A (List Int) [] ((aP (manyT t)).map λn=>Qn t (Zi t n)) (k:Int)) D then ZdC (A WorldL default (Qk t) (i:Int)) (A WorldL default (Qk t) (k:Int)) r else false):=λr i k G hk=>by
    rw[S i G,S k hk,Y i G,Y k hk];rfl
   have ai:∀r,r<t.runs.length->JI (JE t D r) (manyT t)=Xp t D (manyT t) r:=λr hr=>Zka hbe (by omega) (by omega);rw[Zkd (by omega),ba]at H;have bo:Ju (λr=>Xp t D (manyT t) r) 0=[]:=rfl;have aj:=ZiU (λr=>Xp t D (manyT t) r);have bl:=Zkc (λr=>Xp t D (manyT t) r);have am:∀r,JI (JE t D r) 0=false:=λr=>rfl;have ac:∀r i,JI (JE t D r) (i+1)=(JI (JE t D r) i||Zab (JE t D r) i i):=λr i=>Zhl _ i;have ao:∀r i,Zab (JE t D r) i 0=false:=λr i=>rfl;have ar:∀r i k,Zab (JE t D r) i (k+1)=(Zab (JE t D r) i k||JE t D r i k):=λr i k=>Zhl _ k;obtain⟨AP,ae⟩:∃AP:Nat->Nat->Bool,∀r i,AP r i=JI (JE t D r) i:=⟨_,λ_ _=>rfl⟩;obtain⟨RP,ah⟩:∃RP:Nat->Nat->Nat->Bool,∀r i k,RP r i k=Zab (JE t D r) i k:=⟨_,λ_ _ _=>rfl⟩;obtain⟨MT,az⟩:∃MT:Nat->Bool,∀r,MT r=Xp t D (manyT t) r:=⟨_,λ_=>rfl⟩;generalize (aP (manyT t)).map (λn=>Qn t (Zi t n))=L at*;generalize Qk t=W at*;generalize Ju (λr=>Xp t D (manyT t) r)=U at*;simp only[<-ae,<-ah,<-az]at am ac ao ar ai aj;clear ae ah az S Y;generalize JE t D=PP at*;generalize YF t=LR at*;generalize manyT t=M at*;rw[ba]at aa a9;unfold Zf at*;simp only[Za O,JH O,ZaE O]at*;refine wS ?_;refine Zjw (k1) ?_;refine wS ?_;refine Br.isF rfl ?_;refine wS ?_;refine Zjw (k2) ?_;refine wS ?_;refine Br.isF rfl ?_;refine wS ?_;refine Zjw (k3) ?_;refine wS ?_;refine Zjw (k4) ?_;refine wS ?_;refine ZqA false false [] [1,2,7,8,9,10] [.tok 1 λ_=>0] (λ(⟨r,out⟩:Nat×List Int)=>[(9,.isl 1 (λ_=>(out.length:Int)) (λe=>QO (A Int 0 out (e ()))) (.own 1)),(10,.int .i64 λ_=>(r:Int))])
    (λ⟨r,out⟩=>[(1,.tok 1 λ_=>(out.length:Int))]) (λ⟨r,out⟩=>r<=t.runs.length/\out=U r) (λr=>t.runs.length-r.1+0) (0,[]) ⟨aT _,bo.symm⟩ ?_ ?_
   ·(refine To.of [(1,false)] ?_;cbv;(try simp only[nc]);(repeat' first|exact xT|refine⟨?_,?_⟩|refine ZK.cells ?_|refine Zz.agg ?_|refine Zz.tup ?_);all_goals try exact XU)
   intro ⟨r,out⟩ hr;have b9:=hr.1;have Z:=hr.2;have bh:=bl r;refine wS ?_;refine⟨λV=>?_,λV=>?_⟩
   ·have V:=iW V;have I:=aj r;have bp:=ai r (by omega);rw[<-Z]at I bh;refine wS ?_;refine XD λQ hQ=>?_;refine ZqA false false [] [1,2,7,8,9,10,11,12] [] (λ(⟨i,m⟩:Nat×Bool)=>[(11,.bool λ_=>m),(12,.int .i64 λ_=>(i:Int))]) (λ_=>[]) (λ⟨i,m⟩=>i<=M/\m=AP r i) (λi=>M-i.1+0) (0,false) ⟨aT _,(am r).symm⟩ ?_ ?_
    ·exact ZB
    intro ⟨i,m⟩ G;have bq:=G.1;have ak:=G.2;refine wS ?_;refine⟨λb2=>?_,λb2=>?_⟩
    ·have b2:=iW b2;have YO:=ac r i;have bm:=ao r i;refine wS ?_;refine XD λQ2 bk=>?_;refine ZqA false false [] [1,2,7,8,9,10,11,12,13] [] (λ(⟨k,m⟩:Nat×Bool)=>[(11,.bool λ_=>m),(13,.int .i64 λ_=>(k:Int))]) (λ_=>[]) (λ⟨k,n⟩=>k<=i/\n=(m||RP r i k)) (λk=>i-k.1+0) (0,m) ⟨aT _,by rw[bm,Bool.or_false]⟩ ?_ ?_
     ·exact ZB
     intro ⟨k,n⟩ hk;have bt:=hk.1;have J:=hk.2;refine wS ?_;refine⟨λb3=>?_,λb3=>?_⟩
     ·have b3:=iW b3;have ab:=ar r i k;have au:=bg r i k (by omega) (by omega);have w1:=aa i r (by omega) (by omega);have w2:=aa k r (by omega) (by omega);have bx:=a9 r (by omega);have l1:=aw i (by omega);have l2:=aw k (by omega);have c1:=Zyr (A (List Int) [] L (i:Int)) (A (List Int) [] L (k:Int)) D (by omega) (by omega);have c2:=Zyq (A WorldL default W (i:Int)) (A WorldL default W (k:Int)) r (LR r) (by omega) (by omega) ⟨w1.2.1,w1.2.2,w2.2.1,w2.2.2⟩ (by omega);simp only[Za O,ZaE O]at c1 c2;generalize ZcA (A (List Int) [] L (i:Int)) (A (List Int) [] L (k:Int)) D=al at*;generalize ZdC (A WorldL default W (i:Int)) (A WorldL default W (k:Int)) r=ap at*;clear w1 w2;cases n with
      |true=>
       refine wS ?_;refine Br.isF rfl ?_;refine wS ?_;refine Br.isF rfl ?_;refine wS ?_;refine⟨(k+1,true),⟨by show k+1<=i;omega,by show true=(m||RP r i (k+1));rw[ab,<-g9,<-J];rfl⟩,by show i-(k+1)+0<i-k+0;omega,?_⟩;exact ZB
      |false=>
       refine wS ?_;refine Br.isT rfl ?_;refine wS ?_;refine Zjw (c1) ?_;cases al with
       |false=>
        refine wS ?_;refine Br.isF rfl ?_;refine wS ?_;refine⟨(k+1,false),⟨by show k+1<=i;omega,by show false=(m||RP r i (k+1));rw[ab,<-g9,<-J,au];rfl⟩,by show i-(k+1)+0<i-k+0;omega,?_⟩;exact ZB
       |true=>
        refine wS ?_;refine Br.isT rfl ?_;refine wS ?_;refine Zjw (c2) ?_;refine wS ?_;refine⟨(k+1,ap),⟨by show k+1<=i;omega,by show ap=(m||RP r i (k+1));rw[ab,<-g9,<-J,au];rfl⟩,by show i-(k+1)+0<i-k+0;omega,?_⟩;exact ZB
     have b3:=iX b3;obtain rfl:k=i:=by omega
     refine wS ?_;refine bk _ _ _ ?_;refine wS ?_;refine⟨(k+1,n),⟨by show k+1<=M;omega,by show n=AP r (k+1);rw[YO,<-ak,<-J]⟩,by show M-(k+1)+0<M-k+0;omega,?_⟩;exact ZB
    have b2:=iX b2;have hm:m=MT r:=by rw[ak,<-bp,show i=M by omega]
    refine wS ?_;refine hQ _ _ _ ?_;refine wS ?_;refine⟨λb4=>?_,λb4=>?_⟩
    ·rw[iP (hm.symm.trans b4)]at I;refine wS ?_;refine⟨(r+1,out++[(r:Int)]),⟨by show r+1<=_;omega,I.symm⟩,by show t.runs.length-(r+1)+0<t.runs.length-r+0;omega,?_⟩;exact ZB
    rw[iN (by rw[<-hm];exact λh=>by rw[h]at b4;cases b4)]at I;refine wS ?_;refine⟨(r+1,out),⟨by show r+1<=_;omega,I.symm⟩,by show t.runs.length-(r+1)+0<t.runs.length-r+0;omega,?_⟩;exact ZB
   have V:=iX V;have bc:r=t.runs.length:=by omega
   rw[bc]at Z;rw[<-Z]at H;subst H;refine wS ?_;refine⟨_,[],?_,rfl,rfl⟩;exact ZB
 rw[iP hbe]at H;subst H;generalize Zn t=e at*;unfold Zf at*;simp only[Za O]at*;refine wS ?_;refine Zjw (k1) ?_;refine wS ?_;refine Br.isT (by simpa using hbe) ?_;refine wS ?_;refine⟨_,_,?_,rfl,rfl⟩;exact ZB
end Vm
namespace Sp
open Vm
end Sp
namespace Vm
attribute [local irreducible] Dn
open Go Go.Proofs Sp
set_option maxRecDepth 100000
set_option maxHeartbeats 4000000
end Vm
namespace Sp
open Vm
theorem ZsU {t:Zb} {f r st:Int} (J:ZcC t f r st):ZdY (callsOf t) f r st=(Zv (Zl (callsOf t) f) st,ZJ (Zl (callsOf t) r) st,true):=by
 obtain⟨⟨G,U,H,S⟩,A,V,I,Y⟩:=J;unfold ZdY;rw[Zby G (by omega),Zby A (by omega),iN (by decide)];show(Zv (Zl (callsOf t) f) st,ZJ (Zl (callsOf t) r) st,bif decide (0<=Zv (Zl (callsOf t) f) st)then decide (0<=ZJ (Zl (callsOf t) r) st)else false)=_;rw[iZ H,iZ I];rfl
theorem Zih (p:Nat->Bool):∀n:Nat,QC (λi=> !p i) n=n-QC p n
 |0=>rfl
 |n+1=>by
  unfold QC;rw[Zih p n];cases p n<;>simp<;>omega
theorem count_bd (p:Nat->Bool):∀n:Nat,0<=QC p n/\QC p n<=n
 |0=>⟨bS _,bS _⟩
 |n+1=>by
  have h:=count_bd p n;unfold QC;split<;>omega
end Sp
namespace Vm
attribute [local irreducible] Dn
open Go Go.Proofs Sp
set_option maxRecDepth 100000
set_option maxHeartbeats 4000000
theorem Zys (t:Zb) (f r st:Int) (Z:Qe t) (he:Zn t=0) (I:ZcC t f r st):SC (λ_=>aB) 105 [Zf t,.int .i64 λ_=>f,.int .i64 λ_=>r,.int .i64 λ_=>st] [] λv h=>v= .int .i64 (λ_=>Zbc t f r st)/\h=[]:=by
 obtain⟨nt,O⟩:=Zm;have hw:=Yx he;have k1:=ZvA t Z.book Z.runs;have k2:=Zxj (callsOf t) f r st hw.calls;rw[ZsU I]at k2;have k3:=ZhN Z he;have ar:=ZgJ hw.dlen λd hd=>(hw.d d hd).2.1;have aq:=Zdj t;have ab:=λ(n:Nat) (h:n<manyT t)=>ZjM O h I.1;have aj:=λ(n:Nat) (h:n<manyT t)=>ZjM O h I.2;have ah:∀n:Nat,Xs t f r st n=decide ((ZE t (Zi t n) f (Zv (Sp.Zl (callsOf t) f) st)).comes<=(ZE t (Zi t n) r (ZJ (Sp.Zl (callsOf t) r) st)).goes):=λn=>rfl;have S:Zbc t f r st=Zbq (QC (Xs t f r st) (manyT t)) (manyT t-QC (Xs t f r st) (manyT t)):=by unfold Zbc;rw[Zih]
 have aa:QC (Xs t f r st) 0=0:=rfl;have ai:∀n,QC (Xs t f r st) (n+1)=if Xs t f r st n then QC (Xs t f r st) n+1 else QC (Xs t f r st) n:=λn=>rfl
 have J:=count_bd (Xs t f r st);have k4:=Zyk (QC (Xs t f r st) (manyT t)) (manyT t);rw[<-S]at k4;have ac:=I.1;have ae:=I.2;unfold StopIn at ac ae;clear S;generalize Zbc t f r st=KV at*;generalize QC (Xs t f r st)=Y at*;generalize Xs t f r st=KB at*;generalize Zv (Sp.Zl (callsOf t) f) st=A at*;generalize ZJ (Sp.Zl (callsOf t) r) st=B at*;generalize Zi t=TA at*;generalize Qk t=W at*;generalize manyT t=M at*;refine Qq Tryz.func105 (body:=Zj Tryz.f105) rfl (by decide+kernel) ?_;unfold Zf at*;simp only[ZaN O,Za O,ZaE O]at k1 k2 k3|-;refine wS ?_;refine Zjw (k1) ?_;refine wS ?_;refine Zjw (k2) ?_;refine wS ?_;refine Zjw (k3) ?_;refine wS ?_;refine ZG false false [] [1,2,9,10,12,13,14] [] (λ(⟨i,n⟩:Nat×Int)=>[(13,.int .i64 λ_=>n),(14,.int .i64 λ_=>i)]) (λ_=>[]) (λ⟨i,n⟩=>i<=M/\n=Y i) (λi=>M-i.1+0) (0,0) ⟨aT _,aa.symm⟩ ?_ ?_
 ·exact ZB
 intro ⟨i,n⟩ hi;have ao:=hi.1;have hn:=hi.2;have ak:=J i;refine wS ?_;refine⟨λH=>?_,λH=>?_⟩
 ·have H:=iW H;have w1:=(ab i (by omega)).1;have w2:=(aj i (by omega)).2.2;have V:=ah i;have G:=ai i;have am:=J (i+1);rw[<-w1.2.2,<-w2.2.2]at V;have au:=G;refine vS ?_;refine Chk.mk (ZH) ?_;refine⟨λU=>?_,λU=>?_⟩
  ·rw[iP (V.trans U)]at G;refine wS ?_;refine⟨(i+1,n+1),⟨by show i+1<=M;omega,by show n+1=Y (i+1);rw[G,hn]⟩,by show M-(i+1)+0<M-i+0;omega,?_⟩;exact ZB
  rw[iN (by rw[V.trans U];exact aO)]at G;refine wS ?_;refine⟨(i+1,n),⟨by show i+1<=M;omega,by show n=Y (i+1);rw[G,hn]⟩,by show M-(i+1)+0<M-i+0;omega,?_⟩;exact ZB
 have H:=iX H;obtain rfl:i=M:=by omega
 subst hn;rw[show((i:Nat):Int)=(W.length:Int) by omega]at k4;refine wS ?_;refine Zjw (k4) ?_;exact zW
end Vm
namespace Vm
open Go Go.Proofs
theorem SC.nilOr {f:FuncId} {s:Nat} {n:Unit->Int} {g:(Unit->Int)->List AV} {h:List Zh} {H:AV->List Zh->Prop} (V:n ()=0) (S:SC (λ_=>aB) f [.isl s n g .nil] h H) (U:SC (λ_=>aB) f [.isl s n g .nn] h H):SC (λ_=>aB) f [.isl s n g .none] h H:=
 ⟨S.enter,λG R I hr J cs=>by
  have hv:=J.2 0 _ rfl;by_cases e:I.getD 0 Go.undef= .slice none 0 0
  ·refine S.run G R I hr ⟨J.1,λj c A=>?_⟩ cs;cases j with
   |zero=>
    simp only[bJ,aC]at A;subst A;rw[e];exact .pure _ _ (.isl0 _ _ _ _ V rfl)
   |succ j=>simp at A
  refine U.run G R I hr ⟨J.1,λj c A=>?_⟩ cs;cases j with
  |zero=>
   simp only[bJ,aC]at A;subst A;exact .nn _ _ _ _ hv.isl_inv e
  |succ j=>simp at A⟩
attribute [local irreducible] Dn
open Go Go.Proofs Sp
set_option maxRecDepth 100000
set_option maxHeartbeats 4000000
theorem QZ {n k s:Nat} {m:Unit->Int} {g:(Unit->Int)->List AV} {n0:Unit->Int} {f:(Unit->Int)->List AV} {m':Unit->Int} (G:n0 ()=0) (hm:m' ()=m ()):Zz n k (.isl s m' (Z0 n0 f g) .none) (.isl s m g .none):=
 .isl hm λi A=>by
  show(if(i:Int)<n0 ()then _ else _)=_;rw[iN (by omega)];have e:(λ_:Unit=>(i:Int)-n0 ())=λ_=>(i:Int):=funext λ_=>by omega
  rw[e]
theorem Zxb (l:List Chg) (G:l.length<=1000000):SC (λ_=>aB) 155 [lst 2 Jo default l] [] λv h=>v=lst 2 Jo default l/\h=[]:=by
 obtain⟨H,O⟩:=Zm;simp only[Za O];by_cases h0:l=[]
 ·subst h0;refine SC.nilOr rfl ?_ ?_
  ·refine SC.less (Qq Tryz.func155 (body:=Zj Tryz.f155) rfl (by decide+kernel) ?_);refine wS ?_;refine Br.isT rfl ?_;refine wS ?_;refine⟨_,_,?_,rfl,rfl⟩;exact ZB
  refine SC.less (Qq Tryz.func155 (body:=Zj Tryz.f155) rfl (by decide+kernel) ?_);refine wS ?_;refine Br.isF rfl ?_;refine wS ?_;refine⟨_,_,?_,rfl,rfl⟩;refine Ji ?_;exact QZ rfl (by simp)
 have A:0<l.length:=dV.2 h0;refine SC.less (Qq Tryz.func155 (body:=Zj Tryz.f155) rfl (by decide+kernel) ?_);refine wS ?_;refine Br.isF rfl ?_;refine wS ?_;refine⟨_,_,?_,rfl,rfl⟩;refine Ji ?_;exact QZ rfl (by simp)
theorem Zw7 (l:List Stop) (G:l.length<=1000000):SC (λ_=>aB) 158 [lst 4 QK default l] [] λv h=>v=lst 4 QK default l/\h=[]:=by
 obtain⟨H,O⟩:=Zm;simp only[Za O];by_cases h0:l=[]
 ·subst h0;refine SC.nilOr rfl ?_ ?_
  ·refine SC.less (Qq Tryz.func158 (body:=Zj Tryz.f158) rfl (by decide+kernel) ?_);refine wS ?_;refine Br.isT rfl ?_;refine wS ?_;refine⟨_,_,?_,rfl,rfl⟩;exact ZB
  refine SC.less (Qq Tryz.func158 (body:=Zj Tryz.f158) rfl (by decide+kernel) ?_);refine wS ?_;refine Br.isF rfl ?_;refine wS ?_;refine⟨_,_,?_,rfl,rfl⟩;refine Ji ?_;exact QZ rfl (by simp)
 have A:0<l.length:=dV.2 h0;refine SC.less (Qq Tryz.func158 (body:=Zj Tryz.f158) rfl (by decide+kernel) ?_);refine wS ?_;refine Br.isF rfl ?_;refine wS ?_;refine⟨_,_,?_,rfl,rfl⟩;refine Ji ?_;exact QZ rfl (by simp)
theorem Zw3 (l:List Int) (G:l.length<=1000000):SC (λ_=>aB) 161 [lst 1 QO 0 l] [] λv h=>v=lst 1 QO 0 l/\h=[]:=by
 obtain⟨H,O⟩:=Zm;simp only[Za O];by_cases h0:l=[]
 ·subst h0;refine SC.nilOr rfl ?_ ?_
  ·refine SC.less (Qq Tryz.func161 (body:=Zj Tryz.f161) rfl (by decide+kernel) ?_);refine wS ?_;refine Br.isT rfl ?_;refine wS ?_;refine⟨_,_,?_,rfl,rfl⟩;exact ZB
  refine SC.less (Qq Tryz.func161 (body:=Zj Tryz.f161) rfl (by decide+kernel) ?_);refine wS ?_;refine Br.isF rfl ?_;refine wS ?_;refine⟨_,_,?_,rfl,rfl⟩;refine Ji ?_;exact QZ rfl (by simp)
 have A:0<l.length:=dV.2 h0;refine SC.less (Qq Tryz.func161 (body:=Zj Tryz.f161) rfl (by decide+kernel) ?_);refine wS ?_;refine Br.isF rfl ?_;refine wS ?_;refine⟨_,_,?_,rfl,rfl⟩;refine Ji ?_;exact QZ rfl (by simp)
theorem Zw6 (l:List Sp.Z6) (G:l.length<=1000000):SC (λ_=>aB) 159 [lst 2 Zk default l] [] λv h=>v=lst 2 Zk default l/\h=[]:=by
 obtain⟨H,O⟩:=Zm;simp only[Za O];by_cases h0:l=[]
 ·subst h0;refine SC.nilOr rfl ?_ ?_
  ·refine SC.less (Qq Tryz.func159 (body:=Zj Tryz.f159) rfl (by decide+kernel) ?_);refine wS ?_;refine Br.isT rfl ?_;refine wS ?_;refine⟨_,_,?_,rfl,rfl⟩;exact ZB
  refine SC.less (Qq Tryz.func159 (body:=Zj Tryz.f159) rfl (by decide+kernel) ?_);refine wS ?_;refine Br.isF rfl ?_;refine wS ?_;refine⟨_,_,?_,rfl,rfl⟩;refine Ji ?_;exact QZ rfl (by simp)
 have A:0<l.length:=dV.2 h0;refine SC.less (Qq Tryz.func159 (body:=Zj Tryz.f159) rfl (by decide+kernel) ?_);refine wS ?_;refine Br.isF rfl ?_;refine wS ?_;refine⟨_,_,?_,rfl,rfl⟩;refine Ji ?_;exact QZ rfl (by simp)
theorem Zxd (l:List Sp.QH) (G:l.length<=1000000):SC (λ_=>aB) 152 [lst 4 Qz default l] [] λv h=>v=lst 4 Qz default l/\h=[]:=by
 obtain⟨H,O⟩:=Zm;simp only[Za O];by_cases h0:l=[]
 ·subst h0;refine SC.nilOr rfl ?_ ?_
  ·refine SC.less (Qq Tryz.func152 (body:=Zj Tryz.f152) rfl (by decide+kernel) ?_);refine wS ?_;refine Br.isT rfl ?_;refine wS ?_;refine⟨_,_,?_,rfl,rfl⟩;exact ZB
  refine SC.less (Qq Tryz.func152 (body:=Zj Tryz.f152) rfl (by decide+kernel) ?_);refine wS ?_;refine Br.isF rfl ?_;refine wS ?_;refine⟨_,_,?_,rfl,rfl⟩;refine Ji ?_;exact QZ rfl (by simp)
 have A:0<l.length:=dV.2 h0;refine SC.less (Qq Tryz.func152 (body:=Zj Tryz.f152) rfl (by decide+kernel) ?_);refine wS ?_;refine Br.isF rfl ?_;refine wS ?_;refine⟨_,_,?_,rfl,rfl⟩;refine Ji ?_;exact QZ rfl (by simp)
theorem Zw8 (l:List Train) (G:l.length<=1000000):SC (λ_=>aB) 157 [lst 3 encTrain default l] [] λv h=>v=lst 3 encTrain default l/\h=[]:=by
 obtain⟨H,O⟩:=Zm;simp only[Za O];by_cases h0:l=[]
 ·subst h0;refine SC.nilOr rfl ?_ ?_
  ·refine SC.less (Qq Tryz.func157 (body:=Zj Tryz.f157) rfl (by decide+kernel) ?_);refine wS ?_;refine Br.isT rfl ?_;refine wS ?_;refine⟨_,_,?_,rfl,rfl⟩;exact ZB
  refine SC.less (Qq Tryz.func157 (body:=Zj Tryz.f157) rfl (by decide+kernel) ?_);refine wS ?_;refine Br.isF rfl ?_;refine wS ?_;refine⟨_,_,?_,rfl,rfl⟩;refine Ji ?_;exact QZ rfl (by simp)
 have A:0<l.length:=dV.2 h0;refine SC.less (Qq Tryz.func157 (body:=Zj Tryz.f157) rfl (by decide+kernel) ?_);refine wS ?_;refine Br.isF rfl ?_;refine wS ?_;refine⟨_,_,?_,rfl,rfl⟩;refine Ji ?_;exact QZ rfl (by simp)
theorem Zw4 (l:List Sp.ZR) (G:l.length<=1000000):SC (λ_=>aB) 160 [lst 3 Zp default l] [] λv h=>v=lst 3 Zp default l/\h=[]:=by
 obtain⟨H,O⟩:=Zm;simp only[Za O];by_cases h0:l=[]
 ·subst h0;refine SC.nilOr rfl ?_ ?_
  ·refine SC.less (Qq Tryz.func160 (body:=Zj Tryz.f160) rfl (by decide+kernel) ?_);refine wS ?_;refine Br.isT rfl ?_;refine wS ?_;refine⟨_,_,?_,rfl,rfl⟩;exact ZB
  refine SC.less (Qq Tryz.func160 (body:=Zj Tryz.f160) rfl (by decide+kernel) ?_);refine wS ?_;refine Br.isF rfl ?_;refine wS ?_;refine⟨_,_,?_,rfl,rfl⟩;refine Ji ?_;exact QZ rfl (by simp)
 have A:0<l.length:=dV.2 h0;refine SC.less (Qq Tryz.func160 (body:=Zj Tryz.f160) rfl (by decide+kernel) ?_);refine wS ?_;refine Br.isF rfl ?_;refine wS ?_;refine⟨_,_,?_,rfl,rfl⟩;refine Ji ?_;exact QZ rfl (by simp)
theorem Zxc {A:(α:Type)->α->List α->Int->α} (O:∀(α:Type) (d:α) (l:List α) (i:Int),A α d l i=l.getD i.toNat d) (l:List Zone) (G:0<l.length/\l.length<=1000000):SC (λ_=>aB) 154 [lst 2 encZone default l] [] λv h=>v= .gsl 0 (λ_=>(l.length:Int))/\h=[.gar 2 (λ_=>(l.length:Int)) (λe=>encZone (A Zone default l (e ())))]:=by
 simp only[Za O];refine SC.less (Zoh true false [] Tryz.func154 (body:=Zj Tryz.f154) rfl (by decide+kernel) ?_);refine wS ?_;refine Br.isF rfl ?_;refine wS ?_;refine⟨_,_,?_,rfl,rfl⟩;refine Ji ?_;exact .gar (by simp) λi H=>by rw[Qu (len:=0) rfl (aT _)];rfl
theorem Zw9 {A:(α:Type)->α->List α->Int->α} (O:∀(α:Type) (d:α) (l:List α) (i:Int),A α d l i=l.getD i.toNat d) (l:List Train) (G:0<l.length/\l.length<=1000000):SC (λ_=>aB) 157 [lst 3 encTrain default l] [] λv h=>v= .gsl 0 (λ_=>(l.length:Int))/\h=[.gar 3 (λ_=>(l.length:Int)) (λe=>encTrain (A Train default l (e ())))]:=by
 simp only[Za O];refine SC.less (Zoh true false [] Tryz.func157 (body:=Zj Tryz.f157) rfl (by decide+kernel) ?_);refine wS ?_;refine Br.isF rfl ?_;refine wS ?_;refine⟨_,_,?_,rfl,rfl⟩;refine Ji ?_;exact .gar (by simp) λi H=>by rw[Qu (len:=0) rfl (aT _)];rfl
theorem Zw5 {A:(α:Type)->α->List α->Int->α} (O:∀(α:Type) (d:α) (l:List α) (i:Int),A α d l i=l.getD i.toNat d) (l:List Sp.ZR) (G:0<l.length/\l.length<=1000000):SC (λ_=>aB) 160 [lst 3 Zp default l] [] λv h=>v= .gsl 0 (λ_=>(l.length:Int))/\h=[.gar 3 (λ_=>(l.length:Int)) (λe=>Zp (A Sp.ZR default l (e ())))]:=by
 simp only[Za O];refine SC.less (Zoh true false [] Tryz.func160 (body:=Zj Tryz.f160) rfl (by decide+kernel) ?_);refine wS ?_;refine Br.isF rfl ?_;refine wS ?_;refine⟨_,_,?_,rfl,rfl⟩;refine Ji ?_;exact .gar (by simp) λi H=>by rw[Qu (len:=0) rfl (aT _)];rfl
theorem Znr {A:(α:Type)->α->List α->Int->α} (O:∀(α:Type) (d:α) (l:List α) (i:Int),A α d l i=l.getD i.toNat d) (t:Train):encTrain t=[.int .i64 λ_=>t.number,.int .i64 λ_=>t.days,.isl 4 (λ_=>(t.stops.length:Int)) (λe=>QK (A Stop default t.stops (e ()))) .none]:=by
 unfold encTrain;rw[Za O]
theorem Zxa (l:List Train) (J:l.length<=1000000) (Z:∀t∈l,t.stops.length<=1000000):SC (λ_=>aB) 156 [lst 3 encTrain default l] [] λv h=>v=lst 3 encTrain default l/\h=[]:=by
 obtain⟨Y,O⟩:=Zm;have U:=Zw8 l J;have H:=λh=>Zw9 O l ⟨h,J⟩;have I:=λ(i:Nat) (A:i<l.length)=>Zw7 (Y Train default l i).stops (Z _ (Qr (d:=default) O (l:=l) (i:=i) (by omega)));simp only[Za O,Znr O]at*;by_cases h0:l=[]
 ·subst h0;refine SC.less (Qq Tryz.func156 (body:=Zj Tryz.f156) rfl (by decide+kernel) ?_);refine wS ?_;refine Zri (U) ?_;refine wS ?_;refine ZG false false [] [0,7,8] [] (λ(i:Nat)=>[(8,.int .i64 λ_=>(i:Int))]) (λ_=>[]) (λi=>i=0) (λi=>0) 0 rfl ?_ ?_
  ·exact ZB
  intro i A;have A:i=0:=A;subst A;refine wS ?_;refine Br.isF rfl ?_;refine wS ?_;refine⟨_,_,?_,rfl,rfl⟩;exact ZB
 have G:0<l.length:=dV.2 h0;have H:=H G;refine SC.less (Qq Tryz.func156 (body:=Zj Tryz.f156) rfl (by decide+kernel) ?_);refine wS ?_;refine cL1 [] (H) λr V G=>?_;(try simp only[Ze,Zd,Zf,Zc,Za O]at G);obtain⟨rfl,rfl⟩:=G;refine wS ?_;refine ZG false false [] [0,7,8] [] (λ(i:Nat)=>[(8,.int .i64 λ_=>(i:Int))]) (λ_=>[]) (λi=>i<=l.length) (λi=>l.length-i+0) 0 (aT _) ?_ ?_
 ·exact ZB
 intro i A;have A:i<=l.length:=A;refine wS ?_;refine⟨λS=>?_,λS=>?_⟩
 ·simp only[iU]at S;have I:=I i (by omega);refine wS ?_;refine Zri (I) ?_;refine wS ?_;refine⟨i+1,by show i+1<=_;omega,by show l.length-(i+1)+0<l.length-i+0;omega,?_⟩;(refine To.of [] ?_;cbv;(try simp only[nc]);(repeat' first|exact xT|refine⟨?_,?_⟩|refine ZK.cells ?_|refine Zz.agg ?_|refine Zz.tup ?_);all_goals try exact XU);refine .gar rfl λx hx=>?_;by_cases h:(x:Int)=(i:Int)
  ·obtain rfl:x=i:=by omega
   simp only[decide_true];rfl
  simp only[iY h];rfl
 refine wS ?_;refine⟨_,_,?_,rfl,rfl⟩;exact ZB
theorem ZoD {A:(α:Type)->α->List α->Int->α} (O:∀(α:Type) (d:α) (l:List α) (i:Int),A α d l i=l.getD i.toNat d) (z:Zone):encZone z=[.int .i64 λ_=>z.base,.isl 2 (λ_=>(z.chs.length:Int)) (λe=>Jo (A Chg default z.chs (e ()))) .none]:=by
 unfold encZone;rw[Za O]
theorem Zoe {A:(α:Type)->α->List α->Int->α} (O:∀(α:Type) (d:α) (l:List α) (i:Int),A α d l i=l.getD i.toNat d) (z:Sp.ZR):Zp z=[.int .i64 λ_=>z.run,.int .i64 λ_=>z.leg,.isl 1 (λ_=>(z.by_.length:Int)) (λe=>QO (A Int 0 z.by_ (e ()))) .none]:=by
 unfold Zp;rw[Za O]
theorem Zyp (t:Zb) (A:Qe t) (hz:0<t.book.zones.length):SC (λ_=>aB) 111 [Zf t] [] λv h=>v=Zf t/\h=[]:=by
 obtain⟨Z,O⟩:=Zm;have ab:=A.book.zones;have Y:=Zxc O t.book.zones ⟨hz,A.book.zones⟩;have J:=λ(i:Nat) (G:i<t.book.zones.length)=>Zxb (Z Zone default t.book.zones i).chs (A.book.chs _ (Qr (d:=default) O (l:=t.book.zones) (i:=i) (by omega)));have kO:=Zxa t.book.old A.book.old A.book.stops.1;have kN:=Zxa t.book.new A.book.new A.book.stops.2;have kR:=Zw6 t.runs A.runs;have kW:=Zxd t.waits A.waits;have kE:=Zw4 t.delays A.delays;have U:=λh=>Zw5 O t.delays ⟨h,A.delays⟩;have V:=λ(i:Nat) (G:i<t.delays.length)=>Zw3 (Z Sp.ZR default t.delays i).by_ (A.bys _ (Qr (d:=default) O (l:=t.delays) (i:=i) (by omega)));have ac:=A.delays;unfold Zf;simp only[Za O,ZoD O,Zoe O]at*;refine SC.less (Qq Tryz.func111 (body:=Zj Tryz.f111) rfl (by decide+kernel) ?_);refine wS ?_;refine cL1 [] (Y) λr S H=>?_;(try simp only[Ze,Zd,Zf,Zc,Za O]at H);obtain⟨rfl,rfl⟩:=H;refine wS ?_;refine ZG false false [] [1,2,16,17] [] (λ(i:Nat)=>[(17,.int .i64 λ_=>(i:Int))]) (λ_=>[]) (λi=>i<=t.book.zones.length) (λi=>t.book.zones.length-i+0) 0 (aT _) ?_ ?_
 ·exact ZB
 intro i G;have G:i<=t.book.zones.length:=G;refine wS ?_;refine⟨λI=>?_,λI=>?_⟩
 ·simp only[iU]at I;have J:=J i (by omega);refine wS ?_;refine Zri (J) ?_;refine wS ?_;refine⟨i+1,by show i+1<=_;omega,by show t.book.zones.length-(i+1)+0<t.book.zones.length-i+0;omega,?_⟩;(refine To.of [] ?_;cbv;(try simp only[nc]);(repeat' first|exact xT|refine⟨?_,?_⟩|refine ZK.cells ?_|refine Zz.agg ?_|refine Zz.tup ?_);all_goals try exact XU);refine .gar rfl λx hx=>?_;by_cases h:(x:Int)=(i:Int)
  ·obtain rfl:x=i:=by omega
   simp only[decide_true];rfl
  simp only[iY h];rfl
 clear J Y;refine wS ?_;refine Zri (kO) ?_;refine wS ?_;refine Zri (kN) ?_;refine wS ?_;refine Zri (kR) ?_;refine wS ?_;refine Zri (kW) ?_;refine wS ?_;by_cases h0:t.delays=[]
 ·have aa:t.delays.length=0:=by rw[h0];rfl
  refine Zri (kE) ?_;refine wS ?_;refine ZG false false [] [1,2,62,63] [] (λ(i:Nat)=>[(63,.int .i64 λ_=>(i:Int))]) (λ_=>[]) (λi=>i=0) (λi=>0) 0 rfl ?_ ?_
  ·exact ZB
  intro i G;have G:i=0:=G;subst G;refine wS ?_;refine Br.isF (iY (by omega)) ?_;refine wS ?_;refine⟨_,_,?_,rfl,rfl⟩;exact ZB
 have H:0<t.delays.length:=dV.2 h0;have U:=U H;refine cL1 [] (U) λr S H=>?_;(try simp only[Ze,Zd,Zf,Zc,Za O]at H);obtain⟨rfl,rfl⟩:=H;refine wS ?_;refine ZG false false [] [1,2,62,63] [] (λ(i:Nat)=>[(63,.int .i64 λ_=>(i:Int))]) (λ_=>[]) (λi=>i<=t.delays.length) (λi=>t.delays.length-i+0) 0 (aT _) ?_ ?_
 ·exact ZB
 intro i G;have G:i<=t.delays.length:=G;refine wS ?_;refine⟨λI=>?_,λI=>?_⟩
 ·simp only[iU]at I;have V:=V i (by omega);refine wS ?_;refine Zri (V) ?_;refine wS ?_;refine⟨i+1,by show i+1<=_;omega,by show t.delays.length-(i+1)+0<t.delays.length-i+0;omega,?_⟩;(refine To.of [] ?_;cbv;(try simp only[nc]);(repeat' first|exact xT|refine⟨?_,?_⟩|refine ZK.cells ?_|refine Zz.agg ?_|refine Zz.tup ?_);all_goals try exact XU);refine .gar rfl λx hx=>?_;by_cases h:(x:Int)=(i:Int)
  ·obtain rfl:x=i:=by omega
   simp only[decide_true];rfl
  simp only[iY h];rfl
 refine wS ?_;refine⟨_,_,?_,rfl,rfl⟩;exact ZB
theorem Znm {b:Xy} (h:Sp.Yl b=0):0<b.zones.length:=by
 unfold Sp.Yl at h;split at h
 ·rename_i g;exact absurd h g
 rename_i g;unfold ZQ at g;split at g
 ·omega
 omega
end Vm
namespace Sp
open Vm
def ZaF (t:Zb) (w n:Int):Zb×Int:=if ZV t w≠0 then(⟨⟨[],[],[],0,0⟩,[],[],[]⟩,ZV t w)else if Qw n 0 60 then(⟨⟨[],[],[],0,0⟩,[],[],[]⟩,1)else(ZS t w n,0)
end Sp
namespace Vm
attribute [local irreducible] Dn
open Go Go.Proofs Sp
set_option maxRecDepth 100000
set_option maxHeartbeats 4000000
theorem ZyH (t:Zb) (w n:Int) (G:Qe t):SC (λ_=>aB) 43 [Zf t,.int .i64 λ_=>w,.int .i64 λ_=>n] [] λv h=>v= .tup [Zf (ZaF t w n).1,.int .i64 λ_=>(ZaF t w n).2]/\h=[]:=by
 obtain⟨nt,O⟩:=Zm;have k:=Zxi t w G;by_cases he:ZV t w=0
 ·have A:Zn t=0:=by
   unfold ZV at he;split at he
   ·assumption
   exact he
  have V:0<=w/\w<t.waits.length:=by
   unfold ZV at he;rw[iP A]at he;split at he
   ·cases he
   rename_i U;have:=QE (by simpa using U);omega
  have Y:0<t.book.zones.length:=by
   unfold Zn at A;split at A
   ·exact absurd A (by assumption)
   rename_i g;exact Znm (bQ g)
  have J:=Zdy n 0 60;have I:=Zvy t w n G V;have H:=Zyp (ZS t w n) ⟨G.book,G.runs,by show(t.waits.set _ _).length<=_;rw[bP];exact G.waits,G.delays,G.bys⟩ Y;obtain⟨W,hW⟩:∃W,W=ZaF t w n:=⟨_,rfl⟩;rw[<-hW];unfold ZaF at hW;rw[iN (λh=>h he)]at hW;unfold QY at k;rw[iP A,he]at k;generalize ZS t w n=Z at*;generalize Qw n 0 60=B at*;unfold ZZ Zf at*;simp only[Za O,Zc,Zp]at*;refine SC.less (Qq Tryz.func43 (body:=Zj Tryz.f43) rfl (by decide+kernel) ?_);refine wS ?_;refine Zri (k) ?_;refine wS ?_;refine Br.isF rfl ?_;refine wS ?_;refine Zri (J) ?_;refine wS ?_;cases B;case true=>
   rw[iP rfl]at hW;subst hW;refine Br.isT rfl ?_;refine wS ?_;refine⟨_,_,?_,rfl,rfl⟩;exact ZB
  rw[iN aO]at hW;subst hW;refine Br.isF rfl ?_;refine wS ?_;refine Zri (I) ?_;refine wS ?_;refine Zri (H) ?_;refine wS ?_;refine⟨_,_,?_,rfl,rfl⟩;exact ZB
 have S:ZaF t w n=(⟨⟨[],[],[],0,0⟩,[],[],[]⟩,ZV t w):=by
  unfold ZaF;rw[iP he]
 rw[S];generalize ZV t w=e at*;refine SC.less (Qq Tryz.func43 (body:=Zj Tryz.f43) rfl (by decide+kernel) ?_);unfold Zf at*;by_cases A:Zn t=0
 ·unfold QY at k;rw[iP A]at k;unfold ZZ at k;simp only[Za O,Zc,Zp]at*;refine wS ?_;refine Zri (k) ?_;refine wS ?_;refine⟨λh=>?_,λh=>?_⟩
  ·refine wS ?_;refine⟨_,_,?_,rfl,rfl⟩;exact ZB
  exact absurd (by simpa only[iC]using h) he
 unfold QY at k;rw[iN A]at k;simp only[Za O,Zc,Zp]at*;refine wS ?_;refine Zri (k) ?_;refine wS ?_;refine⟨λh=>?_,λh=>?_⟩
 ·refine wS ?_;refine⟨_,_,?_,rfl,rfl⟩;exact ZB
 exact absurd (by simpa only[iC]using h) he
end Vm
namespace Sp
open Vm
theorem LOk.map {α G:Type} [Inhabited α] [Inhabited G] {e:α->List α->Int} {I:G->List G->Int} {f:α->G} {l:List α} (h:LOk e l) (hm:∀a∈l,∀p,(∀b∈p,b∈l)->e a p=0->I (f a) (p.map f)=0):LOk I (l.map f):=⟨λi A=>by
 rw[aX]at A;have H:=h.ok i A;rw[aA,aD A]at H;rw[aA,aQ,aD A,<-List.map_take]
 exact hm _ (bM A) _ (λb J=>List.mem_of_mem_take J) H⟩
theorem ZjN {t:Zb} {w n:Int} {k:Nat}:(ZS t w n).waits.getD k default=if k=w.toNat/\k<t.waits.length then {t.waits.getD k default with minutes:=n}else t.waits.getD k default:=by
 show(t.waits.set w.toNat _).getD k default=_;rw[aA,bR];by_cases h:w.toNat=k
 ·subst h;rw[iP rfl];by_cases hl:w.toNat<t.waits.length
  ·rw[iP hl,iP ⟨rfl,hl⟩];rfl
  rw[iN hl,iN (λh=>hl h.2),aA,cE (by omega)]
 rw[iN h,iN (λA=>h A.1.symm),<-aA]
theorem Zlm {t:Zb} (he:Zn t=0) {w n:Int} (U:0<=n/\n<=60):Zn (ZS t w n)=0:=by
 obtain⟨h1,V,h3,Z,h5,h6⟩:=Zcx he;have A:∀k,((ZS t w n).waits.getD k default).feeder=(t.waits.getD k default).feeder/\((ZS t w n).waits.getD k default).train=(t.waits.getD k default).train/\((ZS t w n).waits.getD k default).station=(t.waits.getD k default).station:=λk=>by
  rw[ZjN];split<;>exact⟨rfl,rfl,rfl⟩
 have aa:(ZS t w n).waits.length=t.waits.length:=by show(t.waits.set _ _).length=_;rw[bP]
 refine ZkX h1 V (by omega) ⟨λi hi=>?_⟩ h5 h6;have h:=Z.ok i (by omega);have J:=A i;have S:((ZS t w n).waits.take i).any (λx=>decide (x.feeder=(t.waits.getD i default).feeder/\x.train=(t.waits.getD i default).train/\x.station=(t.waits.getD i default).station))=(t.waits.take i).any (λx=>decide (x.feeder=(t.waits.getD i default).feeder/\x.train=(t.waits.getD i default).train/\x.station=(t.waits.getD i default).station)):=by
  rw[ej,cZ,cZ];constructor
  ·rintro⟨x,hx,hq⟩;obtain⟨k,H,rfl⟩:=dQ.1 hx;have G:k<i/\k<t.waits.length:=by rw[bW]at H;omega
   refine⟨t.waits.getD k default,?_,?_⟩
   ·rw[en];exact⟨k,by rw[cO,iP G.1,aA,aD G.2];rfl⟩
   have e:((ZS t w n).waits.take i)[k]=(ZS t w n).waits.getD k default:=by
    rw[fQ,aA,aD (by omega)];rfl
   rw[e,(A k).1,(A k).2.1,(A k).2.2]at hq;exact hq
  rintro⟨x,hx,hq⟩;obtain⟨k,H,rfl⟩:=dQ.1 hx;have G:k<i/\k<t.waits.length:=by rw[bW]at H;omega
  refine⟨(ZS t w n).waits.getD k default,?_,?_⟩
  ·rw[en];exact⟨k,by rw[cO,iP G.1,aA,aD (by omega)];rfl⟩
  have e:(t.waits.take i)[k]=t.waits.getD k default:=by
   rw[fQ,aA,aD (by omega)];rfl
  rw[e]at hq;rw[(A k).1,(A k).2.1,(A k).2.2];exact hq
 unfold Qc at h|-;show(if(Qw ((ZS t w n).waits.getD i default).feeder 0 ((callsOf t).length-1)||Qw ((ZS t w n).waits.getD i default).train 0 ((callsOf t).length-1))=true then(3:Int)else if((ZS t w n).waits.getD i default).feeder=((ZS t w n).waits.getD i default).train then 4 else if Zv ((callsOf t).getD ((ZS t w n).waits.getD i default).feeder.toNat []) ((ZS t w n).waits.getD i default).station<0\/ZJ ((callsOf t).getD ((ZS t w n).waits.getD i default).train.toNat []) ((ZS t w n).waits.getD i default).station<0 then 3 else if Qw ((ZS t w n).waits.getD i default).minutes 0 60=true then 1 else if(((callsOf t).getD ((ZS t w n).waits.getD i default).train.toNat []).getD (ZJ ((callsOf t).getD ((ZS t w n).waits.getD i default).train.toNat []) ((ZS t w n).waits.getD i default).station).toNat default).depart<(((callsOf t).getD ((ZS t w n).waits.getD i default).feeder.toNat []).getD (Zv ((callsOf t).getD ((ZS t w n).waits.getD i default).feeder.toNat []) ((ZS t w n).waits.getD i default).station).toNat default).arrive then 5 else if((ZS t w n).waits.take i).any (λx=>decide (x.feeder=((ZS t w n).waits.getD i default).feeder/\x.train=((ZS t w n).waits.getD i default).train/\x.station=((ZS t w n).waits.getD i default).station))=true then 4 else 0)=0;rw[J.1,J.2.1,J.2.2,S];have I:Qw ((ZS t w n).waits.getD i default).minutes 0 60=false:=by
  rw[ZjN];split
  ·exact Zby U.1 U.2
  rename_i ab;split at h
  ·cases h
  split at h
  ·cases h
  split at h
  ·cases h
  split at h
  ·cases h
  rename_i g;simpa using g
 rw[I];split at h
 ·cases h
 rename_i g1;rw[iN g1];split at h
 ·cases h
 rename_i Y;rw[iN Y];split at h
 ·cases h
 rename_i g3;rw[iN g3,iN aO];split at h
 ·cases h
 exact h
end Sp
end Go.Proofs.YtjgpiclllehgmaaGreat
