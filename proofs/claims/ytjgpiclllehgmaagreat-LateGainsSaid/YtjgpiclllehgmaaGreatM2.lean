/- Lemmas. -/
import Derived.Laws.CopyRow
import Derived.Laws.AppendOwn
import Derived.Test.YtjgpiclllehgmaaGreatM1
set_option linter.all false
open Array renaming append_assoc->dC,foldl_toList->fE,getD_eq_getD_getElem?->aI,getElem?_append_left->dF,getElem?_append_right->dX,getElem?_eq_none->eD,getElem?_eq_some_iff->aM,getElem?_map->cA,getElem?_modify->cU,getElem?_push->bK,getElem?_setIfInBounds->bS,getElem?_setIfInBounds_ne->aF,getElem?_toList->bN,length_toList->cW,range->fh,size_append->eS,size_setIfInBounds->eY,toList_push->ij
open Bool renaming and_eq_true->aS,false_eq_true->aX,false_or->cC,not_false->ez,or_false->eO
open Go.Instr renaming findKey->dP,storeAt->ek,sureAddr->cN
open Int renaming eq_ofNat_of_zero_le->bU,le_refl->bR,mul_le_mul->gT,toNat_natCast->aW
open List renaming all_eq_true->bM,append_assoc->dU,eq_nil_of_length_eq_zero->cP,ext_getElem?->ew,foldl_cons->dR,getD_eq_getElem?_getD->aA,getElem?_append_left->bP,getElem?_append_right->dE,getElem?_cons_succ->cM,getElem?_cons_zero->bJ,getElem?_drop->cT,getElem?_eq_getElem->aC,getElem?_eq_none->cD,getElem?_eq_some_iff->aE,getElem?_map->aP,getElem?_range->cV,getElem?_set->bQ,getElem?_take->cR,getElem?_toArray->ef,getElem_of_mem->ed,length_append->bf,length_cons->bF,length_drop->dL,length_map->bA,length_set->bW,length_take->bT,map_append->dD,map_cons->bX,map_set->ic,mem_append->cK,mem_cons_of_mem->aR,mem_cons_self->aU,mem_iff_getElem?->en,mem_map->bE,mem_of_getElem?->aZ,mem_range->bZ,mem_singleton->aN,nodup_append->fK,nodup_cons->ee,range->aT,size_toArray->dV,zipIdx_cons->gI
open List.cons renaming injEq->cB
open Nat renaming add_assoc->dG,add_mul->dI,add_zero->dS,div_add_mod'->eZ,div_lt_iff_lt_mul->dN,eq_zero_or_pos->cJ,le_of_not_lt->fv,le_refl->aJ,le_succ->eF,le_trans->cF,lt_irrefl->dJ,lt_or_gt_of_ne->fg,min->gU,min_le_left->iC,mod_eq_of_lt->eA,mod_lt->eE,mul_add_mod->eK,mul_comm->ea,mul_le_mul_right->aL,pos_of_ne_zero->eg,sub_mul->gk,sub_self->eJ,sub_sub->iN,succ_mul->bI,zero_add->dB,zero_le->aV,zero_mul->ep
open Go.Op renaming operands->bD
open Option renaming bind_eq_some_iff->ej,getD_some->bY,isSome_iff_exists->dW,map_eq_some_iff->aG,map_some->cI
open Option.some renaming injEq->aD
open Prod.mk renaming injEq->aK
open Go.Result renaming andThen_ok->aH
open Go.Sem renaming run_bind->aQ,run_pure->bC
open Go.World renaming cell?->bV
namespace Go.Proofs.YtjgpiclllehgmaaGreat
namespace Vm
open Go
def Zlz (cx:Option Nat) (G:Nat->Nat->Nat->Prop) (n0:Nat) (w:World) (m:Nat) (α:Nat->Loc) (hw:Nat->Int) (hv:Nat->Value) (h:List Zi):RC:=
 {w,m,n0,α,hw,hv,cx,ok:=λb o n=>b<w.heap.size/\G b o n/\Zdb {w,m,n0,α,hw,hv,ok:=λ_ _ _=>False} h b o n}
section
variable {P:Program} {R:RC} {G:Nat->Nat->Nat->Prop} {h:List Zi}
theorem J4.lt {Q:AV->Value->Prop} {w:World} {s:Nat} {n:Unit->Int} {f:(Unit->Int)->List AV} {v:Value} {b:Nat} (I:J4 Q w s n f v) (H:Zd7 v b):b<w.heap.size:=by
 obtain⟨a,n,c,A,U,J⟩:=H;rcases I with⟨_,Z,G⟩|⟨Y,o,len,V,arr,ty,_,_,G,S,_⟩
 ·rw[G]at A;cases A;omega
 rw[G]at A;cases A;exact J▸(aM.1 S).1
theorem J4.heap {Q:AV->Value->Prop} {w:World} {s:Nat} {n:Unit->Int} {f:(Unit->Int)->List AV} {v:Value} {b:Nat} (I:J4 Q w s n f v) (H:Zd7 v b):∃arr ty,w.heap[b]? =some (.cells arr ty (0,0)):=by
 obtain⟨a,n,c,A,U,J⟩:=H;rcases I with⟨_,Z,G⟩|⟨Y,o,len,V,arr,ty,_,_,G,S,_⟩
 ·rw[G]at A;cases A;omega
 rw[G]at A;cases A;exact⟨arr,ty,J▸S⟩
theorem J4.mono {Q Q':AV->Value->Prop} {w w':World} {s:Nat} {n:Unit->Int} {f:(Unit->Int)->List AV} {v:Value} (Y:J4 Q w s n f v) (U:∀c u,Q c u->Q' c u) (hh:∀b,Zd7 v b->w'.heap[b]? =w.heap[b]?):J4 Q' w' s n f v:=by
 rcases Y with G|⟨b,o,len,A,arr,ty,G,Z,I,h4,h5,J⟩
 ·exact .inl G
 rcases cJ A with H|H
 ·exact .inl ⟨by omega,some ⟨b,o,none⟩,by rw[I,H,show len=0 by omega]⟩
 exact .inr ⟨b,o,len,A,arr,ty,G,Z,I,by rw[hh b ⟨_,_,_,I,H,rfl⟩];exact h4,h5,λi S=>⟨(J i S).1,λj c V=>U _ _ ((J i S).2 j c V)⟩⟩
theorem J4.isl {w:World} {ok:Nat->Nat->Nat->Prop} {s:Nat} {n:Unit->Int} {f:(Unit->Int)->List AV} {v:Value} (ha:J4 (PR w ok) w s n f v) (Y:∀b,Zd7 v b->∀o n,ok b o n):PR w ok (.isl s n f .none) v:=by
 rcases ha with⟨J,U,I⟩|⟨b,o,len,H,arr,ty,J,I,Z,h4,h5,S⟩
 ·rw[I];cases U with
  |none=>exact .isl0 _ _ _ _ J rfl
  |some U=>exact .islE _ _ _ _ U J (.inl rfl)
 rw[Z];rcases cJ H with G|G
 ·rw[G,show len=0 by omega];exact .islE _ _ _ _ ⟨b,o,none⟩ (by omega) (.inl rfl)
 have aa:len*s<=H*s:=aL _ I;refine .isl _ _ _ _ b o len H (λk j=>arr.getD (o+k*s+j) undef) J I (.inl rfl) (λh=>by cases h) (λk A=>(S k A).1) (λk j c A V=>?_) (λk j c A V=>(S k A).2 j c V) (Y b ⟨_,_,_,Z,G,rfl⟩ _ _);have ab:j<s:=by rw[<-(S k A).1];exact(aE.1 V).1
 have:(k+1)*s<=len*s:=aL _ A;rw[bI]at this;exact Z4 h4 (by omega)
theorem J4.len {Q:AV->Value->Prop} {w:World} {s:Nat} {n:Unit->Int} {f:(Unit->Int)->List AV} {a:Option Addr} {l c:Nat} (H:J4 Q w s n f (.slice a l c)):n ()=(l:Int)/\l<=c:=by
 rcases H with⟨G,U,A⟩|⟨b,o,len,J,arr,ty,G,A,I,V,Y,S⟩
 ·cases A;exact⟨G,aJ _⟩
 cases I;exact⟨G,A⟩
theorem J4.cong {Q Q':AV->Value->Prop} {w:World} {s:Nat} {n J:Unit->Int} {f I:(Unit->Int)->List AV} {v:Value} (ha:J4 Q w s n f v) (V:J ()=n ()) (hl:∀i:Nat,(i:Int)<n ()->(I λ_=>(i:Int)).length=(f λ_=>(i:Int)).length)
  (hf:∀i:Nat,(i:Int)<n ()->∀(j:Nat) c,(I λ_=>(i:Int))[j]? =some c->∃A,(f λ_=>(i:Int))[j]? =some A/\∀u,Q A u->Q' c u):J4 Q' w s J I v:=by
 rcases ha with⟨H,G⟩|⟨b,o,len,S,arr,ty,H,G,h3,Z,h5,Y⟩
 ·exact .inl ⟨V.trans H,G⟩
 refine .inr ⟨b,o,len,S,arr,ty,V.trans H,G,h3,Z,h5,λi U=>⟨(hl i (by omega)).trans (Y i U).1,λj c hj=>?_⟩⟩;obtain⟨A,e1,e2⟩:=hf i (by omega) j c hj;exact e2 _ ((Y i U).2 j A e1)
theorem HR.phys_lt (H:HR G R h) {id:Nat} {blk:Zi} {b:Nat} (hi:h[id]? =some blk) (I:ZE R id blk b):b<R.w.heap.size:=by
 have J:=H.blk id blk hi;have lt:∀ {o:Obj} {b:Nat},R.w.heap[b]? =some o->b<R.w.heap.size:=λh=>(aM.1 h).1;cases blk with
 |cells cs=>obtain⟨arr,ty,A,_⟩:=J;exact I▸lt A
 |arr s n f=>obtain⟨arr,ty,_,A,_⟩:=J;exact I▸lt A
 |mapB m=>obtain⟨es,c,A,_⟩:=J;exact I▸lt A
 |gob g=>obtain⟨o,A,_⟩:=J;exact I▸lt A
 |loop s d=>obtain⟨l,A,_⟩:=J;exact I▸lt A
 |dead=>exact I.elim
 |main=>exact I.elim
 |fro s n f=>exact I.elim
 |gar s n f=>
  obtain⟨a,n,c,A,V,Z⟩:=I;obtain⟨_,⟨_,a3,S⟩|⟨b',o,len,aa,arr,ty,_,_,S,U,_⟩⟩:=J
  ·rw[S]at A;cases A;omega
  rw[S]at A;cases A;exact Z▸lt U
 |vgar s n f=>
  obtain⟨_,J⟩:=J;exact J.lt I
 |fam z s n m g=>
  obtain⟨us,hv,i,v,hu,I⟩:=I;obtain⟨_,_,ab,Y,_,ha,_⟩:=J;rw[hv]at Y;cases Y;exact(ha i v hu).lt I
 |tok s hw=>
  obtain⟨a,n,c,A,V,Z⟩:=I;obtain⟨_,⟨_,a3,S⟩|⟨b',o,len,aa,_,_,S,U⟩⟩:=J
  ·rw[S]at A;cases A;omega
  rw[S]at A;cases A;obtain⟨arr,ty,U,_⟩:=U V;exact Z▸lt U
theorem HR.tok_cells (H:HR G R h) {id:Nat} {blk:Zi} {b:Nat} (hi:h[id]? =some blk) (hk:Zaz blk=true) (J:ZE R id blk b):∃arr ty,R.w.heap[b]? =some (.cells arr ty (0,0)):=by
 have U:=H.blk id blk hi;cases blk with
 |gar s n f=>
  obtain⟨a,n,c,A,V,Z⟩:=J;obtain⟨_,⟨_,a3,I⟩|⟨b',o,len,aa,arr,ty,_,_,I,S,_⟩⟩:=U
  ·rw[I]at A;cases A;omega
  rw[I]at A;cases A;exact⟨arr,ty,Z▸S⟩
 |vgar s n f=>exact U.2.heap J
 |fam z s n m g=>
  obtain⟨us,hv,i,v,hu,J⟩:=J;obtain⟨_,_,ab,Y,_,ha,_⟩:=U;rw[hv]at Y;cases Y;exact(ha i v hu).heap J
 |tok s hw=>
  obtain⟨a,n,c,A,V,Z⟩:=J;obtain⟨_,⟨_,a3,I⟩|⟨b',o,len,aa,_,_,I,S⟩⟩:=U
  ·rw[I]at A;cases A;omega
  rw[I]at A;cases A;obtain⟨arr,ty,S,_⟩:=S V;exact⟨arr,ty,Z▸S⟩
 |_=>cases hk
theorem BR.monoZ {R':RC} {id:Nat} {blk:Zi} (J:BR R id blk) (hr:R.le R') (ab:∀z s N m g,blk= .fam z s N m g->R'.n0<=z) (G:R'.α id=R.α id) (Y:R'.hw id=R.hw id) (V:R'.hv id=R.hv id)
  (U:∀b,ZE R id blk b->R'.w.heap[b]? =R.w.heap[b]?):BR R' id blk:=by
 cases blk with
 |cells cs=>
  obtain⟨arr,ty,A,I,H⟩:=J;exact⟨arr,ty,by rw[G,U _ rfl];exact A,by rw[G];exact I,λj c hj=>by rw[G];exact(H j c hj).mono hr⟩
 |arr s n f=>
  obtain⟨arr,ty,len,A,I,H,S⟩:=J;exact⟨arr,ty,len,by rw[G,U _ rfl];exact A,I,by rw[G];exact H,λi hi=>⟨(S i hi).1,λj c hj=>by rw[G];exact((S i hi).2 j c hj).mono hr.ok hr.keep hr.keepM⟩⟩
 |mapB m=>obtain⟨es,c,A,I⟩:=J;exact⟨es,c,by rw[G,U _ rfl];exact A,I⟩
 |gob g=>obtain⟨o,A,I,H⟩:=J;exact⟨o,by rw[G,U _ rfl];exact A,I,by rw[G];exact H.mono hr⟩
 |loop s d=>obtain⟨l,A,I,H,S,h5,h6,h7⟩:=J;exact⟨l,by rw[G,U _ rfl];exact A,I,H,S,h5,h6,h7.mono hr⟩
 |main=>exact hr.cx.trans J
 |dead=>trivial
 |fro s n f=>
  obtain⟨e,A⟩:=J;exact⟨Y.trans e,by rw[V];exact A.mono hr.ok hr.keep hr.keepM⟩
 |gar s n f=>
  obtain⟨e,A⟩:=J;refine⟨Y.trans e,?_⟩;rw[V];rcases A with A|⟨b,o,len,Z,arr,ty,A,I,H,S,h5,h6⟩
  ·exact .inl A
  rcases cJ Z with h0|h0
  ·exact .inl ⟨by omega,some ⟨b,o,none⟩,by rw[H,h0,show len=0 by omega]⟩
  exact .inr ⟨b,o,len,Z,arr,ty,A,I,H,by rw[U b ⟨_,_,_,H,h0,rfl⟩];exact S,h5,λi hi=>⟨(h6 i hi).1,λj c hj=>((h6 i hi).2 j c hj).mono hr.ok hr.keep hr.keepM⟩⟩
 |vgar s n f=>
  obtain⟨e,A⟩:=J;exact⟨Y.trans e,by rw[V];exact A.mono (λ_ _ h=>h.mono hr) U⟩
 |fam z s n m g=>
  obtain⟨hz,e,us,hv,hn,ha,hd⟩:=J;exact⟨ab _ _ _ _ _ rfl,Y.trans e,us,V.trans hv,hn,λi v hu=>(ha i v hu).mono (λ_ _ h=>h.mono hr.ok hr.keep hr.keepM) λb hp=>U b ⟨us,hv,i,v,hu,hp⟩,hd⟩
 |tok s hw=>
  obtain⟨e,A⟩:=J;refine⟨Y.trans e,?_⟩;rw[V];rcases A with A|⟨b,o,len,Z,A,I,H,S⟩
  ·exact .inl A
  exact .inr ⟨b,o,len,Z,A,I,H,λaa=>by
   obtain⟨arr,ty,S,h5⟩:=S aa
   exact⟨arr,ty,by rw[U b ⟨_,_,_,H,aa,rfl⟩];exact S,h5⟩⟩
theorem BR.mono {R':RC} {id:Nat} {blk:Zi} (I:BR R id blk) (hr:R.le R') (G:R'.n0=R.n0) (H:R'.α id=R.α id) (J:R'.hw id=R.hw id) (A:R'.hv id=R.hv id)
  (S:∀b,ZE R id blk b->R'.w.heap[b]? =R.w.heap[b]?):BR R' id blk:=
 I.monoZ hr (λz s N m g e=>by subst e;rw[G];exact I.1) H J A S
theorem BR.tokNo {id s:Nat} {hw:Unit->Int} (H:BR R id (.tok s hw)):∀G,R.hv id≠ .tuple G:=λG e=>by
 obtain⟨_,⟨_,a,A⟩|⟨b,o,len,I,_,_,A,_⟩⟩:=H<;>rw[A]at e<;>cases e
theorem BR.garNo {id s:Nat} {n:Unit->Int} {f:(Unit->Int)->List AV} (H:BR R id (.gar s n f)):∀G,R.hv id≠ .tuple G:=λG e=>by
 obtain⟨_,⟨_,a,A⟩|⟨b,o,len,I,_,_,_,_,A,_⟩⟩:=H<;>rw[A]at e<;>cases e
theorem J4.no {Q:AV->Value->Prop} {w:World} {s:Nat} {n:Unit->Int} {f:(Unit->Int)->List AV} {v:Value} (H:J4 Q w s n f v):∀G,v≠ .tuple G:=λG e=>by
 rcases H with⟨_,a,A⟩|⟨b,o,len,I,_,_,_,_,A,_⟩<;>rw[A]at e<;>cases e
theorem ZE.congr {R R':RC} {id:Nat} {blk:Zi} {b:Nat} (A:R'.α id=R.α id) (G:R'.hv id=R.hv id):ZE R' id blk b↔ZE R id blk b:=by
 cases blk<;>simp only[ZE,A,G]
theorem Qo.congr {R R':RC} {id:Nat} {blk:Zi} {b o n:Nat} (A:R'.α id=R.α id) (G:R'.hv id=R.hv id):Qo R' id blk b o n↔Qo R id blk b o n:=by
 cases blk<;>simp only[Qo,ZE,A,G]
theorem RC.le.setN0 (R:RC) (n:Nat):R.le {R with n0:=n}:=⟨aJ _,λ_ _=>rfl,λ_ _=>⟨bR _,λ_=>rfl⟩,λ_ _=>.refl _,λ_ _ _ h=>h,λ_ _ _ _ _ _=>rfl,λ_ _ _ _ h=>h,rfl⟩
theorem HR.setN0 (H:HR G R h) (n:Nat) (hn:n<=R.m) (hz:∀(id z s:Nat) (N:Unit->Int) (m:(Unit->Int)->Unit->Int) (g:(Unit->Int)->(Unit->Int)->List AV),h[id]? =some (Zi.fam z s N m g)->n<=z):HR G {R with n0:=n} h:=
 ⟨H.len,λb o l=>⟨λk=>let ⟨h1,h2,h3⟩:=(H.okd b o l).1 k;⟨h1,h2,λid x A=>(Qo.congr (R:=R) rfl rfl).2 (h3 id x A)⟩,λ⟨h1,h2,h3⟩=>(H.okd b o l).2 ⟨h1,h2,λid x A=>(Qo.congr (R:=R) (R':={R with n0:=n}) rfl rfl).1 (h3 id x A)⟩⟩,
  λid x A=>(H.blk id x A).monoZ (RC.le.setN0 R n) (λz s N m g e=>hz id z s N m g (by rw[A,e])) rfl rfl rfl λ_ _=>rfl,
  λi j V Z b S hi Y I J=>H.dis i j V Z b S hi Y ((ZE.congr (R:=R) (R':={R with n0:=n}) rfl rfl).1 I) ((ZE.congr (R:=R) (R':={R with n0:=n}) rfl rfl).1 J),H.cl,H.fresh,
  λid x b A U I=>H.tokG id x b A U ((ZE.congr (R:=R) (R':={R with n0:=n}) rfl rfl).1 I),hn⟩
theorem QD {α:Type} {l:List α} {x:α} {i:Nat} {y:α} (h:(l++[x])[i]? =some y):l[i]? =some y\/(i=l.length/\y=x):=by
 rw[List.getElem?_append]at h;split at h
 ·exact .inl h
 right;have A:i-l.length<1:=by
  have:=(aE.1 h).1;simpa using this
 have:i=l.length:=by omega
 subst this;simp at h;exact⟨rfl,h.symm⟩
theorem HR.alloc (H:HR G R h) (blk:Zi) (o:Obj) (hk:∀A,ZE A R.m blk (A.α R.m).b/\(∀b,ZE A R.m blk b->b=(A.α R.m).b)/\∀b o n,Qo A R.m blk b o n↔¬ZE A R.m blk b)
  (hb:∀A:RC,R.le A->(A.α R.m)=⟨R.w.heap.size,0⟩->A.w.heap[R.w.heap.size]? =some o->BR A R.m blk):
  ∃A,A.w={R.w with heap:=R.w.heap.push o}/\A.m=R.m+1/\A.α R.m=⟨R.w.heap.size,0⟩/\HR G A (h++[blk])/\Xs R h A (h++[blk])/\R.le A:=by
 let aa:Nat->Loc:=λi=>if i=R.m then⟨R.w.heap.size,0⟩else R.α i
 let A:=Zlz R.cx G R.n0 {R.w with heap:=R.w.heap.push o} (R.m+1) aa R.hw R.hv (h++[blk]);have S:∀i,i<R.m->A.α i=R.α i:=λi Z=>iP (by omega);have V:A.α R.m=⟨R.w.heap.size,0⟩:=iQ rfl;have U:∀ {i x},h[i]? =some x->i<R.m:=λZ=>H.len▸(aE.1 Z).1;have Y:∀b,b<R.w.heap.size->A.w.heap[b]? =R.w.heap[b]? :=λb hb=>by
  show(R.w.heap.push o)[b]? =_;rw[bK,iP (by omega)]
 have ab:∀b i,b<R.w.heap.size->A.w.cell? ⟨b,i,none⟩=R.w.cell? ⟨b,i,none⟩:=λb i hb=>by
  simp only[bV,Y b hb]
 have ae:∀b o n,R.ok b o n->A.ok b o n:=λb o n k=>by
  obtain⟨h1,h2,h3⟩:=(H.okd _ _ _).1 k;refine⟨by show b<(R.w.heap.push _).size;rw[Array.size_push];omega,h2,λid x I=>?_⟩;rcases QD I with I|⟨rfl,rfl⟩
  ·exact(Qo.congr (S id (U I)) rfl).2 (h3 id x I)
  rw[H.len];refine((hk _).2.2 b o n).2 (λJ=>?_);have:=(hk _).2.1 b J;have e:(aa R.m).b=R.w.heap.size:=by simp[aa]
  have:b=(aa R.m).b:=this;omega
 have ac:R.le A:=⟨eF _,S,λid Z=>⟨bR _,λ_=>rfl⟩,λ_ _=>.refl _,ae,λb o n k j hj=>ab b _ ((H.okd _ _ _).1 k).1,λb k es al e=>(Y b ((H.okd _ _ _).1 k).1).trans e,rfl⟩;have am:A.w.heap.size=R.w.heap.size+1:=by show(R.w.heap.push _).size=_;simp
 have ah:(h++[blk]).length=A.m:=by rw[bf,H.len];rfl
 refine⟨A,rfl,rfl,V,⟨ah,λb o n=>Iff.rfl,λid x I=>?_,λi j bi bj b ai Z hj J=>?_,H.cl,λb o n hb=>H.fresh b o n (by omega),λid x b Z aj J o n=>?_,Nat.le_succ_of_le H.n0m⟩,?_,ac⟩
 ·rcases QD I with I|⟨rfl,rfl⟩
  ·exact(H.blk id x I).mono ac rfl (S id (U I)) rfl rfl (λb J=>Y b (H.phys_lt I J))
  rw[H.len];exact hb A ac V (by show(R.w.heap.push _)[_]? =_;simp)
 ·have new:∀ {i x},(h++[blk])[i]? =some x->ZE A i x b->(b<R.w.heap.size/\h[i]? =some x/\ZE R i x b)\/(b=R.w.heap.size/\i=R.m):=λ{i x} Z J=>by
   rcases QD Z with I|⟨rfl,rfl⟩
   ·have:=(ZE.congr (S i (U I)) rfl).1 J;exact .inl ⟨H.phys_lt I this,I,this⟩
   rw[H.len]at J|-;have:=(hk _).2.1 b J;rw[V]at this;exact .inr ⟨this,rfl⟩
  intro ak;rcases new Z J with⟨a1,a2,a3⟩|⟨a1,a2⟩<;>rcases new hj ak with⟨b1,b2,b3⟩|⟨b1,b2⟩
  ·exact H.dis i j bi bj b ai a2 b2 a3 b3
  ·omega
  ·omega
  omega
 ·rcases QD Z with I|⟨rfl,rfl⟩
  ·exact H.tokG id x b I aj ((ZE.congr (S id (U I)) rfl).1 J) o n
  rw[H.len]at J;have:=(hk _).2.1 b J;rw[V]at this;exact H.fresh b o n (by rw[this];exact aJ _)
 refine⟨rfl,rfl,rfl,rfl,by omega,eF _,S,ae,λb o n k j hj=>ab b _ ((H.okd _ _ _).1 k).1,λb hb _=>Y b hb,λid x b I J=>?_⟩;rcases QD I with I|⟨rfl,rfl⟩
 ·exact .inr ⟨id,x,I,(ZE.congr (S id (U I)) rfl).1 J,.inl rfl⟩
 rw[H.len]at J;have:=(hk _).2.1 b J;rw[V]at this;exact .inl (by rw[this];exact aJ _)
def αk:Zi->Bool
 |.cells _|.arr .. |.mapB _|.loop .. |.gob _=>true
 |_=>false
theorem ZfF {blk:Zi} (h:αk blk=true) (R:RC) (id b:Nat):ZE R id blk b↔(R.α id).b=b:=by
 cases blk<;>first|exact Iff.rfl|cases h
theorem ZjG {blk:Zi} (h:αk blk=true) (R:RC) (id b o n:Nat):Qo R id blk b o n↔¬(R.α id).b=b:=by
 cases blk<;>first|exact Iff.rfl|cases h
theorem HR.upd (H:HR G R h) {id:Nat} {blk blk':Zi} (hi:h[id]? =some blk) (hk:αk blk=true) (Y:αk blk'=true) (w':World)
  (ap:w'.os=R.w.os) (am:w'.tape=R.w.tape) (aj:w'.output=R.w.output) (ar:w'.heap.size=R.w.heap.size) (hh:∀b,b≠(R.α id).b->w'.heap[b]? =R.w.heap[b]?)
  (hb:∀I:RC,R.le I->I.α=R.α->I.w=w'->BR I id blk'):
  ∃I,I.w=w'/\I.m=R.m/\I.α=R.α/\HR G I (h.set id blk')/\Xs R h I (h.set id blk')/\R.le I:=by
 let I:=Zlz R.cx G R.n0 w' R.m R.α R.hw R.hv (h.set id blk');have S:∀ {i x},(h.set id blk')[i]? =some x->(i=id/\x=blk')\/(i≠id/\h[i]? =some x):=λ{i x} A=>by
  rw[bQ]at A;split at A
  ·rename_i e;subst e;split at A
   ·simp only[aD]at A;exact .inl ⟨rfl,A.symm⟩
   cases A
  rename_i e;exact .inr ⟨λh=>e h.symm,A⟩
 have V:∀b i,b≠(R.α id).b->I.w.cell? ⟨b,i,none⟩=R.w.cell? ⟨b,i,none⟩:=λb i hb=>by
  show w'.cell? _=_;simp only[bV,hh b hb]
 have U:∀b o n,R.ok b o n->b≠(R.α id).b:=λb o n k e=>by
  have:=((H.okd _ _ _).1 k).2.2 id blk hi;rw[ZjG hk]at this;exact this e.symm
 have ah:∀b o n,R.ok b o n->I.ok b o n:=λb o n k=>by
  obtain⟨h1,h2,h3⟩:=(H.okd _ _ _).1 k;refine⟨by show b<w'.heap.size;omega,h2,λi x A=>?_⟩;rcases S A with⟨rfl,rfl⟩|⟨_,A⟩
  ·exact(ZjG Y _ _ _ _ _).2 (λe=>U b o n k e.symm)
  exact(Qo.congr rfl rfl).2 (h3 i x A)
 have ac:R.le I:=⟨aJ _,λ_ _=>rfl,λ_ _=>⟨bR _,λ_=>rfl⟩,λ_ _=>.refl _,ah,λb o n k j _=>V b _ (U b o n k),λb k es aq e=>(hh b (U b 0 1 k)).trans e,rfl⟩;have aa:∀ {i x b},(h.set id blk')[i]? =some x->ZE I i x b->∃y,h[i]? =some y/\ZE R i y b:=λ{i x b} A J=>by
  rcases S A with⟨rfl,rfl⟩|⟨_,A⟩
  ·exact⟨blk,hi,(ZfF hk _ _ _).2 ((ZfF Y _ _ _).1 J)⟩
  exact⟨x,A,(ZE.congr rfl rfl).1 J⟩
 refine⟨I,rfl,rfl,rfl,⟨by rw[bW];exact H.len,λ_ _ _=>Iff.rfl,λi x A=>?_,λi j bi bj b ak ab al J Z=>?_,H.cl,λb o n ao=>H.fresh b o n (by have:w'.heap.size<=b:=ao;omega),λi y b ab ae J o n=>?_,H.n0m⟩,?_,ac⟩
 ·rcases S A with⟨rfl,rfl⟩|⟨ai,A⟩
  ·exact hb I ac rfl rfl
  refine(H.blk i x A).mono ac rfl rfl rfl rfl (λb J=>hh b (λe=>?_));exact H.dis i id x blk b ai A hi J ((ZfF hk _ _ _).2 e.symm)
 ·obtain⟨y,hy,J⟩:=aa ab J;obtain⟨z,hz,Z⟩:=aa al Z;exact H.dis i j y z b ak hy hz J Z
 ·rcases S ab with⟨rfl,rfl⟩|⟨_,A⟩
  ·exact absurd ae (by revert Y;cases y<;>simp[αk,Zaz])
  exact H.tokG i y b A ae ((ZE.congr rfl rfl).1 J) o n
 refine⟨rfl,ap,am,aj,by show _<=w'.heap.size;omega,aJ _,λ_ _=>rfl,ah,λb o n k j _=>V b _ (U b o n k),λb _ hn=>hh b (λe=>hn id blk hi ((ZfF hk _ _ _).2 e.symm)),λi x b A J=>?_⟩;obtain⟨y,hy,J⟩:=aa A J;exact .inr ⟨i,y,hy,J,.inl rfl⟩
theorem HR.allocCells (H:HR G R h) (cs:List AV) (us:Array Value) (ty:TypeId) (hr:Yf R cs us):
  ∃A,A.w={R.w with heap:=R.w.heap.push (.cells us ty)}/\A.m=R.m+1/\A.α R.m=⟨R.w.heap.size,0⟩/\HR G A (h++[.cells cs])/\Xs R h A (h++[.cells cs])/\R.le A:=
 H.alloc (.cells cs) (.cells us ty) (λA=>⟨rfl,λb S=>S.symm,λb o n=>Iff.rfl⟩) (λA J I V=>by
  refine⟨us,ty,by rw[I];exact V,by rw[I,hr.1];simp,λj c U=>?_⟩;rw[I,dB]
  exact(hr.2 j c U).mono J)
def ZlU:AV->Bool
 |.gd _ _|.ob _ _|.undef|.agg _|.tup _=>false
 |_=>true
theorem Zkk {a:AV} {u:Value} (G:ZlU a=true) (h:VR R a u):u.oneCell'=true:=by
 cases h with
 |pure _ _ A=>cases A<;>rfl
 |own _ _ _ _ _ _ A _ _=>cases A<;>rfl
 |nn _ _ _ _ A _=>cases A<;>rfl
 |undef _=>cases G
 |agg _ _ _ _=>cases G
 |tup _ _ _ _=>cases G
 |gd _ _ _ _=>cases G
 |ob _ _ _ _ _=>cases G
 |_=>rfl
theorem XW (A:Array Value) (vs:List Value) (k j:Nat) (H:k+vs.length<=A.size):
  (A.toList.take k++vs++A.toList.drop (k+vs.length)).toArray.getD j undef=if k<=j/\j<k+vs.length then vs.getD (j-k) undef else A.getD j undef:=by
 rw[aI,aI];simp only[ef,aA];have G:(A.toList.take k).length=k:=by simp;omega
 by_cases h1:j<k
 ·rw[iP (by omega),dU,bP (by omega),cR,iQ h1,bN]
 by_cases h2:j<k+vs.length
 ·rw[iQ ⟨by omega,h2⟩,dU,dE (by omega),G,bP (by omega)]
 rw[iP (by omega),dE (by simp;omega)];simp only[bf,G,cT,bN];rw[show k+vs.length+(j-(k+vs.length))=j from by omega]
theorem ZaU:∀(l z:List AV) (A j:Nat),A+l.length<=z.length->(putC z A l)[j]? =if A<=j/\j<A+l.length then l[j-A]? else z[j]?
 |[],z,A,j,_=>by simp[putC];omega
 |a::l,z,A,j,hl=>by
  simp only[putC];rw[ZaU l (z.set A a) (A+1) j (by simp at hl|-;omega)];simp only[bF]at hl|-;by_cases h1:A+1<=j/\j<A+1+l.length
  ·rw[iQ h1,iQ (by omega),show j-A=(j-(A+1))+1 from by omega,cM]
  rw[iP h1,bQ];by_cases h2:A=j
  ·subst h2;rw[iQ rfl,iQ (by omega),iQ (by omega)];simp
  rw[iP h2,iP (by omega)]
theorem HR.store (H:HR G R h) {id off:Nat} {cs:List AV} (hi:h[id]? =some (.cells cs)) (l:List AV) (vs:List Value) (ac:l.length=vs.length) (V:off+l.length<=cs.length)
  (ab:∀a∈l,ZlU a=true) (hv:∀j c,l[j]? =some c->VR R c (vs.getD j undef)):
  ∃A,(storeCells ⟨(R.α id).b,(R.α id).o+off,none⟩ vs).run P R.w= .ok () A.w/\A.m=R.m/\A.α=R.α/\HR G A (h.set id (.cells (putC cs off l)))/\Xs R h A (h.set id (.cells (putC cs off l)))/\R.le A:=by
 obtain⟨arr,ty,h1,h2,h3⟩:=H.blk id _ hi;have Y:∀v∈vs,v.oneCell'=true:=λv aa=>by
  obtain⟨j,J,rfl⟩:=ed aa;have U:j<l.length:=by omega
  have:=hv j l[j] (aC U);rw[aA,aC J]at this;exact Zkk (ab _ (List.getElem_mem U)) this
 have Z:=run_storeCells_at P (R.α id).b ((R.α id).o+off) ty vs 0 arr R.w h1 (by omega) Y;obtain⟨A,hw,hm,I,H',hx,S⟩:=H.upd hi rfl (blk':=.cells (putC cs off l)) rfl
  (R.w.setRow (R.α id).b (arr.toList.take ((R.α id).o+off+0)++vs++arr.toList.drop ((R.α id).o+off+0+vs.length)).toArray) rfl rfl rfl (by simp[World.setRow]) (λb hb=>setRow_other R.w (R.α id).b b _ hb) (λA S I hw=>by
   refine⟨(arr.toList.take ((R.α id).o+off+0)++vs++arr.toList.drop ((R.α id).o+off+0+vs.length)).toArray,ty,?_,?_,λj c J=>?_⟩
   ·rw[hw,I];exact setRow_heap R.w _ arr _ ty _ h1
   ·rw[Yh,I];simp;omega
   rw[I,XW arr vs ((R.α id).o+off+0) _ (by omega)];rw[ZaU l cs off j V]at J;by_cases hc:off<=j/\j<off+l.length
   ·rw[iQ hc]at J;rw[iQ (by omega),show(R.α id).o+j-((R.α id).o+off+0)=j-off from by omega];exact(hv _ c J).mono S
   rw[iP hc]at J;rw[iP (by omega)]
   exact(h3 j c J).mono S)
 exact⟨A,by rw[Z,hw],hm,I,H',hx,S⟩
end
end Vm
namespace Vm
open Go
section
variable {P:Program} {R:RC} {G:Nat->Nat->Nat->Prop} {h:List Zi}
theorem HR.make (H:HR G R h) (o:Obj):∃A,A.w={R.w with heap:=R.w.heap.push o}/\A.m=R.m/\A.α=R.α/\A.hv=R.hv/\A.hw=R.hw/\HR G A h/\Xs R h A h/\R.le A/\∀o' n,A.ok R.w.heap.size o' n:=by
 let A:=Zlz R.cx G R.n0 {R.w with heap:=R.w.heap.push o} R.m R.α R.hw R.hv h;have J:∀b,b<R.w.heap.size->A.w.heap[b]? =R.w.heap[b]? :=λb U=>by
  show(R.w.heap.push o)[b]? =_;rw[bK,iP (by omega)]
 have V:∀b i,b<R.w.heap.size->A.w.cell? ⟨b,i,none⟩=R.w.cell? ⟨b,i,none⟩:=λb i U=>by
  simp only[bV,J b U]
 have ah:A.w.heap.size=R.w.heap.size+1:=by show(R.w.heap.push _).size=_;simp
 have Y:∀b o n,R.ok b o n->A.ok b o n:=λb o n k=>by
  obtain⟨h1,h2,h3⟩:=(H.okd _ _ _).1 k;exact⟨by show b<A.w.heap.size;omega,h2,λid x S=>(Qo.congr rfl rfl).2 (h3 id x S)⟩
 have Z:R.le A:=⟨aJ _,λ_ _=>rfl,λ_ _=>⟨bR _,λ_=>rfl⟩,λ_ _=>.refl _,Y,λb o n k j hj=>V b _ ((H.okd _ _ _).1 k).1,λb k es ae e=>(J b ((H.okd _ _ _).1 k).1).trans e,rfl⟩
 refine⟨A,rfl,rfl,rfl,rfl,rfl,⟨H.len,λ_ _ _=>Iff.rfl,λid x S=>(H.blk id x S).mono Z rfl rfl rfl rfl (λb I=>J b (H.phys_lt S I)),λi j bi bj b aa hi hj I ab=>H.dis i j bi bj b aa hi hj ((ZE.congr rfl rfl).1 I) ((ZE.congr rfl rfl).1 ab),H.cl,
  λb o n U=>H.fresh b o n (by omega),λid x b hi hk I o n=>H.tokG id x b hi hk ((ZE.congr rfl rfl).1 I) o n,H.n0m⟩,
  ⟨rfl,rfl,rfl,rfl,by omega,aJ _,λ_ _=>rfl,Y,λb o n k j hj=>V b _ ((H.okd _ _ _).1 k).1,λb U _=>J b U,λid x b S I=>.inr ⟨id,x,S,(ZE.congr rfl rfl).1 I,.inl rfl⟩⟩,Z,λo' n=>?_⟩
 refine⟨by show R.w.heap.size<A.w.heap.size;omega,H.fresh _ _ _ (aJ _),λid x S=>?_⟩;have hn:∀ {b},ZE A id x b->b<R.w.heap.size:=λI=>H.phys_lt S ((ZE.congr rfl rfl).1 I);cases x with
 |tok s hw=>exact λa len ac hv hl U=>absurd (hn (show ZE A id (.tok s hw) R.w.heap.size from⟨a,len,ac,hv,hl,U⟩)) (dJ _)
 |_=>exact λI=>absurd (hn I) (dJ _)
theorem HR.room (H:HR G R h) (id m':Nat) (blk':Zi) (ac:Int) (aa:Value) (w':World) (h':List Zi)
  (bg:h'.length=m') (hm:R.m<=m') (aj:∀i x,h'[i]? =some x->(i=id/\x=blk')\/(i≠id/\h[i]? =some x))
  (ap:id<R.m->∃S,h[id]? =some S/\Zaz S=true/\R.hw id<=ac/\(R.hw id=ac->aa=R.hv id)/\Zhl (R.hv id) aa)
  (PO:Nat->Prop) (al:∀b,PO b↔(id<R.m/\∃S,h[id]? =some S/\Zaz S=true/\ZE R id S b))
  (bz:w'.os=R.w.os) (bw:w'.tape=R.w.tape) (bk:w'.output=R.w.output) (bc:R.w.heap.size<=w'.heap.size)
  (hh:∀b,b<R.w.heap.size->¬PO b->w'.heap[b]? =R.w.heap[b]?)
  (am:∀b o n,R.ok b o n->∀j,j<n->w'.cell? ⟨b,o+j,none⟩=R.w.cell? ⟨b,o+j,none⟩)
  (bt:∀A:RC,R.le A->A.w=w'->A.hw id=ac->A.hv id=aa->
   (A.n0=R.n0/\∀b o n,b<w'.heap.size->G b o n->(R.w.heap.size<=b\/PO b)->Qo A id blk' b o n->A.ok b o n)->BR A id blk')
  (bp:∀A:RC,A.hv id=aa->A.w=w'->∀b,ZE A id blk' b->R.w.heap.size<=b\/PO b)
  (bl:∀A:RC,A.hv id=aa->∀b o n,R.ok b o n->Qo A id blk' b o n)
  (ce:αk blk'=false):
  ∃A,A.w=w'/\A.m=m'/\A.hv id=aa/\A.hw id=ac/\HR G A h'/\Xs R h A h'/\R.le A/\
   ∀b o n,b<w'.heap.size->G b o n->(R.w.heap.size<=b\/PO b)->Qo A id blk' b o n->A.ok b o n:=by
 let A:=Zlz R.cx G R.n0 w' m' R.α (λi=>if i=id then ac else R.hw i) (λi=>if i=id then aa else R.hv i) h';have ab:∀i,i≠id->A.hv i=R.hv i:=λi hi=>iP hi;have a9:∀i,i≠id->A.hw i=R.hw i:=λi hi=>iP hi;have ah:A.hv id=aa:=iQ rfl;have ar:A.hw id=ac:=iQ rfl;have ca:∀ {i x},h[i]? =some x->i<R.m:=λhi=>H.len▸(aE.1 hi).1;have be:∀b o n,R.ok b o n->A.ok b o n:=λb o n k=>by
  obtain⟨Y,Z,h3⟩:=(H.okd _ _ _).1 k;refine⟨by show b<w'.heap.size;omega,Z,λi x I=>?_⟩;rcases aj i x I with⟨rfl,rfl⟩|⟨J,I⟩
  ·exact(Qo.congr (R:=A) rfl rfl).1 (bl A ah b o n k)
  exact(Qo.congr (R:=R) (R':=A) rfl (ab i J)).2 (h3 i x I)
 have au:R.le A:=⟨hm,λ_ _=>rfl,λi hi=>by
  by_cases e:i=id
  ·subst e;obtain⟨_,_,_,Y,Z,_⟩:=ap hi;rw[ar,ah];exact⟨Y,Z⟩
  ·rw[a9 i e,ab i e];exact⟨bR _,λ_=>rfl⟩,λi hi=>by
  by_cases e:i=id
  ·subst e;obtain⟨_,_,_,_,_,Y⟩:=ap hi;rw[ah];exact Y
  ·rw[ab i e]
   exact .refl _,be,am,(λb k es cf e=>by
  rw[<-e];refine hh b ((H.okd _ _ _).1 k).1 λU=>?_;obtain⟨_,S,Y,Z,h3⟩:=(al b).1 U;obtain⟨arr,ty,h4⟩:=H.tok_cells Y Z h3;rw[h4]at e
  cases e),rfl⟩
 have ai:∀ {i x b},h'[i]? =some x->ZE A i x b->(i=id/\x=blk'/\(R.w.heap.size<=b\/PO b))\/(i≠id/\h[i]? =some x/\ZE R i x b):=λ{i x b} I U=>by
  rcases aj i x I with⟨rfl,rfl⟩|⟨J,I⟩
  ·exact .inl ⟨rfl,rfl,bp A ah rfl b U⟩
  exact .inr ⟨J,I,(ZE.congr (R:=R) (R':=A) rfl (ab i J)).1 U⟩
 have ak:∀ {i x b},i≠id->h[i]? =some x->ZE R i x b->(R.w.heap.size<=b\/PO b)->False:=λ{i x b} J I U V=>by
  rcases V with V|V
  ·have:=H.phys_lt I U;omega
  obtain⟨_,S,Y,_,Z⟩:=(al b).1 V;exact H.dis i id x _ b J I Y U Z
 have ao:∀b o n,b<w'.heap.size->G b o n->(R.w.heap.size<=b\/PO b)->Qo A id blk' b o n->A.ok b o n:=λb o n hb hg b9 ha=>by
  refine⟨hb,hg,λi x I=>?_⟩;rcases aj i x I with⟨rfl,rfl⟩|⟨J,I⟩
  ·exact(Qo.congr (R:=A) rfl rfl).1 ha
  have aw:∀ {b'},ZE R i x b'->b'≠b:=λU e=>ak J I (e▸U) b9;cases x with
  |tok s1 cg=>
   intro a len bq hv hl bx;replace hv:A.hv i=_:=hv;rw[ab i J]at hv;exact absurd bx (aw ⟨a,len,bq,hv,hl,rfl⟩)
  |_=>exact λU=>aw ((ZE.congr (R:=R) (R':=A) rfl (ab i J)).1 U) rfl
 refine⟨A,rfl,rfl,ah,ar,⟨bg,λ_ _ _=>Iff.rfl,λi x I=>?_,λi j bi bj b ba hi hj U bo=>?_,H.cl,λb o n hb=>H.fresh b o n (cF bc hb),λi x b hi bm U o n=>?_,cF H.n0m hm⟩,?_,au,ao⟩
 ·rcases aj i x I with⟨rfl,rfl⟩|⟨J,I⟩
  ·exact bt A au rfl ar ah ⟨rfl,ao⟩
  refine(H.blk i x I).mono au rfl rfl (a9 i J) (ab i J) (λb U=>hh b (H.phys_lt I U) (λV=>ak J I U (.inr V)))
 ·rcases ai hi U with⟨rfl,_,V⟩|⟨J,I,ae⟩<;>rcases ai hj bo with⟨rfl,_,bu⟩|⟨bh,az,aq⟩
  ·exact ba rfl
  ·exact ak bh az aq V
  ·exact ak J I ae bu
  exact H.dis i j bi bj b ba I az ae aq
 ·rcases ai hi U with⟨rfl,_,V|V⟩|⟨J,I,ae⟩
  ·exact H.fresh b o n V
  ·obtain⟨_,S,Y,Z,h3⟩:=(al b).1 V;exact H.tokG i S b Y Z h3 o n
  exact H.tokG i x b I bm ae o n
 refine⟨rfl,bz,bw,bk,bc,hm,λ_ _=>rfl,be,am,λb hb hn=>hh b hb (λV=>?_),λi x b I U=>?_⟩
 ·obtain⟨_,S,Y,_,Z⟩:=(al b).1 V;exact hn id _ Y Z
 rcases ai I U with⟨rfl,_,V|V⟩|⟨J,I,ae⟩
 ·exact .inl V
 ·obtain⟨_,S,Y,_,Z⟩:=(al b).1 V;exact .inr ⟨_,_,Y,Z,.inl rfl⟩
 exact .inr ⟨_,x,I,ae,.inl rfl⟩
theorem HR.token (H:HR G R h) (id m' s:Nat) (I:Unit->Int) (U:Value) (w':World) (h':List Zi)
  (ae:h'.length=m') (hm:R.m<=m') (ah:∀i x,h'[i]? =some x->(i=id/\x= .tok s I)\/(i≠id/\h[i]? =some x)) (aw:h'[id]? =some (.tok s I))
  (aa:id<R.m->∃s0 V,h[id]? =some (.tok s0 V)/\R.hw id<=I ()/\(R.hw id=I ()->U=R.hv id))
  (PO:Nat->Prop) (ao:∀b,PO b↔(id<R.m/\∃s0 V,h[id]? =some (.tok s0 V)/\ZE R id (.tok s0 V) b))
  (au:w'.os=R.w.os) (ar:w'.tape=R.w.tape) (aj:w'.output=R.w.output) (aq:R.w.heap.size<=w'.heap.size)
  (hh:∀b,b<R.w.heap.size->¬PO b->w'.heap[b]? =R.w.heap[b]?)
  (ab:∀b o n,R.ok b o n->∀j,j<n->w'.cell? ⟨b,o+j,none⟩=R.w.cell? ⟨b,o+j,none⟩)
  (ap:(I ()=0/\∃a:Option Addr,U= .slice a 0 0)\/∃(b o len A:Nat),I ()=(len:Int)/\len<=A/\U= .slice (some ⟨b,o,none⟩) len A/\
    (len<A->∃(arr:Array Value) (ty:TypeId),w'.heap[b]? =some (.cells arr ty (0,0))/\o+A*s<=arr.size))
  (am:∀a n c,U= .slice (some a) n c->n<c->R.w.heap.size<=a.block\/PO a.block)
  (ak:∀b o n,R.ok b o n->∀a len A,U= .slice (some a) len A->len<A->a.block=b->o+n<=a.off+len*s):
  ∃S,S.w=w'/\S.m=m'/\S.hv id=U/\S.hw id=I ()/\HR G S h'/\Xs R h S h'/\R.le S/\
   ∀b o n,b<w'.heap.size->G b o n->(R.w.heap.size<=b\/PO b)->(∀a len A,U= .slice (some a) len A->len<A->a.block=b->o+n<=a.off+len*s)->S.ok b o n:=by
 have ac:∀b,PO b↔(id<R.m/\∃Z,h[id]? =some Z/\Zaz Z=true/\ZE R id Z b):=λb=>by
  rw[ao];constructor
  ·rintro⟨J,s0,V,Y,h3⟩;exact⟨J,_,Y,rfl,h3⟩
  rintro⟨J,Z,Y,h3,h4⟩;obtain⟨s0,V,h5,_⟩:=aa J;rw[h5]at Y;cases Y;exact⟨J,s0,V,h5,h4⟩
 obtain⟨S,a1,a2,a3,a4,a5,a6,a7,a8⟩:=H.room id m' (.tok s I) (I ()) U w' h' ae hm ah (λhi=>let ⟨s0,V,J,Y,h3⟩:=aa hi;⟨_,J,rfl,Y,h3,.of (H.blk id _ J).tokNo⟩) PO ac au ar aj aq hh ab
  (λS _ hw ai al _=>⟨ai,by rw[al,hw];exact ap⟩) (λS hv hw b ⟨a,n,c,J,Y,h3⟩=>h3▸am a n c (hv.symm.trans J) Y) (λS hv b o n hk a len A J=>ak b o n hk a len A (hv.symm.trans J)) rfl
 exact⟨S,a1,a2,a3,a4,a5,a6,a7,λb o n J Y h3 h4=>a8 b o n J Y h3 λa len A hv=>h4 a len A (a3.symm.trans hv)⟩
end
end Vm
namespace Vm
open Go
def purify:AV->AV
 |.isl s n f (.own _)=>.isl s n f .none
 |.isl s n f .nn=>.isl s n f .none
 |c=>c
def XY:AV->Bool
 |.bool _|.int _ _|.str _|.nilptr|.nilmap|.nilfn|.iptr _ _|.imap _ _ _|.cch _=>true
 |.isl _ _ _ (.own _)=>false
 |.isl _ _ _ .nn=>false
 |.isl _ _ _ _=>true
 |_=>false
def Z2 (n:Unit->Int) (f g:(Unit->Int)->List AV):(Unit->Int)->List AV:=λe=>if e ()<n ()then f e else g (λ_=>e ()-n ())
def Zay (P:Program) (e:TypeId) (s:Nat):Bool:=match P.info? e with
 |some i=>(match i.zero with
  |some z=>ZK z.cells.size s&&ZK i.size s&&Qd i.bytes 1000000
  |none=>false)
 |none=>false
def ZbD (N:Unit->Int) (m:(Unit->Int)->Unit->Int) (A:Unit->Int):(Unit->Int)->Unit->Int:=λe _=>bif decide (e ()<N ())then m e ()else A ()
def Jc (N:Unit->Int) (g:(Unit->Int)->(Unit->Int)->List AV) (A:(Unit->Int)->List AV):(Unit->Int)->(Unit->Int)->List AV:=λe=>if e ()<N ()then g e else A
def Zje:List AV->Option (Nat×Nat×(Unit->Int))
 |[]=>none
 |.gsl k n::_=>some (0,k,n)
 |_::r=>match Zje r with
  |some (j,k,n)=>some (j+1,k,n)
  |none=>none
def Zba (A:Bool) (q:Nat) (n:Unit->Int) (s:Nat) (cs:List AV) (h:List Zi):Option (AV×List Zi×Cd):=
 if A then(match h[q]?,h[q+1]?,Zje cs with
  |some (.vgar s' n0 f),some (.fam z sf N m g),some (j,k,nk)=>(match h[k]? with
   |some (.gar sk n1 f1)=>if ZK s s'&&ZK sf sk&&Qd z k&&ZK cs.length s&&(cs.set j (.int .i64 λ_=>0)).all XY then
     some (.gsl q (λ_=>n0 ()+1),((h.set k .dead).set (q+1) (.fam z sf (λ_=>N ()+1) (ZbD N m n1) (Jc N g f1))).set q (.vgar s (λ_=>n0 ()+1) (Z2 n0 f λ_=>cs.set j (.nsub (q+1) n0 n1))),
      [dd λ_=>n ()=n0 ()/\N ()=n0 ()/\nk ()=n1 (),dd λ_=>n0 ()+1<=1000000])else none
   |_=>none)
  |_,_,_=>none)else none
def ZcR (A:Bool) (s:Nat) (n:Unit->Int) (f:(Unit->Int)->List AV) (id:Nat) (a l:Unit->Int) (h:List Zi):Option (AV×List Zi×Cd):=
 if A then(match h[id]? with
  |some (.fam _ sf _ m g)=>if ZK s sf then some (.gsl h.length (λ_=>n ()+l ()),h++[.gar s (λ_=>n ()+l ()) (Z2 n f (g a))],[dd λ_=>n ()=0/\l ()=m a (),dd λ_=>n ()+l ()<=1000000])else none
  |_=>none)else none
def Zd1 (gr:Bool) (P:Program) (t G:TypeId) (dst A:AV) (h:List Zi):Option (AV×List Zi×Cd):=
 match P.underlying t,P.underlying G with
 |some (.slice e),some (.slice _)=>(match dst,A with
  |.isl s₁ n f tk,.isl sz m g _=>if Zay P e sz then(match tk with
   |.nil=>some (.isl sz (λ_=>n ()+m ()) (Z2 n f g) (.own h.length),h++[.tok sz λ_=>n ()+m ()],[dd λ_=>n ()+m ()<=1000000])
   |.exact=>if ZK s₁ sz then(if gr then some (.gsl h.length (λ_=>n ()+m ()),h++[.gar sz (λ_=>n ()+m ()) (Z2 n f g)],[dd λ_=>n ()=0,dd λ_=>n ()+m ()<=1000000])else some (.isl sz (λ_=>n ()+m ()) (Z2 n f g) (.own h.length),h++[.tok sz λ_=>n ()+m ()],[dd λ_=>n ()+m ()<=1000000]))else none
   |.own id=>if ZK s₁ sz then(match h[id]? with
    |some (.tok s hw)=>if ZK s sz then some (.isl sz (λ_=>n ()+m ()) (Z2 n f g) (.own id),h.set id (.tok sz λ_=>n ()+m ()),[dd λ_=>n ()=hw (),dd λ_=>n ()+m ()<=1000000])else none
    |_=>none)else none
   |.none=>none
   |.nn=>none)else none
  |.gsl id n,.isl sz m g _=>if Zay P e sz then(match h[id]? with
   |some (.gar s n0 f)=>if ZK s sz then some (.gsl id (λ_=>n0 ()+m ()),h.set id (.gar sz (λ_=>n0 ()+m ()) (Z2 n0 f g)),[dd λ_=>n ()=n0 (),dd λ_=>n0 ()+m ()<=1000000])else none
   |_=>none)else none
  |.gsl q n,.lit s cs=>Zba (Zay P e s) q n s cs h
  |.isl s n f .exact,.nsub id a l=>ZcR (gr&&Zay P e s) s n f id a l h
  |_,_=>none)
 |_,_=>none
section
variable {P:Program} {R:RC} {G:Nat->Nat->Nat->Prop} {h:List Zi}
theorem VR.purify {c:AV} {u:Value} (hv:VR R c u) (H:XY (purify c)=true):PR R.w R.ok (purify c) u:=by
 cases hv with
 |pure _ _ h=>
  have:Vm.purify c=c:=by
   cases h with
   |isl0 _ _ _ tk _ A=>cases tk<;>first|rfl|cases A
   |islE _ _ _ tk _ _ A=>rcases A with rfl|rfl<;>rfl
   |isl _ _ _ tk _ _ _ _ _ _ _ A=>rcases A with rfl|rfl<;>rfl
   |_=>rfl
  rw[this];exact h
 |own s n f id v J G S I=>exact G
 |nn s n f v G _=>exact G
 |_=>cases H
theorem J9 (w:World) (a:Addr) (s x y:Nat):(Builtin.firstCells s 0 (.slice (some a) x y)).run P w= .ok #[] w:=by
 have:=run_loadCells (P:=P) w a 0 (λ_=>undef) (λk A=>by omega);simpa [Builtin.firstCells]using this
theorem XN {s:Nat} {m:Unit->Int} {g:(Unit->Int)->List AV} {x:Value} (hx:PR R.w R.ok (.isl s m g .none) x):
  ∃(V:Option Addr) (n Y:Nat) (G:Nat->Nat->Value) (new:List Value),x= .slice V n Y/\m ()=(n:Int)/\n<=Y/\(V=none->Y=0)/\new.length=n*s/\
   (∀w:World,w.heap=R.w.heap->(Builtin.firstCells s n x).run P w= .ok new.toArray w)/\
   (∀i j,i<n->j<s->new[i*s+j]? =some (G i j))/\
   (∀i:Nat,i<n->(g (λ_=>(i:Int))).length=s)/\
   (∀i j c,i<n->(g (λ_=>(i:Int)))[j]? =some c->PR R.w R.ok c (G i j))/\
   (∀a,V=some a->0<n->∃b o,a=⟨b,o,none⟩/\R.ok b o (n*s)/\∀i j,i<n->j<s->R.w.cell? ⟨b,o+i*s+j,none⟩=some (G i j)):=by
 cases hx with
 |isl0 _ _ _ _ hz _=>
  exact⟨none,0,0,λ_ _=>undef,[],rfl,by omega,aJ _,λ_=>rfl,by simp,λw _=>rfl,λi j A=>by omega,λi A=>by omega,λi j c A=>by omega,λa h=>by cases h⟩
 |islE _ _ _ _ a hz _=>
  exact⟨some a,0,0,λ_ _=>undef,[],rfl,by omega,aJ _,(λh=>by cases h),by simp,(λw _=>J9 w a s 0 0),λi j A=>by omega,λi A=>by omega,λi j c A=>by omega,λa _ h=>by omega⟩
 |isl _ _ _ _ b o len aa G hn hc ht he hl h1 h2 h3=>
  have H:∀i j,i<len->j<s->R.w.cell? ⟨b,o+i*s+j,none⟩=some (G i j):=λi j A S=>
   h1 i j _ A (aC (by rw[hl i A];exact S))
  have U:∀k,k<len*s->0<s/\k/s<len/\k%s<s/\k/s*s+k%s=k:=λk J=>by
   have I:0<s:=eg (λe=>by subst e;simp at J);exact⟨I,(dN I).2 J,eE _ I,eZ k s⟩
  refine⟨some ⟨b,o,none⟩,len,aa,G,(aT (len*s)).map λk=>G (k/s) (k%s),rfl,hn,hc,(λh=>by cases h),by simp,λw hw=>?_,λi j A S=>?_,hl,h2,λa h _=>?_⟩
  ·have:=run_loadCells (P:=P) w ⟨b,o,none⟩ (len*s) (λk=>G (k/s) (k%s)) (λk J=>by
    obtain⟨I,h4,h5,h6⟩:=U k J;rw[QI];have:=H (k/s) (k%s) h4 h5;rw[show o+k/s*s+k%s=o+k from by omega]at this;rw[<-this]
    simp only[bV,hw])
   simpa [Builtin.firstCells]using this
  ·have Z:i*s+j<len*s:=by
    have:(i+1)*s<=len*s:=aL s A;rw[bI]at this;omega
   have I:0<s:=by omega
   rw[aP,cV Z,cI];have e1:(i*s+j)/s=i:=by rw[ea,Nat.mul_add_div I,Nat.div_eq_of_lt S,dS]
   have e2:(i*s+j)%s=j:=by rw[ea,eK,eA S]
   rw[e1,e2]
  simp only[aD]at h;subst h;exact⟨b,o,rfl,h3,H⟩
def Src (P:Program) (R:RC) (s:Nat) (m:Unit->Int) (g:(Unit->Int)->List AV) (x:Value):Prop:=
 ∃(H:Option Addr) (n A:Nat) (G:Nat->Nat->Value) (new:List Value),x= .slice H n A/\m ()=(n:Int)/\n<=A/\(H=none->A=0)/\new.length=n*s/\
   (∀w:World,w.heap=R.w.heap->(Builtin.firstCells s n x).run P w= .ok new.toArray w)/\
   (∀i j,i<n->j<s->new[i*s+j]? =some (G i j))/\
   (∀i:Nat,i<n->(g (λ_=>(i:Int))).length=s)/\
   (∀i j c,i<n->(g (λ_=>(i:Int)))[j]? =some c->PR R.w R.ok c (G i j))
theorem Src.of {s:Nat} {m:Unit->Int} {g:(Unit->Int)->List AV} {x:Value} (hx:PR R.w R.ok (.isl s m g .none) x):Src P R s m g x:=by
 obtain⟨H,nn,xc,A,new,V,S,h3,U,Z,G,Y,J,I,_⟩:=XN (P:=P) hx;exact⟨H,nn,xc,A,new,V,S,h3,U,Z,G,Y,J,I⟩
theorem Src.arr {s:Nat} {m:Unit->Int} {g:(Unit->Int)->List AV} {x:Value} (hx:ZvT R s m g x):Src P R s m g x:=by
 rcases hx with⟨Z,a,rfl⟩|⟨b,o,len,G,arr,ty,Y,S,rfl,V,h5,H⟩
 ·refine⟨a,0,0,λ_ _=>undef,[],rfl,Z,aJ _,λ_=>rfl,by simp,λw _=>?_,λi j A=>by omega,λi A=>by omega,λi j c A=>by omega⟩;cases a with
  |none=>rfl
  |some a=>exact J9 w a s 0 0
 have U:len*s<=G*s:=aL _ S
 refine⟨some ⟨b,o,none⟩,len,G,λi j=>arr.getD (o+(i*s+j)) undef,(aT (len*s)).map λk=>arr.getD (o+k) undef,rfl,Y,S,(λh=>by cases h),by simp,λw hw=>?_,λi j A J=>?_,λi A=>(H i A).1,λi j c A J=>by
  show PR R.w R.ok c (arr.getD (o+(i*s+j)) undef);rw[<-dG]
  exact(H i A).2 j c J⟩
 ·have:=run_loadCells (P:=P) w ⟨b,o,none⟩ (len*s) (λk=>arr.getD (o+k) undef) (λk hk=>by
   rw[QI];have:w.heap[b]? =some (.cells arr ty (0,0)):=by rw[hw];exact V
   exact Z4 this (by omega))
  simpa [Builtin.firstCells]using this
 have I:i*s+j<len*s:=by
  have:(i+1)*s<=len*s:=aL s A;rw[bI]at this;omega
 rw[aP,cV I,cI]
theorem YR {e:TypeId} {s:Nat} (h:Zay P e s=true):∃i z,P.info? e=some i/\i.zero=some z/\z.cells.size=s/\i.size=s/\i.bytes<=1000000:=by
 unfold Zay at h;split at h
 ·rename_i i A;split at h
  ·rename_i z G;simp only[aS]at h;exact⟨i,z,A,G,ZF h.1.1,ZF h.1.2,Xc h.2⟩
  cases h
 cases h
theorem Zib (A:Nat):∀(k c:Nat),c<=2*A+1000->Builtin.growBy A k c<=2*A+1000
 |0,c,h=>h
 |k+1,c,h=>by
  simp only[Builtin.growBy];split
  ·exact h
  exact Zib A k _ (by omega)
theorem ZsU (A old:Nat) (h:old<A):Builtin.nextslicecap A old<=2*A+1000:=by
 unfold Builtin.nextslicecap;split
 ·omega
 split
 ·omega
 exact Zib A 4 old (by omega)
theorem Qr {at_:Array TypeId} {t U e e' ty:TypeId} {j:TypeInfo} (h0:at_[0]? =some t) (h1:at_[1]? =some U) (hu:P.underlying t=some (.slice e)) (V:P.underlying U=some (.slice e'))
  (Z:P.info? e=some j) (base J:Option Addr) (A G Y n:Nat) (new:Array Value) (w w':World) (hx:(Builtin.firstCells j.size n (.slice J n Y)).run P w= .ok new w) (S:A+n<=G)
  (H:∀a,base=some a->(storeCells (a.add (A*j.size)) new.toList).run P w= .ok () w') (I:base=none->w'=w):
  (Builtin.append_ at_ ty #[.slice base A G,.slice J n Y]).run P w= .ok (.slice base (A+n) G) w':=by
 unfold Builtin.append_
 simp only[h0,h1,aQ,Zy hu,Zy V,Z6 Z,aH,bC,Builtin.lenOf,ef,bJ,cM,
  aX,if_false,ez,if_true,iQ S,hx]
 cases base with
 |none=>rw[I rfl];rfl
 |some a=>simp only[aQ,H a rfl,aH,bC]
theorem JI {at_:Array TypeId} {t Y e e' ty:TypeId} {j:TypeInfo} {z:Value} (h0:at_[0]? =some t) (h1:at_[1]? =some Y) (hu:P.underlying t=some (.slice e)) (aa:P.underlying Y=some (.slice e'))
  (hj:P.info? e=some j) (hz:j.zero=some z) (hb:j.bytes<=1000000) (base V:Option Addr) (A G xc n:Nat) (old new:Array Value) (w:World)
  (hx:∀H:World,H.heap=w.heap->(Builtin.firstCells j.size n (.slice V n xc)).run P H= .ok new H) (ho:∀H:World,H.heap=w.heap->(Builtin.firstCells j.size A (.slice base A G)).run P H= .ok old H)
  (Z:¬A+n<=G) (ab:A+n<=1000000):
  ∃(I d:Nat) (J:Array Value),A+n<=I/\J.size=(I-(A+n))*z.cells.size/\
   (Builtin.append_ at_ ty #[.slice base A G,.slice V n xc]).run P w= .ok (.slice (some ⟨w.heap.size,0,none⟩) (A+n) I) {w with drawn:=d,heap:=w.heap.push (.cells (old++new++J) e)}:=by
 have hn:=ZsU (A+n) G (by omega);have U:¬Builtin.nextslicecap (A+n) G*j.bytes>2^ 48:=by
  have:Builtin.nextslicecap (A+n) G*j.bytes<=2001000*1000000:=Nat.mul_le_mul (by omega) hb;omega
 have S:¬(((A+n:Nat):Int)>IntKind.i64.max/\(False\/j.bytes=0)):=by
  have:IntKind.i64.max=9223372036854775807:=by decide
  rw[this];omega
 refine⟨(Question.appendCap (A+n) G e).cut (w.tape w.drawn (.appendCap (A+n) G e)),w.drawn+1,Builtin.zeroCells z.cells ((Question.appendCap (A+n) G e).cut (w.tape w.drawn (.appendCap (A+n) G e))-(A+n)),?_,by simp[Builtin.zeroCells],?_⟩
 ·simp only[Question.cut];omega
 unfold Builtin.append_
 simp only[h0,h1,aQ,Zy hu,Zy aa,Z6 hj,Xx hj,aH,bC,Builtin.lenOf,ef,bJ,cM,
  aX,if_false,ez,if_true,iP Z,iP S,iP U,run_choose,Question.forced,run_askRoom,zeroValue,hz,newRow,run_newObj]
 rw[ho {w with drawn:=w.drawn+1} rfl];simp only[aH];rw[hx {w with drawn:=w.drawn+1} rfl];rfl
theorem Q6 {n:Unit->Int} {f g:(Unit->Int)->List AV} {len i:Nat} (A:n ()=(len:Int)) (hi:i<len):Z2 n f g (λ_=>(i:Int))=f (λ_=>(i:Int)):=
 iQ (show(i:Int)<n () by omega)
theorem QG {n:Unit->Int} {f g:(Unit->Int)->List AV} {len i:Nat} (A:n ()=(len:Int)) (hi:len<=i):Z2 n f g (λ_=>(i:Int))=g (λ_=>((i-len:Nat):Int)):=by
 refine(iP (show¬(i:Int)<n () by omega)).trans ?_;congr 1;funext _;show(i:Int)-n ()=_;omega
def Zlb (R:RC) (G:Nat->Nat->Nat->Prop) (h:List Zi) (s:Nat) (n m:Unit->Int) (f g:(Unit->Int)->List AV) (id:Nat) (h':List Zi) (r:Result Value):Prop:=
 ∃u A,r= .ok u A.w/\HR G A h'/\Xs R h A h'/\R.le A/\VR A (.isl s (λ_=>n ()+m ()) (Z2 n f g) (.own id)) u
theorem Zfq {s ah:Nat} {n m:Unit->Int} {f g:(Unit->Int)->List AV} {id m':Nat} {h':List Zi} {v:Value} (H:HR G R h) (hv:PR R.w R.ok (.isl ah n f .none) v) (hs:ah=s\/n ()=0) (hm:m ()=0)
  (ae:h'.length=m') (am:R.m<=m') (al:∀i x,h'[i]? =some x->(i=id/\x= .tok s λ_=>n ()+m ())\/(i≠id/\h[i]? =some x)) (ai:h'[id]? =some (.tok s λ_=>n ()+m ()))
  (Y:id<R.m->∃U J,h[id]? =some (.tok U J)/\R.hw id<=n ()+m ()/\(R.hw id=n ()+m ()->v=R.hv id))
  (Z:¬id<R.m->(∃a:Option Addr,v= .slice a 0 0)\/∃a len,v= .slice (some a) len len)
  (ar:id<R.m->(n ()+m ()=0/\∃a:Option Addr,v= .slice a 0 0)\/∃(b o len I:Nat),n ()+m ()=(len:Int)/\len<=I/\v= .slice (some ⟨b,o,none⟩) len I/\
    (len<I->∃(arr:Array Value) (ty:TypeId),R.w.heap[b]? =some (.cells arr ty (0,0))/\o+I*s<=arr.size)) (aa:id<R.m->v=R.hv id)
  (ao:∀U J,h[id]? =some (.tok U J)->U=s):
  ∃V,V.w=R.w/\HR G V h'/\Xs R h V h'/\R.le V/\VR V (.isl s (λ_=>n ()+m ()) (Z2 n f g) (.own id)) v:=by
 obtain⟨V,hw,aq,au,aw,H',hx,ab,_⟩:=H.token id m' s (λ_=>n ()+m ()) v R.w h' ae am al ai Y (λb=>id<R.m/\∃U J,h[id]? =some (.tok U J)/\ZE R id (.tok U J) b) (λb=>Iff.rfl) rfl rfl rfl (aJ _)
  (λ_ _ _=>rfl) (λ_ _ _ _ _ _=>rfl) (by
   by_cases A:id<R.m
   ·exact ar A
   rcases Z A with⟨a0,h⟩|⟨a,len,h⟩
   ·refine .inl ⟨?_,a0,h⟩;cases hv with
    |isl0 _ _ _ _ hz _=>show n ()+m ()=0;omega
    |islE _ _ _ _ _ hz _=>show n ()+m ()=0;omega
    |isl _ _ _ _ _ _ len I us hn=>cases h;show n ()+m ()=0;omega
   cases hv with
   |isl0 _ _ _ _ hz _=>cases h
   |islE _ _ _ _ a1 hz _=>exact .inl ⟨by show n ()+m ()=0;omega,_,rfl⟩
   |isl _ _ _ _ b o ak I us hn _ _ _ _ _ _ _=>
    cases h
    exact .inr ⟨b,o,len,len,by show n ()+m ()=_;omega,aJ _,rfl,λh=>absurd h (dJ _)⟩)
  (λa k c S ac=>by
   by_cases A:id<R.m
   ·obtain⟨U,J,h1,_⟩:=Y A;exact .inr ⟨A,U,J,h1,a,k,c,(aa A)▸S,ac,rfl⟩
   rcases Z A with⟨a0,h⟩|⟨a',len,h⟩
   ·rw[h]at S;cases S;omega
   rw[h]at S;cases S
   omega)
  (λb o k hk a len I S ac hb=>by
   by_cases A:id<R.m
   ·obtain⟨U,J,h1,_⟩:=Y A;have:=((H.okd _ _ _).1 hk).2.2 id _ h1 a len I ((aa A)▸S) ac hb;rw[ao U J h1]at this;exact this
   rcases Z A with⟨a0,h⟩|⟨a',ak,h⟩
   ·rw[h]at S;cases S;omega
   rw[h]at S;cases S
   omega)
 have aj:id<V.m:=by
  rw[aq,<-ae];exact(aE.1 ai).1
 refine⟨V,hw,H',hx,ab,.own _ _ _ _ _ aj ?_ (by rw[aw];exact bR _) (λ_=>au.symm)⟩;have ap:=hv.mono ab.ok ab.keep ab.keepM;cases ap with
 |isl0 _ _ _ _ hz _=>exact .isl0 _ _ _ _ (by show n ()+m ()=0;omega) rfl
 |islE _ _ _ _ a hz _=>exact .islE _ _ _ _ a (by show n ()+m ()=0;omega) (.inl rfl)
 |isl _ _ _ _ b o len I us hn hc ht S hl h1 h2 h3=>
  rcases hs with rfl|h0
  ·refine .isl _ _ _ _ b o len I us (by show n ()+m ()=_;omega) hc (.inl rfl) (λh=>by cases h) (λi A=>?_) (λi j c A hj=>?_) (λi j c A hj=>?_) h3
   ·rw[Q6 hn A];exact hl i A
   ·rw[Q6 hn A]at hj;exact h1 i j c A hj
   rw[Q6 hn A]at hj;exact h2 i j c A hj
  have:len=0:=by omega
  subst this;rw[ep]at h3;exact .isl _ _ _ _ b o 0 I us (by show n ()+m ()=_;omega) hc (.inl rfl) (λh=>by cases h) (λi A=>by omega) (λi j c A=>by omega) (λi j c A=>by omega) (by rw[ep];exact h3)
theorem Zhg {s al:Nat} {n m:Unit->Int} {f g:(Unit->Int)->List AV} {id m':Nat} {h':List Zi} {v x:Value} {P:Program} {at_:Array TypeId} {t t' e e' ty:TypeId} {j:TypeInfo} {z:Value}
  (H:HR G R h) (hv:PR R.w R.ok (.isl al n f .none) v) (hs:al=s\/n ()=0) (bo:PR R.w R.ok (.isl s m g .none) x)
  (h0:at_[0]? =some t) (h1:at_[1]? =some t') (hu:P.underlying t=some (.slice e)) (bt:P.underlying t'=some (.slice e')) (hj:P.info? e=some j) (hz:j.zero=some z) (bp:z.cells.size=s) (b9:j.size=s) (hb:j.bytes<=1000000)
  (ct:n ()+m ()<=1000000) (ar:∀a len J,v= .slice a len J->¬((len:Int)+m ()<=J))
  (ak:h'.length=m') (bz:R.m<=m') (bc:∀i x,h'[i]? =some x->(i=id/\x= .tok s λ_=>n ()+m ())\/(i≠id/\h[i]? =some x)) (aw:h'[id]? =some (.tok s λ_=>n ()+m ()))
  (bl:id<R.m->∃s0 Y,h[id]? =some (.tok s0 Y)/\R.hw id<n ()+m ()):
  Zlb R G h s n m f g id h' ((Builtin.append_ at_ ty #[v,x]).run P R.w):=by
 obtain⟨f0,cf,aj⟩:∃f0,PR R.w R.ok (.isl s n f0 .none) v/\∀i:Nat,(i:Int)<n ()->f0 (λ_=>(i:Int))=f (λ_=>(i:Int)):=by
  rcases hs with rfl|h0
  ·exact⟨f,hv,λ_ _=>rfl⟩
  refine⟨λ_=>[],?_,λi Z=>by omega⟩;cases hv with
  |isl0 _ _ _ _ hz _=>exact .isl0 _ _ _ _ hz rfl
  |islE _ _ _ _ a hz _=>exact .islE _ _ _ _ a hz (.inl rfl)
  |isl _ _ _ _ b o len J us V hc ht he hl h1 h2 h3=>
   have:len=0:=by omega
   subst this;rw[ep]at h3;exact .isl _ _ _ _ b o 0 J us V hc (.inl rfl) (λh=>by cases h) (λi Z=>by omega) (λi j c Z=>by omega) (λi j c Z=>by omega) (by rw[ep];exact h3)
 obtain⟨va,A,vc,bx,old,rfl,V,cr,cz,ao,bk,bw,ac,bh,cu⟩:=XN (P:=P) cf;obtain⟨xa,nn,xc,bu,new,rfl,hm,cw,cq,cg,ba,bq,aa,be,cn⟩:=XN (P:=P) bo;have aq:¬A+nn<=vc:=λhh=>ar _ _ _ rfl (by omega);subst b9;obtain⟨J,d,U,ab,ca,bg⟩:=JI (P:=P) (ty:=ty) h0 h1 hu bt hj hz hb va xa A vc xc nn old.toArray new.toArray R.w (λw' hw=>ba w' hw) (λw' hw=>bk w' hw) aq (by omega);have bm:(old.toArray++new.toArray++U).size=J*j.size:=by
  rw[eS,eS,ca,bp];simp only[dV,ao,cg];rw[<-dI,<-dI];congr 1;omega
 have ai:∀b,b<R.w.heap.size->(R.w.heap.push (.cells (old.toArray++new.toArray++U) e))[b]? =R.w.heap[b]? :=λb hb=>by rw[bK,iP (by omega)]
 have ah:(R.w.heap.push (.cells (old.toArray++new.toArray++U) e))[R.w.heap.size]? =some (.cells (old.toArray++new.toArray++U) e (0,0)):=by simp
 obtain⟨R',hw,ce,ci,cj,H',hx,S,a9⟩:=H.token id m' j.size (λ_=>n ()+m ()) (.slice (some ⟨R.w.heap.size,0,none⟩) (A+nn) J)
  {R.w with drawn:=d,heap:=R.w.heap.push (.cells (old.toArray++new.toArray++U) e)} h' ak bz bc aw
  (λZ=>by obtain⟨s0,Y,h1,h2⟩:=bl Z;exact⟨s0,Y,h1,by show R.hw id<=n ()+m ();omega,λe=>by have e:R.hw id=n ()+m ():=e;omega⟩)
  (λb=>id<R.m/\∃s0 Y,h[id]? =some (.tok s0 Y)/\ZE R id (.tok s0 Y) b) (λb=>Iff.rfl) rfl rfl rfl (by show _<=(R.w.heap.push _).size;simp)
  (λb hb _=>ai b hb) (λb o k I i _=>by
   have:=((H.okd _ _ _).1 I).1;simp only[bV]
   rw[ai b this])
  (.inr ⟨R.w.heap.size,0,A+nn,J,by show n ()+m ()=_;omega,ab,rfl,λ_=>⟨_,e,ah,by rw[bm];omega⟩⟩)
  (λa k c he am=>by cases he;exact .inl (aJ _))
  (λb o k I a len c he am au=>by
   cases he;have:=((H.okd _ _ _).1 I).1
   exact absurd this (by rw[<-au];exact dJ _))
 have az:id<R'.m:=by
  rw[ce,<-ak];exact(aE.1 aw).1
 refine⟨_,R',by rw[bg,hw],H',hx,S,.own _ _ _ _ _ az ?_ (by rw[cj];exact bR _) (λ_=>ci.symm)⟩;have ap:∀k,k<J*j.size->R'.w.cell? ⟨R.w.heap.size,k,none⟩=(old++new++U.toList)[k]? :=λk I=>by
  rw[hw];simp only[bV,ah,Option.isSome_none,aX,if_false];rw[<-bN];simp
 have ck:(A+nn)*j.size<=J*j.size:=aL _ ab;refine .isl _ _ _ _ R.w.heap.size 0 (A+nn) J (λi k=>if i<A then bx i k else bu (i-A) k) (by show n ()+m ()=_;omega) ab (.inl rfl) (λh=>by cases h) (λi Z=>?_) (λi k c Z I=>?_) (λi k c Z I=>?_) ?_
 ·by_cases hi':i<A
  ·rw[Q6 V hi',<-aj i (by omega)];exact ac i hi'
  rw[QG V (by omega)];exact aa _ (by omega)
 ·have am:i*j.size+k<(A+nn)*j.size:=by
   have ae:k<j.size:=by
    by_cases hi':i<A
    ·rw[Q6 V hi',<-aj i (by omega)]at I;rw[<-ac i hi'];exact(aE.1 I).1
    rw[QG V (by omega)]at I;rw[<-aa (i-A) (by omega)];exact(aE.1 I).1
   have:(i+1)*j.size<=(A+nn)*j.size:=aL _ Z;rw[bI]at this;omega
  rw[dB,ap _ (by omega)];by_cases hi':i<A
  ·rw[Q6 V hi',<-aj i (by omega)]at I;have ae:k<j.size:=by rw[<-ac i hi'];exact(aE.1 I).1
   have:=bw i k hi' ae;rw[iQ hi',dU,bP (by exact(aE.1 this).1)];exact this
  rw[QG V (by omega)]at I;have ae:k<j.size:=by rw[<-aa (i-A) (by omega)];exact(aE.1 I).1
  have:=bq (i-A) k (by omega) ae;have cy:A*j.size<=i*j.size:=aL _ (by omega)
  rw[iP hi',dU,dE (by rw[ao];omega),ao,show i*j.size+k-A*j.size=(i-A)*j.size+k from by rw[gk];omega,
   bP (by exact(aE.1 this).1)]
  exact this
 ·by_cases hi':i<A
  ·rw[Q6 V hi',<-aj i (by omega)]at I;rw[iQ hi'];exact(bh i k c hi' I).mono S.ok S.keep S.keepM
  rw[QG V (by omega)]at I;rw[iP hi'];exact(be (i-A) k c (by omega) I).mono S.ok S.keep S.keepM
 refine a9 _ _ _ (by show _<(R.w.heap.push _).size;simp) (H.fresh _ _ _ (aJ _)) (.inl (aJ _)) (λa len c he am au=>?_);cases he;exact aJ _
theorem PR.one {w:World} {ok:Nat->Nat->Nat->Prop} {a:AV} {u:Value} (h:PR w ok a u):u.oneCell'=true:=by
 cases h<;>rfl
theorem Zoo {s:Nat} {n m:Unit->Int} {f g:(Unit->Int)->List AV} {id:Nat} {v x:Value} {P:Program} {at_:Array TypeId} {t t' e e' ty:TypeId} {j:TypeInfo} {ae:Unit->Int}
  (H:HR G R h) (hv:PR R.w R.ok (.isl s n f .none) v) (b9:PR R.w R.ok (.isl s m g .none) x)
  (h0:at_[0]? =some t) (h1:at_[1]? =some t') (hu:P.underlying t=some (.slice e)) (cg:P.underlying t'=some (.slice e')) (hj:P.info? e=some j) (cq:j.size=s)
  (hi:h[id]? =some (.tok s ae)) (aj:R.hv id=v) (bk:R.hw id=n ()) (cw:0<m ()) (aa:∀a len J,v= .slice a len J->(len:Int)+m ()<=J):
  Zlb R G h s n m f g id (h.set id (.tok s λ_=>n ()+m ())) ((Builtin.append_ at_ ty #[v,x]).run P R.w):=by
 have ab:id<R.m:=H.len▸(aE.1 hi).1;obtain⟨xa,nn,xc,ck,new,rfl,hm,c8,c6,ai,bq,bh,ak,a9,cz⟩:=XN (P:=P) b9;cases hv with
 |isl0 _ _ _ _ hz _=>have:=aa _ _ _ rfl;omega
 |islE _ _ _ _ _ hz _=>have:=aa _ _ _ rfl;omega
 |isl _ _ _ _ b o len J us hn hc ht he hl cn bw ca=>
 have al:len+nn<=J:=by have:=aa _ _ _ rfl;omega
 have am:len<J:=by omega
 obtain⟨_,bx⟩:=H.blk id _ hi;obtain⟨arr,ao,Y,bz⟩:∃(arr:Array Value) (ty:TypeId),R.w.heap[b]? =some (.cells arr ty (0,0))/\o+J*s<=arr.size:=by
  rcases bx with⟨_,a3,h⟩|⟨S,o',aw,cu,_,_,h,h4⟩
  ·rw[aj]at h;cases h;omega
  rw[aj]at h;cases h;exact h4 am
 have V:ZE R id (.tok s ae) b:=⟨_,_,_,aj,am,rfl⟩;subst cq;have cy:(len+nn)*j.size<=J*j.size:=aL _ al;have ct:(len+nn)*j.size=len*j.size+nn*j.size:=dI ..;have bo:∀k,k<nn*j.size->k/j.size<nn/\k%j.size<j.size/\k/j.size*j.size+k%j.size=k:=λk I=>by
  have hs:0<j.size:=eg (λe=>by rw[e]at I;simp at I);exact⟨(dN hs).2 I,eE _ hs,eZ k j.size⟩
 have bl:∀v∈new,v.oneCell'=true:=λv cf=>by
  obtain⟨k,I,rfl⟩:=ed cf;obtain⟨f1,f2,f3⟩:=bo k (ai▸I);have e1:=bh _ _ f1 f2;rw[f3,aC I,aD]at e1;rw[e1];exact(a9 _ _ _ f1 (aC (by rw[ak _ f1];exact f2))).one
 let A:=(arr.toList.take (o+len*j.size+0)++new++arr.toList.drop (o+len*j.size+0+new.length)).toArray;have ce:=run_storeCells_at P b (o+len*j.size) ao new 0 arr R.w Y (by rw[ai];omega) bl;have bt:∀i x,(h.set id (.tok j.size λ_=>n ()+m ()))[i]? =some x->(i=id/\x= .tok j.size λ_=>n ()+m ())\/(i≠id/\h[i]? =some x):=λi x Z=>by
  rw[bQ]at Z;split at Z
  ·rename_i e;subst e;split at Z
   ·simp only[aD]at Z;exact .inl ⟨rfl,Z.symm⟩
   cases Z
  rename_i e;exact .inr ⟨λh=>e h.symm,Z⟩
 have ac:∀S,S≠b->(R.w.setRow b A).heap[S]? =R.w.heap[S]? :=λS hb=>setRow_other R.w b S _ hb;have ar:(R.w.setRow b A).heap[b]? =some (.cells A ao (0,0)):=setRow_heap R.w b arr _ ao _ Y;have ba:A.size=arr.size:=by
  simp only[A,dV,bf,bT,dL,cW,ai];omega
 have az:∀k,A.getD k undef=if o+len*j.size<=k/\k<o+len*j.size+new.length then new.getD (k-(o+len*j.size)) undef else arr.getD k undef:=λk=>by
  have:=XW arr new (o+len*j.size+0) k (by rw[ai];omega);exact this
 have ap:∀k,k<arr.size->(R.w.setRow b A).cell? ⟨b,k,none⟩=some (A.getD k undef):=λk I=>Z4 ar (by rw[ba];exact I);have aq:∀S o' k,R.ok S o' k->∀i,i<k->(R.w.setRow b A).cell? ⟨S,o'+i,none⟩=R.w.cell? ⟨S,o'+i,none⟩:=λS o' k I i da=>by
  by_cases e:S=b
  ·subst e;have ah:=((H.okd _ _ _).1 I).2.2 id _ hi _ _ _ aj am rfl;have ah:o'+k<=o+len*j.size:=ah;rw[ap _ (by omega),az,iP (by omega)];exact(Z4 Y (by omega)).symm
  simp only[bV,ac S e]
 obtain⟨R',hw,cr,bu,bm,H',Z,U,bp⟩:=H.token id R.m j.size (λ_=>n ()+m ()) (.slice (some ⟨b,o,none⟩) (len+nn) J) (R.w.setRow b A) (h.set id (.tok j.size λ_=>n ()+m ()))
  (by rw[bW];exact H.len) (aJ _) bt (by rw[bQ];simp[(aE.1 hi).1])
  (λ_=>⟨_,_,hi,by rw[bk];show n ()<=n ()+m ();omega,λe=>by rw[bk]at e;have e:n ()=n ()+m ():=e;omega⟩)
  (λb=>id<R.m/\∃s0 ae,h[id]? =some (.tok s0 ae)/\ZE R id (.tok s0 ae) b) (λb=>Iff.rfl) rfl rfl rfl (by simp[World.setRow])
  (λS _ ci=>ac S (λe=>ci (e▸⟨ab,_,_,hi,V⟩))) aq
  (.inr ⟨b,o,len+nn,J,by show n ()+m ()=_;omega,al,rfl,λ_=>⟨A,ao,ar,by rw[ba];exact bz⟩⟩)
  (λa k c he bc=>by cases he;exact .inr ⟨ab,_,_,hi,V⟩)
  (λS o' k I a aw c he bc be=>by
   cases he;subst be;have ah:=((H.okd _ _ _).1 I).2.2 id _ hi _ _ _ aj am rfl;have ah:o'+k<=o+len*j.size:=ah;show o'+k<=o+(len+nn)*j.size
   omega)
 refine⟨_,R',?_,H',Z,U,.own _ _ _ _ _ (by rw[cr];exact ab) ?_ (by rw[bm];exact bR _) (λ_=>bu.symm)⟩
 ·rw[hw]
  exact Qr h0 h1 hu cg hj _ xa len J xc nn new.toArray R.w _ (bq _ rfl) al (λa ha=>by
   cases ha;rw[QI]
   exact ce) (λh=>by cases h)
 refine .isl _ _ _ _ b o (len+nn) J (λi k=>if i<len then us i k else ck (i-len) k) (by show n ()+m ()=_;omega) al (.inl rfl) (λh=>by cases h) (λi au=>?_) (λi k c au I=>?_) (λi k c au I=>?_) ?_
 ·by_cases hil:i<len
  ·rw[Q6 hn hil];exact hl i hil
  rw[QG hn (by omega)];exact ak _ (by omega)
 ·rw[hw];by_cases hil:i<len
  ·rw[Q6 hn hil]at I;have bg:k<j.size:=by rw[<-hl i hil];exact(aE.1 I).1
   have cj:i*j.size+j.size<=len*j.size:=by
    have:(i+1)*j.size<=len*j.size:=aL _ hil;rwa [bI]at this
   rw[iQ hil,dG,aq b o _ ca (i*j.size+k) (by omega),<-dG];exact cn i k c hil I
  rw[QG hn (by omega)]at I;have bg:k<j.size:=by rw[<-ak (i-len) (by omega)];exact(aE.1 I).1
  have cj:i*j.size+j.size<=(len+nn)*j.size:=by
   have:(i+1)*j.size<=(len+nn)*j.size:=aL _ au;rwa [bI]at this
  have c9:len*j.size<=i*j.size:=aL _ (by omega);have e1:=bh (i-len) k (by omega) bg;have e2:i*j.size-len*j.size=(i-len)*j.size:=by rw[gk]
  rw[iP hil,ap _ (by omega),az,iQ (by rw[ai];omega),show o+i*j.size+k-(o+len*j.size)=(i-len)*j.size+k from by omega,aA,e1];rfl
 ·by_cases hil:i<len
  ·rw[Q6 hn hil]at I;rw[iQ hil];exact(bw i k c hil I).mono U.ok U.keep U.keepM
  rw[QG hn (by omega)]at I;rw[iP hil];exact(a9 (i-len) k c (by omega) I).mono U.ok U.keep U.keepM
 refine bp _ _ _ (by show b<(R.w.heap.modify _ _).size;rw[Array.size_modify];exact(aM.1 Y).1) (H.tokG id _ b hi rfl V _ _) (.inr ⟨ab,_,_,hi,V⟩) (λa aw c he bc be=>?_);cases he;exact aJ _
end
end Vm
namespace Vm
open Go
section
variable {P:Program} {R:RC} {G:Nat->Nat->Nat->Prop} {h:List Zi}
theorem set_get {id:Nat} {blk:Zi} {i:Nat} {x:Zi} (A:(h.set id blk)[i]? =some x):(i=id/\x=blk)\/(i≠id/\h[i]? =some x):=by
 rw[bQ]at A;split at A
 ·rename_i e;subst e;split at A
  ·simp only[aD]at A;exact .inl ⟨rfl,A.symm⟩
  cases A
 rename_i e;exact .inr ⟨λh=>e h.symm,A⟩
theorem HR.room1 (H:HR G R h) {id:Nat} {I blk':Zi} (hi:h[id]? =some I) (S:Zaz I=true) (am:αk blk'=false) (J:Int) (U:Value) (w':World)
  (h0:∀b o n,Qo R id I b o n->¬ZE R id I b) (Z:∀(A:RC) b o n,¬ZE A id blk' b->Qo A id blk' b o n)
  (aw:R.hw id<=J) (al:R.hw id=J->U=R.hv id) (ah:Zhl (R.hv id) U)
  (au:w'.os=R.w.os) (ar:w'.tape=R.w.tape) (aj:w'.output=R.w.output) (aq:R.w.heap.size<=w'.heap.size)
  (hh:∀b,b<R.w.heap.size->¬ZE R id I b->w'.heap[b]? =R.w.heap[b]?)
  (ap:∀A:RC,R.le A->A.w=w'->A.hw id=J->A.hv id=U->A.n0=R.n0->BR A id blk')
  (aa:∀A:RC,A.hv id=U->∀b,ZE A id blk' b->R.w.heap.size<=b\/ZE R id I b):
  ∃A,A.w=w'/\A.hv id=U/\A.hw id=J/\A.m=R.m/\HR G A (h.set id blk')/\Xs R h A (h.set id blk')/\R.le A:=by
 have ac:id<R.m:=H.len▸(aE.1 hi).1;have ao:∀b,ZE R id I b↔(id<R.m/\∃V,h[id]? =some V/\Zaz V=true/\ZE R id V b):=λb=>
  ⟨λY=>⟨ac,_,hi,S,Y⟩,λ⟨_,V,Z,_,h2⟩=>by rw[hi]at Z;cases Z;exact h2⟩
 have ab:∀b o n,R.ok b o n->¬ZE R id I b:=λb o n S=>h0 b o n (((H.okd _ _ _).1 S).2.2 id _ hi);obtain⟨A,a1,a2,a3,a4,a5,a6,a7,_⟩:=H.room id R.m blk' J U w' (h.set id blk') (by rw[bW];exact H.len) (aJ _) (λi x=>set_get)
  (λ_=>⟨_,hi,S,aw,al,ah⟩) (λb=>ZE R id I b) ao au ar aj aq hh
  (λb o n S j _=>by
   simp only[bV]
   rw[hh b ((H.okd _ _ _).1 S).1 (ab b o n S)])
  (λA ae J ai ak hl=>ap A ae J ai ak hl.1)
  (λA hv _ b Y=>aa A hv b Y)
  (λA hv b o n S=>Z A b o n λY=>by
   rcases aa A hv b Y with h3|h3
   ·have:=((H.okd _ _ _).1 S).1;omega
   exact ab b o n S h3) am
 exact⟨A,a1,a3,a4,a2,a5,a6,a7⟩
theorem HR.adopt (H:HR G R h) {q k z s:Nat} {N n1:Unit->Int} {m:(Unit->Int)->Unit->Int} {g:(Unit->Int)->(Unit->Int)->List AV} {f1:(Unit->Int)->List AV} (hq:h[q]? =some (.fam z s N m g)) (U:h[k]? =some (.gar s n1 f1)) (bt:z<=k):
  ∃I,I.w=R.w/\I.m=R.m/\(∀i,i≠q->I.hv i=R.hv i/\I.hw i=R.hw i)/\HR G I ((h.set k .dead).set q (.fam z s (λ_=>N ()+1) (ZbD N m n1) (Jc N g f1)))/\Xs R h I ((h.set k .dead).set q (.fam z s (λ_=>N ()+1) (ZbD N m n1) (Jc N g f1)))/\R.le I/\
   ∃(S:Array Value) (i:Nat),I.hv q= .tuple S/\S[i]? =some (R.hv k)/\N ()=(i:Int):=by
 have aw:k≠q:=λe=>by subst e;rw[hq]at U;cases U
 obtain⟨ba,be,S,ah,hN,bh,bk⟩:=H.blk q _ hq;obtain⟨b9,aq⟩:=H.blk k _ U;have aq:ZvT R s n1 f1 (R.hv k):=aq;have ca:q<R.m:=H.len▸(aE.1 hq).1;have bz:k<R.m:=H.len▸(aE.1 U).1;let F:Zi:=.fam z s (λ_=>N ()+1) (ZbD N m n1) (Jc N g f1);let h':=(h.set k .dead).set q F;let I:=Zlz R.cx G R.n0 R.w R.m R.α (λi=>if i=q then N ()+1 else R.hw i) (λi=>if i=q then .tuple (S.push (R.hv k))else R.hv i) h';have Y:I.hv q= .tuple (S.push (R.hv k)):=iQ rfl;have ab:∀i,i≠q->I.hv i=R.hv i:=λi hi=>iP hi;have ao:∀i,i≠q->I.hw i=R.hw i:=λi hi=>iP hi;have ai:∀ {i x},h'[i]? =some x->(i=q/\x=F)\/(i=k/\x= .dead)\/(i≠q/\i≠k/\h[i]? =some x):=λ{i x} A=>by
  rcases set_get A with⟨h1,h2⟩|⟨h1,A⟩
  ·exact .inl ⟨h1,h2⟩
  rcases set_get A with⟨h2,h3⟩|⟨h2,h3⟩
  ·exact .inr (.inl ⟨h2,h3⟩)
  exact .inr (.inr ⟨h1,h2,h3⟩)
 have aa:∀ {i v},(S.push (R.hv k))[i]? =some v->S[i]? =some v\/(i=S.size/\v=R.hv k):=λ{i v} hv=>by
  rw[bK]at hv;split at hv
  ·rename_i e;simp only[aD]at hv;exact .inr ⟨e,hv.symm⟩
  exact .inl hv
 have am:∀b,ZE I q F b↔(ZE R q (.fam z s N m g) b\/ZE R k (.gar s n1 f1) b):=λb=>by
  constructor
  ·rintro⟨az,h1,i,v,h2,h3⟩;rw[Y]at h1;cases h1;rcases aa h2 with h2|⟨_,rfl⟩
   ·exact .inl ⟨S,ah,i,v,h2,h3⟩
   exact .inr h3
  rintro(⟨az,h1,i,v,h2,h3⟩|h3)
  ·rw[ah]at h1;cases h1;refine⟨_,Y,i,v,?_,h3⟩;rw[bK,iP (by have:=(aM.1 h2).1;omega)];exact h2
  exact⟨_,Y,S.size,R.hv k,by simp,h3⟩
 have bm:∀b o n,Zdb I h' b o n↔Zdb R h b o n:=λb o n=>by
  constructor
  ·intro ha i x A;by_cases e:i=q
   ·subst e;rw[hq]at A;cases A;intro J;have:=ha i F (by simp[h',(aE.1 hq).1]);exact this ((am b).2 (.inl J))
   by_cases e':i=k
   ·subst e';rw[U]at A;cases A;intro J;have:=ha q F (by simp[h',(aE.1 hq).1]);exact this ((am b).2 (.inr J))
   have aj:h'[i]? =some x:=by
    simp only[h'];rw[bQ,iP (Ne.symm e),bQ,iP (Ne.symm e')];exact A
   exact(Qo.congr (R:=R) (R':=I) rfl (ab i e)).1 (ha i x aj)
  intro ha i x A;rcases ai A with⟨rfl,rfl⟩|⟨rfl,rfl⟩|⟨e,e',A⟩
  ·intro J;rcases(am b).1 J with J|J
   ·exact ha _ _ hq J
   exact ha _ _ U J
  ·exact λJ=>J
  exact(Qo.congr (R:=R) (R':=I) rfl (ab i e)).2 (ha i x A)
 have ar:∀b o n,I.ok b o n↔R.ok b o n:=λb o n=>by
  rw[H.okd,<-bm];exact Iff.rfl
 have Z:R.le I:=⟨aJ _,λ_ _=>rfl,λi hi=>by
  by_cases e:i=q
  ·subst e;refine⟨by show R.hw i<=(if i=i then _ else _);rw[iQ rfl,be];omega,λe=>?_⟩;have e:R.hw i=(if i=i then N ()+1 else R.hw i):=e;rw[iQ rfl,be]at e;omega
  ·rw[ab i e,ao i e];exact⟨bR _,λ_=>rfl⟩,λi hi=>by
  by_cases e:i=q
  ·subst e;rw[Y,ah];intro az h1;cases h1;exact⟨_,rfl,λj x hj=>by rw[bK,iP (by have:=(aM.1 hj).1;omega)];exact hj⟩
  rw[ab i e]
  exact .refl _,λb o n U=>(ar b o n).2 U,λ_ _ _ _ _ _=>rfl,λ_ _ _ _ h=>h,rfl⟩
 have bg:h'.length=I.m:=by simp only[h',bW];exact H.len
 have al:∀ {i x b},h'[i]? =some x->ZE I i x b->(i=q/\(ZE R q (.fam z s N m g) b\/ZE R k (.gar s n1 f1) b))\/(i≠q/\i≠k/\h[i]? =some x/\ZE R i x b):=λ{i x b} A J=>by
  rcases ai A with⟨rfl,rfl⟩|⟨rfl,rfl⟩|⟨e,e',A⟩
  ·exact .inl ⟨rfl,(am b).1 J⟩
  ·exact J.elim
  exact .inr ⟨e,e',A,(ZE.congr (R:=R) (R':=I) rfl (ab i e)).1 J⟩
 refine⟨I,rfl,rfl,λi hi=>⟨ab i hi,ao i hi⟩,⟨bg,λ_ _ _=>Iff.rfl,λi x A=>?_,λi j bi bj b a9 hi hj J ae=>?_,H.cl,H.fresh,λi x b A bo J o n=>?_,H.n0m⟩,?_,Z,S.push (R.hv k),S.size,Y,by simp,hN⟩
 ·rcases ai A with⟨rfl,rfl⟩|⟨rfl,rfl⟩|⟨e,e',A⟩
  ·refine⟨ba,iQ rfl,S.push (R.hv k),Y,by simp;omega,λj v hj=>?_,λa c v v' b au hv ak=>?_⟩
   ·rcases aa hj with hj|⟨rfl,rfl⟩
    ·have bx:=(aM.1 hj).1;have e1:Jc N g f1 (λ_=>(j:Int))=g λ_=>(j:Int):=iQ (by show(j:Int)<N ();omega);rw[e1];exact((bh j v hj).mono (Q':=PR I.w I.ok) (λ_ _ h=>h.mono Z.ok Z.keep Z.keepM) λ_ _=>rfl).cong (by show(bif decide ((j:Int)<N ())then _ else _)=_;rw[iX (by omega)];rfl) (λ_ _=>rfl) λ_ _ _ c hc=>⟨c,hc,λ_ h=>h⟩
    have e1:Jc N g f1 (λ_=>(S.size:Int))=f1:=iP (by show¬(S.size:Int)<N ();omega);rw[e1];exact(aq.mono (Q':=PR I.w I.ok) (λ_ _ h=>h.mono Z.ok Z.keep Z.keepM) λ_ _=>rfl).cong (by show(bif decide ((S.size:Int)<N ())then _ else _)=_;rw[iW (by omega)];rfl) (λ_ _=>rfl) λ_ _ _ c hc=>⟨c,hc,λ_ h=>h⟩
   rcases aa hv with hv|⟨rfl,rfl⟩<;>rcases aa ak with ak|⟨rfl,rfl⟩
   ·exact bk a c v v' b au hv ak
   ·exact λJ ae=>H.dis _ k _ _ b (Ne.symm aw) hq U ⟨S,ah,a,v,hv,J⟩ ae
   ·exact λJ ae=>H.dis _ k _ _ b (Ne.symm aw) hq U ⟨S,ah,c,v',ak,ae⟩ J
   exact absurd rfl au
  ·trivial
  exact(H.blk i x A).mono Z rfl rfl (ao i e) (ab i e) λ_ _=>rfl
 ·have bc:∀ {i x},i≠q->i≠k->h[i]? =some x->ZE R i x b->(ZE R q (.fam z s N m g) b\/ZE R k (.gar s n1 f1) b)->False:=λbp bq A J V=>by
   rcases V with V|V
   ·exact H.dis _ _ _ _ b bp A hq J V
   exact H.dis _ _ _ _ b bq A U J V
  rcases al hi J with⟨rfl,V⟩|⟨e1,e2,A,ac⟩<;>rcases al hj ae with⟨rfl,bu⟩|⟨bw,bl,aj,ap⟩
  ·exact a9 rfl
  ·exact bc bw bl aj ap V
  ·exact bc e1 e2 A ac bu
  exact H.dis i j bi bj b a9 A aj ac ap
 ·rcases al A J with⟨rfl,V|V⟩|⟨e1,e2,A,ac⟩
  ·exact H.tokG _ _ b hq rfl V o n
  ·exact H.tokG _ _ b U rfl V o n
  exact H.tokG i x b A bo ac o n
 refine⟨rfl,rfl,rfl,rfl,aJ _,aJ _,λ_ _=>rfl,λb o n U=>(ar b o n).2 U,λ_ _ _ _ _ _=>rfl,λ_ _ _=>rfl,λi x b A J=>.inr ?_⟩;rcases al A J with⟨rfl,V|V⟩|⟨e1,e2,A,ac⟩
 ·exact⟨_,_,hq,V,.inl rfl⟩
 ·exact⟨_,_,U,V,.inr (cF ba bt)⟩
 exact⟨_,x,A,ac,.inl rfl⟩
theorem HR.gar (H:HR G R h) {id s:Nat} {n0:Unit->Int} {f:(Unit->Int)->List AV} (hi:h[id]? =some (.gar s n0 f)) (I:Unit->Int) (f':(Unit->Int)->List AV) (S:Value) (w':World)
  (aw:n0 ()<=I ()) (am:n0 ()=I ()->S=R.hv id)
  (au:w'.os=R.w.os) (ar:w'.tape=R.w.tape) (al:w'.output=R.w.output) (ap:R.w.heap.size<=w'.heap.size)
  (hh:∀b,b<R.w.heap.size->¬ZE R id (.gar s n0 f) b->w'.heap[b]? =R.w.heap[b]?)
  (aq:∀A:RC,R.le A->A.w=w'->(I ()=0/\∃a:Option Addr,S= .slice a 0 0)\/
   ∃(b o len Y:Nat) (arr:Array Value) (ty:TypeId),I ()=(len:Int)/\len<=Y/\S= .slice (some ⟨b,o,none⟩) len Y/\w'.heap[b]? =some (.cells arr ty (0,0))/\o+Y*s<=arr.size/\
    ∀i:Nat,i<len->(f' (λ_=>(i:Int))).length=s/\∀j c,(f' (λ_=>(i:Int)))[j]? =some c->PR A.w A.ok c (arr.getD (o+i*s+j) undef))
  (ac:∀a n c,S= .slice (some a) n c->0<c->R.w.heap.size<=a.block\/ZE R id (.gar s n0 f) a.block):
  ∃A,A.w=w'/\A.hv id=S/\A.hw id=I ()/\A.m=R.m/\HR G A (h.set id (.gar s I f'))/\Xs R h A (h.set id (.gar s I f'))/\R.le A:=by
 have ai:id<R.m:=H.len▸(aE.1 hi).1;obtain⟨ah,_⟩:=H.blk id _ hi;have ao:∀b,ZE R id (.gar s n0 f) b↔(id<R.m/\∃V,h[id]? =some V/\Zaz V=true/\ZE R id V b):=λb=>
  ⟨λhp=>⟨ai,_,hi,rfl,hp⟩,λ⟨_,V,J,_,U⟩=>by rw[hi]at J;cases J;exact U⟩
 have ae:∀b o n,R.ok b o n->¬ZE R id (.gar s n0 f) b:=λb o n Z=>((H.okd _ _ _).1 Z).2.2 id _ hi;obtain⟨A,a1,a2,a3,a4,a5,a6,a7,_⟩:=H.room id R.m (.gar s I f') (I ()) S w' (h.set id (.gar s I f')) (by rw[bW];exact H.len) (aJ _) (λi x=>set_get)
  (λ_=>⟨_,hi,rfl,by rw[ah];exact aw,λe=>am (ah.symm.trans e),.of (H.blk id _ hi).garNo⟩) (λb=>ZE R id (.gar s n0 f) b) ao au ar al ap hh
  (λb o n Z j _=>by
   simp only[bV]
   rw[hh b ((H.okd _ _ _).1 Z).1 (ae b o n Z)])
  (λA aj aa ak ab _=>by
   refine⟨ak,?_⟩;rcases aq A aj aa with⟨J,a,U⟩|⟨b,o,len,Y,arr,ty,J,U,h3,h4,h5,h6⟩
   ·exact .inl ⟨J,a,ab.trans U⟩
   exact .inr ⟨b,o,len,Y,arr,ty,J,U,ab.trans h3,by rw[aa];exact h4,h5,h6⟩)
  (λA hv _ b ⟨a,n,c,J,hc,U⟩=>U▸ac a n c (hv.symm.trans J) hc)
  (λA hv b o n Z ⟨a,l,c,J,hc,U⟩=>by
   rcases ac a l c (hv.symm.trans J) hc with h3|h3
   ·have:=((H.okd _ _ _).1 Z).1;omega
   exact ae b o n Z (U▸h3)) rfl
 exact⟨A,a1,a3,a4,a2,a5,a6,a7⟩
theorem ZeE {s:Nat} {n0 m:Unit->Int} {f g:(Unit->Int)->List AV} {id:Nat} {x:Value} {at_:Array TypeId} {t t' e e' ty:TypeId} {j:TypeInfo} {z:Value}
  (H:HR G R h) (hi:h[id]? =some (.gar s n0 f)) (cj:Src P R s m g x)
  (h0:at_[0]? =some t) (h1:at_[1]? =some t') (hu:P.underlying t=some (.slice e)) (ba:P.underlying t'=some (.slice e')) (hj:P.info? e=some j) (hz:j.zero=some z) (ck:z.cells.size=s) (cu:j.size=s) (hb:j.bytes<=1000000)
  (da:n0 ()+m ()<=1000000):
  ∃u I,(Builtin.append_ at_ ty #[R.hv id,x]).run P R.w= .ok u I.w/\HR G I (h.set id (.gar s (λ_=>n0 ()+m ()) (Z2 n0 f g)))/\Xs R h I (h.set id (.gar s (λ_=>n0 ()+m ()) (Z2 n0 f g)))/\R.le I/\VR I (.gsl id λ_=>n0 ()+m ()) u:=by
 have ar:id<R.m:=H.len▸(aE.1 hi).1;obtain⟨xa,nn,xc,db,new,rfl,hm,dc,c9,aj,au,a9,ah,aw⟩:=cj;subst cu;obtain⟨dh,cg⟩:=H.blk id _ hi;have bz:∀k,k<nn*j.size->k/j.size<nn/\k%j.size<j.size/\k/j.size*j.size+k%j.size=k:=λk J=>by
  have hs:0<j.size:=eg (λe=>by rw[e]at J;simp at J);exact⟨(dN hs).2 J,eE _ hs,eZ k j.size⟩
 have ac:∀ {i k c len:Nat},k<c->i<len->i*c+k<len*c:=λ{i k c len} J hi=>by
  have:(i+1)*c<=len*c:=aL _ hi;rw[bI]at this;omega
 have be:∀(base:Option Addr) (S vc:Nat) (old:List Value),R.hv id= .slice base S vc->n0 ()=(S:Int)->(base=none->vc=0)->S<=vc->old.length=S*j.size->(∀w':World,w'.heap=R.w.heap->(Builtin.firstCells j.size S (.slice base S vc)).run P w'= .ok old.toArray w')->
   (∀i:Nat,i<S->(f (λ_=>(i:Int))).length=j.size/\∀k c,(f (λ_=>(i:Int)))[k]? =some c->PR R.w R.ok c (old.getD (i*j.size+k) undef))->¬S+nn<=vc->
   ∃u I,(Builtin.append_ at_ ty #[R.hv id,.slice xa nn xc]).run P R.w= .ok u I.w/\HR G I (h.set id (.gar j.size (λ_=>n0 ()+m ()) (Z2 n0 f g)))/\Xs R h I (h.set id (.gar j.size (λ_=>n0 ()+m ()) (Z2 n0 f g)))/\R.le I/\VR I (.gsl id λ_=>n0 ()+m ()) u:=by
  intro base S vc old hv hn dg bc bt cf bh bm;obtain⟨Z,d,aa,bw,cw,ca⟩:=JI (P:=P) (ty:=ty) h0 h1 hu ba hj hz hb base xa S vc xc nn old.toArray new.toArray R.w (λw' hw=>au w' hw) cf bm (by omega);have ci:(old.toArray++new.toArray++aa).size=Z*j.size:=by
   rw[eS,eS,cw,ck];simp only[dV,bt,aj];rw[<-dI,<-dI];congr 1;omega
  have bp:∀b,b<R.w.heap.size->(R.w.heap.push (.cells (old.toArray++new.toArray++aa) e))[b]? =R.w.heap[b]? :=λb hb=>by rw[bK,iP (by omega)]
  have bl:(R.w.heap.push (.cells (old.toArray++new.toArray++aa) e))[R.w.heap.size]? =some (.cells (old.toArray++new.toArray++aa) e (0,0)):=by simp
  have ai:∀k,(old.toArray++new.toArray++aa).getD k undef=if k<old.length then old.getD k undef else if k<old.length+new.length then new.getD (k-old.length) undef else aa.getD (k-old.length-new.length) undef:=λk=>by
   simp only[aI,aA];by_cases h1:k<old.length
   ·rw[iQ h1,dC,dF (by simpa using h1)];simp
   rw[iP h1];by_cases h2:k<old.length+new.length
   ·rw[iQ h2,dF (by simpa using h2),dX (by simpa using fv h1)];simp
   rw[iP h2,dX (by simpa using fv h2)];simp[iN]
  have bk:∀I:RC,R.le I->∀i:Nat,i<S+nn->(Z2 n0 f g (λ_=>(i:Int))).length=j.size/\∀k c,(Z2 n0 f g (λ_=>(i:Int)))[k]? =some c->PR I.w I.ok c ((old.toArray++new.toArray++aa).getD (0+i*j.size+k) undef):=λI A i Y=>by
   by_cases hil:i<S
   ·rw[Q6 hn hil];refine⟨(bh i hil).1,λk c J=>?_⟩;have U:k<j.size:=by rw[<-(bh i hil).1];exact(aE.1 J).1
    have:=ac U hil;rw[dB,ai,iQ (by omega)];exact((bh i hil).2 k c J).mono A.ok A.keep A.keepM
   rw[QG hn (by omega)];refine⟨ah _ (by omega),λk c J=>?_⟩;have U:k<j.size:=by rw[<-ah (i-S) (by omega)];exact(aE.1 J).1
   have e1:=ac (i:=i) (len:=S+nn) U Y;have e2:=ac (i:=i-S) (len:=nn) U (by omega);have e3:S*j.size<=i*j.size:=aL _ (by omega);have e4:(i-S)*j.size=i*j.size-S*j.size:=gk ..;rw[dB,ai,iP (by omega),iQ (by omega),bt,show i*j.size+k-S*j.size=(i-S)*j.size+k from by omega,aA,a9 (i-S) k (by omega) U];exact(aw (i-S) k c (by omega) J).mono A.ok A.keep A.keepM
  obtain⟨I,hw,al,ao,ap,H',hx,A⟩:=H.gar hi (λ_=>n0 ()+m ()) (Z2 n0 f g) (.slice (some ⟨R.w.heap.size,0,none⟩) (S+nn) Z) {R.w with drawn:=d,heap:=R.w.heap.push (.cells (old.toArray++new.toArray++aa) e)}
   (by show n0 ()<=n0 ()+m ();omega) (λe=>by have e:n0 ()=n0 ()+m ():=e;omega) rfl rfl rfl (by show _<=(R.w.heap.push _).size;simp) (λb hb _=>bp b hb)
   (λI A cn=>.inr ⟨R.w.heap.size,0,S+nn,Z,_,e,by show n0 ()+m ()=_;omega,bw,rfl,bl,by rw[ci];omega,λi Y=>bk I A i Y⟩)
   (λa k c he _=>by cases he;exact .inl (aJ _))
  exact⟨_,I,by rw[hv,ca,hw],H',hx,A,.gsl _ _ _ _ _ (by rw[ap];exact ar) (by rw[ao];exact bR _) (λ_=>al.symm) ⟨by show n0 ()+m ()=_;omega,.inr ⟨_,_,rfl⟩⟩⟩
 have zero:∀a0:Option Addr,n0 ()=0->R.hv id= .slice a0 0 0->∃u I,(Builtin.append_ at_ ty #[R.hv id,.slice xa nn xc]).run P R.w= .ok u I.w/\HR G I (h.set id (.gar j.size (λ_=>n0 ()+m ()) (Z2 n0 f g)))/\Xs R h I (h.set id (.gar j.size (λ_=>n0 ()+m ()) (Z2 n0 f g)))/\R.le I/\VR I (.gsl id λ_=>n0 ()+m ()) u:=by
  intro a0 bq ab;by_cases hnn:nn=0
  ·subst hnn;obtain⟨I,hw,al,ao,ap,H',hx,A⟩:=H.gar hi (λ_=>n0 ()+m ()) (Z2 n0 f g) (.slice a0 0 0) R.w
    (by show n0 ()<=n0 ()+m ();omega) (λ_=>ab.symm) rfl rfl rfl (aJ _) (λ_ _ _=>rfl) (λI _ _=>.inl ⟨by show n0 ()+m ()=0;omega,a0,rfl⟩) (λa k c he h0=>by cases he;omega)
   refine⟨.slice a0 0 0,I,?_,H',hx,A,.gsl _ _ _ _ _ (by rw[ap];exact ar) (by rw[ao];exact bR _) (λ_=>al.symm) ⟨by show n0 ()+m ()=_;omega,.inl rfl⟩⟩;rw[ab,hw];have bu:new=[]:=cP (by rw[aj,ep]);exact Qr h0 h1 hu ba hj a0 xa 0 0 xc 0 new.toArray R.w R.w (au _ rfl) (aJ _) (λa ha=>by rw[bu];rfl) (λ_=>rfl)
  exact be a0 0 0 [] ab (by omega) (λ_=>rfl) (aJ _) (by simp) (λw' _=>by
   cases a0 with
   |none=>rfl
   |some a0=>exact J9 w' a0 _ 0 0) (λi hi=>by omega) (by omega)
 rcases cg with⟨bq,a0,ab⟩|⟨b,o,len,Z,arr,am,hn,bc,ab,aq,b9,ae⟩
 ·exact zero a0 bq ab
 rcases cJ Z with ak|ak
 ·exact zero (some ⟨b,o,none⟩) (by omega) (by rw[ab,ak,show len=0 by omega])
 have az:ZE R id (.gar j.size n0 f) b:=⟨_,_,_,ab,ak,rfl⟩;have c6:len*j.size<=Z*j.size:=aL _ bc;by_cases hrm:len+nn<=Z
 ·have c8:(len+nn)*j.size<=Z*j.size:=aL _ hrm;have cz:(len+nn)*j.size=len*j.size+nn*j.size:=dI ..;have bx:∀v∈new,v.oneCell'=true:=λv cr=>by
   obtain⟨k,J,rfl⟩:=ed cr;obtain⟨f1,f2,f3⟩:=bz k (aj▸J);have e1:=a9 _ _ f1 f2;rw[f3,aC J,aD]at e1;rw[e1];exact(aw _ _ _ f1 (aC (by rw[ah _ f1];exact f2))).one
  let V:=(arr.toList.take (o+len*j.size+0)++new++arr.toList.drop (o+len*j.size+0+new.length)).toArray;have cq:=run_storeCells_at P b (o+len*j.size) am new 0 arr R.w aq (by rw[aj];omega) bx;have bg:∀b',b'≠b->(R.w.setRow b V).heap[b']? =R.w.heap[b']? :=λb' hb=>setRow_other R.w b b' _ hb;have bo:(R.w.setRow b V).heap[b]? =some (.cells V am (0,0)):=setRow_heap R.w b arr _ am _ aq;have ce:V.size=arr.size:=by
   simp only[V,dV,bf,bT,dL,cW,aj];omega
  have ai:∀k,V.getD k undef=if o+len*j.size<=k/\k<o+len*j.size+new.length then new.getD (k-(o+len*j.size)) undef else arr.getD k undef:=λk=>
   XW arr new (o+len*j.size+0) k (by rw[aj];omega)
  have bk:∀I:RC,R.le I->∀i:Nat,i<len+nn->(Z2 n0 f g (λ_=>(i:Int))).length=j.size/\∀k c,(Z2 n0 f g (λ_=>(i:Int)))[k]? =some c->PR I.w I.ok c (V.getD (o+i*j.size+k) undef):=λI A i Y=>by
   by_cases hil:i<len
   ·rw[Q6 hn hil];refine⟨(ae i hil).1,λk c J=>?_⟩;have U:k<j.size:=by rw[<-(ae i hil).1];exact(aE.1 J).1
    have:=ac U hil;rw[ai,iP (by omega)];exact((ae i hil).2 k c J).mono A.ok A.keep A.keepM
   rw[QG hn (by omega)];refine⟨ah _ (by omega),λk c J=>?_⟩;have U:k<j.size:=by rw[<-ah (i-len) (by omega)];exact(aE.1 J).1
   have e1:=ac (i:=i) (len:=len+nn) U Y;have e2:=ac (i:=i-len) (len:=nn) U (by omega);have e3:len*j.size<=i*j.size:=aL _ (by omega);have e4:(i-len)*j.size=i*j.size-len*j.size:=gk ..;rw[ai,iQ (by rw[aj];omega),show o+i*j.size+k-(o+len*j.size)=(i-len)*j.size+k from by omega,aA,a9 (i-len) k (by omega) U];exact(aw (i-len) k c (by omega) J).mono A.ok A.keep A.keepM
  obtain⟨I,hw,al,ao,ap,H',hx,A⟩:=H.gar hi (λ_=>n0 ()+m ()) (Z2 n0 f g) (.slice (some ⟨b,o,none⟩) (len+nn) Z) (R.w.setRow b V)
   (by show n0 ()<=n0 ()+m ();omega) (λe=>by have e:n0 ()=n0 ()+m ():=e;rw[ab,show nn=0 from by omega,dS]) rfl rfl rfl (by simp[World.setRow]) (λb' _ ct=>bg b' (λe=>ct (e▸az)))
   (λI A cn=>.inr ⟨b,o,len+nn,Z,V,am,by show n0 ()+m ()=_;omega,hrm,rfl,bo,by rw[ce];exact b9,λi Y=>bk I A i Y⟩)
   (λa k c he _=>by cases he;exact .inr az)
  refine⟨_,I,?_,H',hx,A,.gsl _ _ _ _ _ (by rw[ap];exact ar) (by rw[ao];exact bR _) (λ_=>al.symm) ⟨by show n0 ()+m ()=_;omega,.inr ⟨_,_,rfl⟩⟩⟩;rw[ab,hw]
  exact Qr h0 h1 hu ba hj _ xa len Z xc nn new.toArray R.w _ (au _ rfl) hrm (λa ha=>by
   cases ha;rw[QI]
   exact cq) (λh=>by cases h)
 have cy:∀k,k<len*j.size->o+k<arr.size:=λk J=>by omega
 refine be (some ⟨b,o,none⟩) len Z ((aT (len*j.size)).map λk=>arr.getD (o+k) undef) ab hn (λh=>by cases h) bc (by simp) (λw' hw=>?_) (λi Y=>⟨(ae i Y).1,λk c J=>?_⟩) hrm
 ·have:=run_loadCells (P:=P) w' ⟨b,o,none⟩ (len*j.size) (λk=>arr.getD (o+k) undef) (λk J=>by
   rw[QI];have:w'.heap[b]? =some (.cells arr am (0,0)):=by rw[hw];exact aq
   exact Z4 this (cy k J))
  simpa [Builtin.firstCells]using this
 have U:k<j.size:=by rw[<-(ae i Y).1];exact(aE.1 J).1
 have:=ac U Y;rw[aA,aP,cV (by omega)];show PR R.w R.ok c (arr.getD (o+(i*j.size+k)) undef);rw[<-dG];exact(ae i Y).2 k c J
end
end Vm
namespace Vm
open Go
def ZiW (lt:Unit->Bool):AV->AV->Option AV
 |.int k a,.int k' c=>if Jl k k' then some (.int k λ_=>bif lt ()then a ()else c ())else none
 |.bool a,.bool c=>some (.bool λ_=>bif lt ()then a ()else c ())
 |.isl s n f .none,.isl s' m g .none=>if ZK s s' then some (.isl s (λ_=>bif lt ()then n ()else m ()) (λe=>bif lt ()then f e else g e) .none)else none
 |.isl _ _ _ .nil,.isl s' m g .none=>some (.isl s' (λ_=>bif lt ()then 0 else m ()) g .none)
 |_,_=>none
def Qt (lt:Unit->Bool):List AV->List AV->Option (List AV)
 |[],[]=>some []
 |a::r,b::s=>(match ZiW lt a b,Qt lt r s with
  |some x,some l=>some (x::l)
  |_,_=>none)
 |_,_=>none
instance decRow (m:Int) (f:Nat->Bool):Decidable (∀i:Nat,(i:Int)<m->f i=true):=decidable_of_iff ((aT m.toNat).all f=true) (by
 rw[bM]
 exact⟨λh i hi=>h i (bZ.2 (by omega)),λh i hi=>h i (by have:=bZ.1 hi;omega)⟩)
def Zqo (e v:Unit->Int):Nat->List (Unit->Int)->List AV
 |_,[]=>[]
 |i,a::r=>.int .i64 (λ_=>bif decide (e ()=(i:Int))then v ()else a ())::Zqo e v (i+1) r
def Zqp (e:Unit->Int) (v:Unit->Bool):Nat->List (Unit->Bool)->List AV
 |_,[]=>[]
 |i,a::r=>.bool (λ_=>bif decide (e ()=(i:Int))then v ()else a ())::Zqp e v (i+1) r
def Zu8 (cs:List AV) (e:Unit->Int) (x:AV):Option (List AV):=match x with
 |.int .i64 v=>(match Zh8 cs with
  |some l=>some (Zqo e v 0 l)
  |none=>none)
 |.bool v=>(match ZeP cs with
  |some l=>some (Zqp e v 0 l)
  |none=>none)
 |_=>none
theorem Zj0 (e v:Unit->Int) (q:Nat) (A:e ()=(q:Int)):∀(l:List (Unit->Int)) (k:Nat),Zqo e v k l=if k<=q then((l.map (AV.int .i64)).set (q-k) (.int .i64 v))else l.map (AV.int .i64)
 |[],k=>by split<;>simp[Zqo]
 |a::r,k=>by
  have G:=Zj0 e v q A r (k+1);simp only[Zqo,G,A];by_cases hk:k<=q
  ·by_cases hq:q=k
   ·subst hq;rw[iQ (aJ _),iP (by omega),eJ];simp
   rw[iQ hk,iQ (by omega),show q-k=(q-(k+1))+1 by omega];have:¬((q:Int)=(k:Int)):=by omega
   simp[this]
  rw[iP hk,iP (by omega)];have:¬((q:Int)=(k:Int)):=by omega
  simp[this]
theorem Zj1 (e:Unit->Int) (v:Unit->Bool) (q:Nat) (A:e ()=(q:Int)):∀(l:List (Unit->Bool)) (k:Nat),Zqp e v k l=if k<=q then((l.map AV.bool).set (q-k) (.bool v))else l.map AV.bool
 |[],k=>by split<;>simp[Zqp]
 |a::r,k=>by
  have G:=Zj1 e v q A r (k+1);simp only[Zqp,G,A];by_cases hk:k<=q
  ·by_cases hq:q=k
   ·subst hq;rw[iQ (aJ _),iP (by omega),eJ];simp
   rw[iQ hk,iQ (by omega),show q-k=(q-(k+1))+1 by omega];have:¬((q:Int)=(k:Int)):=by omega
   simp[this]
  rw[iP hk,iP (by omega)];have:¬((q:Int)=(k:Int)):=by omega
  simp[this]
theorem ZsN {cs A:List AV} {e:Unit->Int} {x:AV} (h:Zu8 cs e x=some A) {q:Nat} (I:e ()=(q:Int)):A=cs.set q x/\ZlU x=true/\x.cellsOf=[x]:=by
 unfold Zu8 at h;split at h
 ·split at h
  ·rename_i v _ l G;cases h;obtain⟨J,H⟩:=Zex G;have:cs=l.map (AV.int .i64):=ew λi=>by
    rw[aP];by_cases hi:i<l.length
    ·rw[H i hi,aC hi];rfl
    rw[cD (by omega),cD (by omega)];rfl
   rw[Zj0 e v q I,iQ (aV _),this];exact⟨rfl,rfl,rfl⟩
  cases h
 ·split at h
  ·rename_i v _ l G;cases h;obtain⟨J,H⟩:=Zds G;have:cs=l.map AV.bool:=ew λi=>by
    rw[aP];by_cases hi:i<l.length
    ·rw[H i hi,aC hi];rfl
    rw[cD (by omega),cD (by omega)];rfl
   rw[Zj1 e v q I,iQ (aV _),this];exact⟨rfl,rfl,rfl⟩
  cases h
 cases h
def ZcQ (T:TI) (id s:Nat) (e:Unit->Int) (off:Nat) (x:AV) (h:List Zi):Option (AV×List Zi×Cd):=match h[id]? with
 |some (.arr s' m f)=>if ZK s s'&&plain x&&ZK x.cellsOf.length T.size&&ZK (f e).length s&&Qd (off+T.size) s&&(x.cellsOf.map purify).all XY then
   some (.undef,h.set id (.arr s m λG=>(Qt (λ_=>decide (G ()=e ())) (putC (f e) off (x.cellsOf.map purify)) (f G)).getD []),
    [dd λ_=>0<=e ()/\e ()<m (),dd λ_=>∀i:Nat,(i:Int)<m ()->(Qt (λ_=>decide ((i:Int)=e ())) (putC (f e) off (x.cellsOf.map purify)) (f λ_=>(i:Int))).isSome=true])else none
 |some (.cells cs)=>if ZK s 1&&ZK off 0&&ZK T.size 1 then(match Zu8 cs e x with
  |some A=>some (.undef,h.set id (.cells A),bnd e cs.length)
  |none=>none)else none
 |_=>none
def ZcK (T:TI) (id s:Nat) (n e:Unit->Int) (off:Nat) (x:AV) (h:List Zi):Option (AV×List Zi×Cd):=match h[id]? with
 |some (.gar s' m f)=>if ZK s s'&&plain x&&ZK x.cellsOf.length T.size&&Qd (off+T.size) s&&(x.cellsOf.map purify).all XY then
   some (.undef,h.set id (.gar s m λA=>putC (f A) off ((Qt (λ_=>decide (A ()=e ())) (x.cellsOf.map purify) (((f A).drop off).take T.size)).getD [])),
    [dd λ_=>n ()=m ()/\0<=e ()/\e ()<m (),dd λ_=>∀i:Nat,(i:Int)<m ()->(Qt (λ_=>decide ((i:Int)=e ())) (x.cellsOf.map purify) (((f λ_=>(i:Int)).drop off).take T.size)).isSome=true])else none
 |_=>none
def Jk (T:TI) (z:Option Value) (n c:AV) (h:List Zi):Option (AV×List Zi×Cd):=match T.k,n,c,z with
 |.slice _ s b,.int _ x,.int _ y,some z=>if ZK z.cells.size s&&Qd b 1000000&&((XQ z).cellsOf.map purify).all XY then
   some (.msl h.length s (λ_=>0) x x,h++[.arr s x λ_=>(XQ z).cellsOf.map purify],[dd λ_=>0<=x ()/\x ()=y ()/\x ()<=1000000])else none
 |_,_,_,_=>none
def Zg6 (z:Option Value) (s0:Nat) (x:AV) (h:List Zi):Option (AV×List Zi×Cd):=match x,z with
 |.msl id s o n _,some z=>if ZK s s0 then(match h[id]? with
  |some (.arr s' m f)=>if ZK s s'&&ZK z.cells.size s&&((XQ z).cellsOf.map purify).all XY then
    some (.undef,h.set id (.arr s m λe=>(Qt (λ_=>decide (o ()<=e ()/\e ()<o ()+n ())) ((XQ z).cellsOf.map purify) (f e)).getD []),
    [dd λ_=>0<=o ()/\o ()+n ()<=m (),dd λ_=>∀i:Nat,(i:Int)<m ()->(Qt (λ_=>decide (o ()<=(i:Int)/\(i:Int)<o ()+n ())) ((XQ z).cellsOf.map purify) (f λ_=>(i:Int))).isSome=true])else none
  |_=>none)else none
 |_,_=>none
section
variable {P:Program} {R:RC} {G:Nat->Nat->Nat->Prop} {h:List Zi}
structure Mx (lt:Unit->Bool) (a c x:AV):Prop where
 t:lt ()=true->∀ {w:World} {ok:Nat->Nat->Nat->Prop} {u:Value},PR w ok a u->PR w ok x u
 f:lt ()=false->∀ {w:World} {ok:Nat->Nat->Nat->Prop} {u:Value},PR w ok c u->PR w ok x u
 vt:lt ()=true->∀ {R:RC} {u:Value},VR R a u->VR R x u
 vf:lt ()=false->∀ {R:RC} {u:Value},VR R c u->VR R x u
theorem ZsV {lt:Unit->Bool} {a c x:AV} (h:ZiW lt a c=some x):Mx lt a c x:=by
 unfold ZiW at h;split at h
 ·rename_i k p k' q;split at h
  ·rename_i H;have H:=Zew H;subst H;cases h;refine⟨λA=>?_,λA=>?_,λA=>?_,λA=>?_⟩
   ·have:(λ_:Unit=>bif lt ()then p ()else q ())=p:=funext λ_=>by rw[A];rfl
    rw[this];intros;assumption
   ·have:(λ_:Unit=>bif lt ()then p ()else q ())=q:=funext λ_=>by rw[A];rfl
    rw[this];intros;assumption
   ·have:(λ_:Unit=>bif lt ()then p ()else q ())=p:=funext λ_=>by rw[A];rfl
    rw[this];intros;assumption
   have:(λ_:Unit=>bif lt ()then p ()else q ())=q:=funext λ_=>by rw[A];rfl
   rw[this];intros;assumption
  cases h
 ·rename_i p q;cases h;refine⟨λA=>?_,λA=>?_,λA=>?_,λA=>?_⟩
  ·have:(λ_:Unit=>bif lt ()then p ()else q ())=p:=funext λ_=>by rw[A];rfl
   rw[this];intros;assumption
  ·have:(λ_:Unit=>bif lt ()then p ()else q ())=q:=funext λ_=>by rw[A];rfl
   rw[this];intros;assumption
  ·have:(λ_:Unit=>bif lt ()then p ()else q ())=p:=funext λ_=>by rw[A];rfl
   rw[this];intros;assumption
  have:(λ_:Unit=>bif lt ()then p ()else q ())=q:=funext λ_=>by rw[A];rfl
  rw[this];intros;assumption
 ·rename_i s n f V m g;split at h
  ·rename_i H;have H:=ZF H;subst H;cases h;refine⟨λA=>?_,λA=>?_,λA=>?_,λA=>?_⟩
   ·have G:(λ_:Unit=>bif lt ()then n ()else m ())=n:=funext λ_=>by rw[A];rfl
    have I:(λe:Unit->Int=>bif lt ()then f e else g e)=f:=funext λ_=>by rw[A];rfl
    rw[G,I];intros;assumption
   ·have G:(λ_:Unit=>bif lt ()then n ()else m ())=m:=funext λ_=>by rw[A];rfl
    have I:(λe:Unit->Int=>bif lt ()then f e else g e)=g:=funext λ_=>by rw[A];rfl
    rw[G,I];intros;assumption
   ·have G:(λ_:Unit=>bif lt ()then n ()else m ())=n:=funext λ_=>by rw[A];rfl
    have I:(λe:Unit->Int=>bif lt ()then f e else g e)=f:=funext λ_=>by rw[A];rfl
    rw[G,I];intros;assumption
   have G:(λ_:Unit=>bif lt ()then n ()else m ())=m:=funext λ_=>by rw[A];rfl
   have I:(λe:Unit->Int=>bif lt ()then f e else g e)=g:=funext λ_=>by rw[A];rfl
   rw[G,I];intros;assumption
  cases h
 ·rename_i Z n f V m g;cases h;have J:lt ()=true->∀ {w:World} {ok:Nat->Nat->Nat->Prop} {u:Value},PR w ok (.isl Z n f .nil) u->PR w ok (.isl V (λ_=>bif lt ()then 0 else m ()) g .none) u:=λA w ok u U=>by
   have Y:(λ_:Unit=>bif lt ()then(0:Int)else m ()) ()=0:=by
    show(bif lt ()then(0:Int)else m ())=0;rw[A];rfl
   cases U with
   |isl0 _ _ _ _ hz S=>exact .isl0 _ _ _ _ Y rfl
   |islE _ _ _ _ a hz S=>exact .islE _ _ _ _ a Y (.inl rfl)
   |isl _ _ _ _ b o len aa us hn hc S=>rcases S with h|h<;>cases h
  have G:lt ()=false->(λ_:Unit=>bif lt ()then(0:Int)else m ())=m:=λA=>funext λ_=>by rw[A];rfl
  refine⟨λA=>J A,λA=>?_,λA R u hv=>?_,λA=>?_⟩
  ·rw[G A];intros;assumption
  ·cases hv with
   |pure _ _ U=>exact .pure _ _ (J A U)
  rw[G A];intros;assumption
 cases h
theorem Yk {lt:Unit->Bool}:∀ {new old l:List AV},Qt lt new old=some l->new.length=l.length/\old.length=l.length/\
  ∀(j:Nat) (x:AV),l[j]? =some x->∃a c,new[j]? =some a/\old[j]? =some c/\Mx lt a c x
 |[],[],l,h=>by
  simp only[Qt,aD]at h;subst h;exact⟨rfl,rfl,λj x A=>by simp at A⟩
 |[],_::_,l,h=>by simp[Qt]at h
 |_::_,[],l,h=>by simp[Qt]at h
 |a::r,b::s,l,h=>by
  simp only[Qt]at h;split at h;case h_2=>cases h
  rename_i x U S G;simp only[aD]at h;subst h;obtain⟨I,H,J⟩:=Yk G;refine⟨by simp[I],by simp[H],λj y A=>?_⟩;cases j with
  |zero=>
   simp only[bJ,aD]at A;subst A;exact⟨a,b,rfl,rfl,ZsV S⟩
  |succ j=>exact J j y (by simpa using A)
theorem HR.arrPut (H:HR G R h) {id s:Nat} {m:Unit->Int} {f:(Unit->Int)->List AV} (hi:h[id]? =some (.arr s m f)) (A:Nat) (vs:List Value) (Y:(Unit->Int)->List AV)
  (ab:(A+vs.length:Nat)<=(m ()).toNat*s) (ac:∀v∈vs,v.oneCell'=true) (V:∀i:Nat,(i:Int)<m ()->(Y (λ_=>(i:Int))).length=s)
  (hf:∀i:Nat,(i:Int)<m ()->∀j c,(Y (λ_=>(i:Int)))[j]? =some c->if A<=i*s+j/\i*s+j<A+vs.length then PR R.w R.ok c (vs.getD (i*s+j-A) undef)else∃Z,(f (λ_=>(i:Int)))[j]? =some Z/\∀v,PR R.w R.ok Z v->PR R.w R.ok c v):
  ∃S,(storeCells ⟨(R.α id).b,(R.α id).o+A,none⟩ vs).run P R.w= .ok () S.w/\HR G S (h.set id (.arr s m Y))/\Xs R h S (h.set id (.arr s m Y))/\R.le S:=by
 obtain⟨arr,ty,len,h1,hn,h2,h3⟩:=H.blk id _ hi;have ah:(m ()).toNat=len:=by omega
 rw[ah]at ab;have ae:=run_storeCells_at P (R.α id).b ((R.α id).o+A) ty vs 0 arr R.w h1 (by omega) ac;let J:=(arr.toList.take ((R.α id).o+A+0)++vs++arr.toList.drop ((R.α id).o+A+0+vs.length)).toArray
 obtain⟨S,hw,hm,U,H',hx,I⟩:=H.upd hi rfl (blk':=.arr s m Y) rfl (R.w.setRow (R.α id).b J) rfl rfl rfl (by simp[World.setRow]) (λb hb=>setRow_other R.w (R.α id).b b _ hb) (λS I U hw=>by
  refine⟨J,ty,len,by rw[hw,U];exact setRow_heap R.w _ arr _ ty _ h1,hn,?_,λi aa=>⟨V i (by omega),λj c hj=>?_⟩⟩
  ·rw[U];simp only[J,dV,bf,bT,dL,cW];omega
  have aj:j<s:=by rw[<-V i (by omega)];exact(aE.1 hj).1
  have ai:i*s+s<=len*s:=by
   have:(i+1)*s<=len*s:=aL s aa;rwa [bI]at this
  rw[U,XW arr vs ((R.α id).o+A+0) _ (by omega)];have:=hf i (by omega) j c hj;by_cases hc:A<=i*s+j/\i*s+j<A+vs.length
  ·rw[iQ hc]at this;rw[iQ (by omega),show(R.α id).o+i*s+j-((R.α id).o+A+0)=i*s+j-A from by omega];exact this.mono I.ok I.keep I.keepM
  rw[iP hc]at this;rw[iP (by omega)];obtain⟨Z,t1,t2⟩:=this
  exact(t2 _ ((h3 i aa).2 j Z t1)).mono I.ok I.keep I.keepM)
 exact⟨S,by rw[ae,hw],H',hx,I⟩
theorem Zdn {x:AV} {u:Value} (J:VR R x u) (A:plain x=true) (G:(x.cellsOf.map purify).all XY=true):
  x.cellsOf.length=u.cells.toList.length/\∀j c,(x.cellsOf.map purify)[j]? =some c->PR R.w R.ok c (u.cells.toList.getD j undef):=by
 have hr:=Jp J (λg y e=>by rw[e]at A;cases A) (λe=>by rw[e]at A;cases A);refine⟨by rw[hr.1];simp,λj c H=>?_⟩;rw[aP,aG]at H;obtain⟨y,I,rfl⟩:=H;have hv:=hr.2 j y I;rw[bM]at G;have:=hv.purify (G _ (bE.2 ⟨y,aZ I,rfl⟩));simpa using this
theorem Zgk {l:List AV} {vs:List Value} (G:l.length=vs.length) (h:∀j c,l[j]? =some c->PR R.w R.ok c (vs.getD j undef)):∀v∈vs,v.oneCell'=true:=λv hv=>by
 obtain⟨j,A,rfl⟩:=ed hv;have:=h j l[j] (aC (by omega));rw[aA,aC A]at this;exact this.one
theorem ZkT {t:TypeId} {T:TI} (hT:ZI P t=some T) (H:HR G R h) {id s off:Nat} {e:Unit->Int} {a x:Value} {I v:AV} {h':List Zi} {c:Cd} (ha:VR R (.aptr id s e off) a) (hx:VR R I x)
  (hv:ZcQ T id s e off I h=some (v,h',c)) (hc:ZV c):v= .undef/\∃S,(ek t a x).run P R.w= .ok () S.w/\HR G S h'/\Xs R h S h'/\R.le S:=by
 unfold ZcQ at hv;split at hv;case h_3=>cases hv
 case h_2=>
  rename_i cs hi;split at hv;case isFalse=>cases hv
  rename_i J;simp only[aS]at J;obtain⟨⟨U,e2⟩,V⟩:=J;have U:=ZF U;have e2:=ZF e2;have V:=ZF V;subst U e2;split at hv;case h_2=>cases hv
  rename_i bc ak;cases hv;obtain⟨r1,r2⟩:=(Cn.out (hc _ (aN.2 rfl)));cases ha with
  |pure _ _ Y=>cases Y
  |aptr _ _ _ _ i au he=>
   have ba:i<cs.length:=by omega
   obtain⟨rfl,A,aw⟩:=ZsN ak he;have hr:=Jp hx (λg y e=>by rw[e]at A;cases A) (λe=>by rw[e]at A;cases A);rw[aw]at hr;obtain⟨ti,d,ab,_,ah,_,_,_⟩:=XJ hT;obtain⟨S,aa,hm,bg,H',al,ae⟩:=H.store (P:=P) (off:=i) hi [I] x.cells.toList (by rw[hr.1];simp) (by simp;omega) (λa ha=>by simp at ha;subst ha;exact A) (λj c hj=>by simpa using hr.2 j c hj);refine⟨rfl,S,?_,H',al,ae⟩;simp only[ek,cN,aQ,bC,aH,storeVar,Z6 ab];rw[iP (by have:=hr.1;simp only[List.length_singleton]at this;omega)];rw[Nat.mul_one,dS];exact aa
 rename_i s' m f hi;split at hv;case isFalse=>cases hv
 rename_i J;simp only[aS]at J;obtain⟨⟨⟨⟨⟨U,e2⟩,V⟩,e4⟩,e5⟩,e6⟩:=J;have U:=ZF U;subst U;have V:=ZF V;have e4:=ZF e4;have e5:=Xc e5;simp only[aD,aK]at hv;obtain⟨rfl,rfl,rfl⟩:=hv;obtain⟨bh,be⟩:=(Cn.out (hc _ (aU ..)));have ai:=(Cn.out (hc _ (aR _ (aN.2 rfl))));obtain⟨hl,Y⟩:=Zdn hx e2 e6;obtain⟨i0,d,ab,_,ah,_,_,_⟩:=XJ hT;cases ha with
 |pure _ _ Y=>cases Y
 |aptr _ _ _ _ i au he=>
 obtain⟨arr,ty,len,h1,hn,h2,h3⟩:=H.blk id _ hi;have ar:i<len:=by omega
 have aq:f e=f (λ_=>(i:Int)):=congrArg f (funext λ_=>he);have az:i*s+s<=len*s:=by
  have:(i+1)*s<=len*s:=aL s ar;rwa [bI]at this
 have am:(I.cellsOf.map purify).length=x.cells.toList.length:=by rw[bA];exact hl
 refine⟨rfl,?_⟩;have ac:∀k:Nat,(k:Int)<m ()->∃row,Qt (λ_=>decide ((k:Int)=e ())) (putC (f e) off (I.cellsOf.map purify)) (f λ_=>(k:Int))=some row:=λk hk=>dW.1 (ai k hk);obtain⟨S,aa,H',ap,ae⟩:=H.arrPut (P:=P) hi (i*s+off) x.cells.toList (λe'=>(Qt (λ_=>decide (e' ()=e ())) (putC (f e) off (I.cellsOf.map purify)) (f e')).getD [])
  (by rw[show(m ()).toNat=len from by omega];omega) (Zgk am Y) (λk hk=>by
   obtain⟨row,hr⟩:=ac k hk;simp only[hr,bY];obtain⟨g1,_,_⟩:=Yk hr;rw[<-g1,Yh]
   exact e4) (λk hk j c hj=>by
   obtain⟨row,hr⟩:=ac k hk;simp only[hr,bY]at hj;obtain⟨g1,g2,g3⟩:=Yk hr;obtain⟨a1,c1,Z,n2,mx⟩:=g3 j c hj;have a9:j<s:=by rw[<-e4,<-Yh (I.cellsOf.map purify) (f e) off];exact(aE.1 Z).1
   by_cases hki:k=i
   ·subst hki;have hd:decide ((k:Int)=e ())=true:=iX he.symm;rw[ZaU _ _ _ _ (by rw[bA,V,e4];exact e5)]at Z;by_cases hin:off<=j/\j<off+(I.cellsOf.map purify).length
    ·rw[iQ hin]at Z;rw[iQ (by omega),show k*s+j-(k*s+off)=j-off from by omega];exact mx.t hd (Y _ _ Z)
    rw[iP hin]at Z;rw[iP (by omega)];exact⟨a1,by rw[<-aq];exact Z,λv h=>mx.t hd h⟩
   have hd:decide ((k:Int)=e ())=false:=iW (by omega)
   rw[iP (by
    rcases fg hki with aj|ao
    ·have:(k+1)*s<=i*s:=aL s aj;rw[bI]at this;omega
    have:(i+1)*s<=k*s:=aL s ao;rw[bI]at this
    omega)]
   exact⟨c1,n2,λv h=>mx.f hd h⟩)
 refine⟨S,?_,H',ap,ae⟩;simp only[ek,cN,aQ,bC,aH,storeVar,Z6 ab];rw[iP (by rw[<-ah,<-V,hl];simp),dG];exact aa
theorem HR.garPut (H:HR G R h) {id s:Nat} {m:Unit->Int} {f:(Unit->Int)->List AV} (hi:h[id]? =some (.gar s m f)) {b o len cap:Nat} {arr:Array Value} {ty:TypeId} (aj:0<len) (hn:m ()=(len:Int)) (ac:len<=cap) (aa:R.hv id= .slice (some ⟨b,o,none⟩) len cap) (h1:R.w.heap[b]? =some (.cells arr ty (0,0))) (h2:o+cap*s<=arr.size)
  (h3:∀i:Nat,i<len->(f (λ_=>(i:Int))).length=s/\∀j c,(f (λ_=>(i:Int)))[j]? =some c->PR R.w R.ok c (arr.getD (o+i*s+j) undef)) (A:Nat) (vs:List Value) (V:(Unit->Int)->List AV)
  (al:A+vs.length<=len*s) (ae:∀v∈vs,v.oneCell'=true) (U:∀i:Nat,(i:Int)<m ()->(V (λ_=>(i:Int))).length=s)
  (hf:∀i:Nat,(i:Int)<m ()->∀j c,(V (λ_=>(i:Int)))[j]? =some c->if A<=i*s+j/\i*s+j<A+vs.length then PR R.w R.ok c (vs.getD (i*s+j-A) undef)else∃Z,(f (λ_=>(i:Int)))[j]? =some Z/\∀v,PR R.w R.ok Z v->PR R.w R.ok c v):
  ∃S,(storeCells ⟨b,o+A,none⟩ vs).run P R.w= .ok () S.w/\HR G S (h.set id (.gar s m V))/\Xs R h S (h.set id (.gar s m V))/\R.le S:=by
 have ak:len*s<=cap*s:=aL s ac;have ah:=run_storeCells_at P b (o+A) ty vs 0 arr R.w h1 (by omega) ae;have Y:ZE R id (.gar s m f) b:=⟨_,_,_,aa,by omega,rfl⟩;let J:=(arr.toList.take (o+A+0)++vs++arr.toList.drop (o+A+0+vs.length)).toArray
 obtain⟨S,hw,aq,ao,ap,H',hx,I⟩:=H.gar hi m V (R.hv id) (R.w.setRow b J) (bR _) (λ_=>rfl) rfl rfl rfl (by simp[World.setRow]) (λb' _ ai=>setRow_other R.w b b' _ (λe=>ai (e▸Y))) (λS I hw=>by
  refine .inr ⟨b,o,len,cap,J,ty,hn,ac,aa,setRow_heap R.w _ arr _ ty _ h1,?_,λi ab=>⟨U i (by omega),λj c hj=>?_⟩⟩
  ·simp only[J,dV,bf,bT,dL,cW];omega
  ·have ar:j<s:=by rw[<-U i (by omega)];exact(aE.1 hj).1
   have am:i*s+s<=len*s:=by
    have:(i+1)*s<=len*s:=aL s ab;rwa [bI]at this
   rw[XW arr vs (o+A+0) _ (by omega)];have:=hf i (by omega) j c hj;by_cases hc:A<=i*s+j/\i*s+j<A+vs.length
   ·rw[iQ hc]at this;rw[iQ (by omega),show o+i*s+j-(o+A+0)=i*s+j-A from by omega];exact this.mono I.ok I.keep I.keepM
   rw[iP hc]at this;rw[iP (by omega)];obtain⟨Z,t1,t2⟩:=this
   exact(t2 _ ((h3 i ab).2 j Z t1)).mono I.ok I.keep I.keepM)
  (λa n c e h0=>.inr ⟨a,n,c,e,h0,rfl⟩)
 exact⟨S,by rw[ah,hw],H',hx,I⟩
theorem Zkt {t:TypeId} {T:TI} (hT:ZI P t=some T) (H:HR G R h) {id s off:Nat} {n e:Unit->Int} {a x:Value} {V v:AV} {h':List Zi} {c:Cd} (ha:VR R (.gptr id s n e off) a) (hx:VR R V x)
  (hv:ZcK T id s n e off V h=some (v,h',c)) (hc:ZV c):v= .undef/\∃S,(ek t a x).run P R.w= .ok () S.w/\HR G S h'/\Xs R h S h'/\R.le S:=by
 unfold ZcK at hv;split at hv;case h_2=>cases hv
 rename_i s' m f hi;split at hv;case isFalse=>cases hv
 rename_i ac;simp only[aS]at ac;obtain⟨⟨⟨⟨e1,e2⟩,Y⟩,e5⟩,e6⟩:=ac;have e1:=ZF e1;subst e1;have Y:=ZF Y;have e5:=Xc e5;simp only[aD,aK]at hv;obtain⟨rfl,rfl,rfl⟩:=hv;obtain⟨au,bo,bl⟩:=(Cn.out (hc _ (aU ..)));have ah:=(Cn.out (hc _ (aR _ (aN.2 rfl))));obtain⟨hl,hp⟩:=Zdn hx e2 e6;obtain⟨i0,d,ap,_,am,_,_,_⟩:=XJ hT;cases ha with
 |pure _ _ hp=>cases hp
 |gptr _ _ _ _ _ a bm bk he=>
 obtain⟨aj,al⟩:=H.blk id _ hi;obtain⟨b,o,i,len,bh,g0,aw,rfl⟩:=he (by rw[au,aj]);rcases al with⟨be,_⟩|⟨b',o',ba,a9,arr,ty,hn,ar,g3,h1,h2,h3⟩
 ·omega
 rw[g0]at g3;cases g3;have aq:i<len:=by omega
 have bc:i*s+s<=len*s:=by
  have:(i+1)*s<=len*s:=aL s aq;rwa [bI]at this
 have ae:(V.cellsOf.map purify).length=T.size:=by rw[bA];exact Y
 have J:x.cells.toList.length=T.size:=by rw[<-hl];exact Y
 refine⟨rfl,?_⟩;have ai:∀k:Nat,(k:Int)<m ()->∃row,Qt (λ_=>decide ((k:Int)=e ())) (V.cellsOf.map purify) (((f λ_=>(k:Int)).drop off).take T.size)=some row:=λk Z=>dW.1 (ah k Z);obtain⟨S,ak,H',ao,az⟩:=H.garPut (P:=P) hi (by omega) hn ar g0 h1 h2 h3 (i*s+off) x.cells.toList (λe'=>putC (f e') off ((Qt (λ_=>decide (e' ()=e ())) (V.cellsOf.map purify) (((f e').drop off).take T.size)).getD []))
  (by omega) (Zgk (by rw[ae,J]) hp) (λk Z=>by
   rw[Yh]
   exact(h3 k (by omega)).1) (λk Z j c I=>by
   obtain⟨row,hr⟩:=ai k Z;have aa:=(h3 k (by omega)).1;obtain⟨g1,g2,g3⟩:=Yk hr;simp only[hr,bY]at I;have ab:row.length=T.size:=by rw[<-g1];exact ae
   rw[ZaU _ _ _ _ (by rw[ab,aa];exact e5),ab]at I;by_cases hin:off<=j/\j<off+T.size
   ·rw[iQ hin]at I;obtain⟨a1,c1,n1,n2,mx⟩:=g3 _ c I;by_cases hki:k=i
    ·subst hki;have hd:decide ((k:Int)=e ())=true:=iX aw.symm;rw[iQ (by rw[J];omega),show k*s+j-(k*s+off)=j-off from by omega];exact mx.t hd (hp _ _ n1)
    have hd:decide ((k:Int)=e ())=false:=iW (by omega)
    rw[iP (by
     rw[J];rcases fg hki with A|U
     ·have:(k+1)*s<=i*s:=aL s A;rw[bI]at this;omega
     have:(i+1)*s<=k*s:=aL s U;rw[bI]at this
     omega)]
    rw[cR,iQ (by omega),cT,show off+(j-off)=j from by omega]at n2;exact⟨c1,n2,λv h=>mx.f hd h⟩
   rw[iP hin]at I;have bg:j<s:=by rw[<-aa];exact(aE.1 I).1
   rw[iP (by
    rw[J];by_cases hki:k=i
    ·subst hki;omega
    rcases fg hki with A|U
    ·have:(k+1)*s<=i*s:=aL s A;rw[bI]at this;omega
    have:(i+1)*s<=k*s:=aL s U;rw[bI]at this
    omega)]
   exact⟨c,I,λv h=>h⟩)
 refine⟨S,?_,H',ao,az⟩;simp only[ek,cN,aQ,bC,aH,storeVar,Z6 ap];rw[iP (by rw[<-am,<-Y,hl];simp),dG];exact ak
theorem Zi9 {t:TypeId} {T:TI} (hT:ZI P t=some T) {z:Option Value} (hz:∀e s b,T.k= .slice e s b->z=(ZI P e).bind (·.zero)) (H:HR G R h) {n c v:AV} {un uc:Value} {h':List Zi} {cd:Cd} (hn:VR R n un) (ai:VR R c uc)
  (hv:Jk T z n c h=some (v,h',cd)) (hc:ZV cd):∃u I,(Instr.makeSlice t un uc).run P R.w= .ok u I.w/\HR G I h'/\Xs R h I h'/\R.le I/\VR I v u:=by
 unfold Jk at hv;split at hv;case h_2=>cases hv
 rename_i el s b k x k' y z hk;split at hv;case isFalse=>cases hv
 rename_i ae;simp only[aS]at ae;obtain⟨⟨Y,Z⟩,e3⟩:=ae;have Y:=ZF Y;have Z:=Xc Z;simp only[aD,aK]at hv;obtain⟨rfl,rfl,rfl⟩:=hv;obtain⟨aw,a9,az⟩:=(Cn.out (hc _ (aN.2 rfl)));obtain rfl:=hn.int_inv;obtain rfl:=ai.int_inv;obtain⟨j,hu,A,hs,hb⟩:=Jx hT hk;have au:=hz _ _ _ hk;obtain⟨TE,am,ar⟩:=ej.1 au.symm;obtain⟨i0,d0,ab,_,_,_,ak,_⟩:=XJ am;have:i0=j:=by rw[A]at ab;simpa using ab.symm
 subst this;have ao:i0.zero=some z:=ak▸ar;obtain⟨l,hl⟩:=bU aw;have aq:y ()=(l:Int):=by omega
 have w1:IntKind.i64.wrap (l:Int)=(l:Int):=ZbY _ (by omega);let arr:Array Value:=(fh (l*s)).map ((if l*s=0 then(#[]:Array Value)else z.cells)[· %(if l*s=0 then(#[]:Array Value)else z.cells).size]!);have ap:arr.size=l*s:=by simp[arr]
 have ac:=JA (R:=R) z;have ah:∀i j,i<l->j<s->arr.getD (i*s+j) undef=z.cells.getD j undef:=λi j hi A=>by
  have aj:i*s+j<l*s:=by
   have:(i+1)*s<=l*s:=aL s hi;rw[bI]at this;omega
  have U:¬l*s=0:=by omega
  simp only[arr,iP U,aI,cA];rw[show(fh (l*s))[i*s+j]? =some (i*s+j)from by simp[aj],cI,Y];have Z:(i*s+j)%s=j:=by rw[ea,eK,eA A]
  rw[Z];simp[Y,A]
 obtain⟨I,hw,hm,S,H',hx,J⟩:=H.alloc (.arr s x λ_=>(XQ z).cellsOf.map purify) (.cells arr el) (λI=>⟨rfl,λb hp=>hp.symm,λb o n=>Iff.rfl⟩) (λI J S hh=>by
  refine⟨arr,el,l,by rw[S];exact hh,hl,by rw[S,ap];simp,λi hi=>?_⟩;have V:((XQ z).cellsOf.map purify).length=s:=by rw[bA,ac.1,Y]
  refine⟨V,λj c A=>?_⟩;have al:j<s:=by rw[<-V];exact(aE.1 A).1
  rw[S,dB,ah i j hi al];rw[aP,aG]at A;obtain⟨c0,aa,rfl⟩:=A;rw[bM]at e3
  exact((ac.2 j c0 aa).purify (e3 _ (bE.2 ⟨c0,aZ aa,rfl⟩))).mono J.ok J.keep J.keepM)
 refine⟨.slice (some ⟨R.w.heap.size,0,none⟩) l l,I,?_,H',hx,J,?_⟩
 ·rw[hw];have t1:¬((i0.bytes:Int)*(l:Int)>2^ 48):=by
   have:(i0.bytes:Int)*(l:Int)<=1000000*1000000:=gT (by omega) (by omega) (by omega) (by omega);omega
  have ha:∀(k:IntKind) (n:Int) (w:World),(asInt (.int k n)).run P w= .ok n w:=λk n w=>by simp[asInt,asIntOf]
  unfold Instr.makeSlice
  simp only[aQ,Zy hu,aH,ha,Xx A,hl,aq,w1,aW,run_askRoom,Z6 A,hs,t1,decide_false,eO,cC,
   show¬((l:Int)<0)from by omega,show¬((l:Int)>(l:Int))from by omega,aX,if_false,zeroValue]
  by_cases U:l*s=0
  ·simp[U,newRow,arr]
  simp[U,newRow,arr,Xx A,ao]
 have:=VR.msl (R:=I) h.length s (λ_=>0) x x 0 l l (by rw[hm,H.len];omega) rfl hl hl (aJ _);rw[H.len,S]at this;rw[H.len];simpa using this
theorem Zrd {t el ty:TypeId} {at_:Array TypeId} {j:TypeInfo} (h0:at_[0]? =some t) (hu:P.underlying t=some (.slice el)) (I:P.info? el=some j) {z:Option Value} (hz:z=j.zero) (H:HR G R h) {x v:AV} {u:Value} {h':List Zi} {c:Cd} (hx:VR R x u)
  (hv:Zg6 z j.size x h=some (v,h',c)) (hc:ZV c):v= .undef/\∃u' S,(Builtin.clear_ at_ ty #[u]).run P R.w= .ok u' S.w/\HR G S h'/\Xs R h S h'/\R.le S:=by
 unfold Zg6 at hv;split at hv;case h_2=>cases hv
 rename_i id s o n cc z;split at hv;case isFalse=>cases hv
 rename_i ae;have ae:=ZF ae;split at hv;case h_2=>cases hv
 rename_i s' m f hi;split at hv;case isFalse=>cases hv
 rename_i aj;simp only[aS]at aj;obtain⟨⟨e1,Z⟩,e3⟩:=aj;have e1:=ZF e1;subst e1;have Z:=ZF Z;simp only[aD,aK]at hv;obtain⟨rfl,rfl,rfl⟩:=hv;obtain⟨bo,bh⟩:=(Cn.out (hc _ (aU ..)));have ak:=(Cn.out (hc _ (aR _ (aN.2 rfl))));refine⟨rfl,?_⟩;cases hx with
 |pure _ _ hp=>cases hp
 |msl _ _ _ _ _ i len bg bm bk hn bc bl=>
 obtain⟨arr,be,ln,h1,hm,h2,h3⟩:=H.blk id _ hi;have ah:=JA (R:=R) z;have J:((XQ z).cellsOf.map purify).length=s:=by rw[bA,ah.1,Z]
 let Y:=(Builtin.zeroCells z.cells len).toList;have U:Y.length=len*s:=by simp[Y,Builtin.zeroCells,Z]
 have ac:∀j c,((XQ z).cellsOf.map purify)[j]? =some c->PR R.w R.ok c (z.cells.getD j undef):=λj c I=>by
  rw[aP,aG]at I;obtain⟨c0,ab,rfl⟩:=I;rw[bM]at e3;exact(ah.2 j c0 ab).purify (e3 _ (bE.2 ⟨c0,aZ ab,rfl⟩))
 have ai:∀k j,k<len->j<s->Y.getD (k*s+j) undef=z.cells.getD j undef:=λk j A I=>by
  have ao:k*s+j<len*s:=by
   have:(k+1)*s<=len*s:=aL s A;rw[bI]at this;omega
  have em:(k*s+j)%s=j:=by rw[ea,eK,eA I]
  simp only[Y,Builtin.zeroCells,Z,aA,bN,cA];rw[show(fh (len*s))[k*s+j]? =some (k*s+j)from by simp[ao],cI,em];simp[aI,Z,I]
 have al:i*s+len*s<=ln*s:=by
  rw[<-dI];exact aL s (by omega)
 have aa:∀k:Nat,(k:Int)<m ()->∃row,Qt (λ_=>decide (o ()<=(k:Int)/\(k:Int)<o ()+n ())) ((XQ z).cellsOf.map purify) (f λ_=>(k:Int))=some row:=λk A=>dW.1 (ak k A);obtain⟨S,V,H',aw,am⟩:=H.arrPut (P:=P) hi (i*s) Y (λe=>(Qt (λ_=>decide (o ()<=e ()/\e ()<o ()+n ())) ((XQ z).cellsOf.map purify) (f e)).getD [])
  (by rw[show(m ()).toNat=ln from by omega,U];exact al)
  (λv hv=>by
   obtain⟨k,A,rfl⟩:=ed hv;have hs:0<s:=eg (λe=>by rw[U,e]at A;simp at A);have ar:k/s<len:=(dN hs).2 (U▸A);have:=ai (k/s) (k%s) ar (eE _ hs);rw[eZ,aA,aC A]at this;rw[bY]at this;rw[this]
   exact(ac (k%s) _ (aC (by rw[J];exact eE _ hs))).one)
  (λk A=>by
   obtain⟨row,hr⟩:=aa k A;simp only[hr,bY];obtain⟨g1,_,_⟩:=Yk hr;rw[<-g1]
   exact J)
  (λk A j c I=>by
   obtain⟨row,hr⟩:=aa k A;simp only[hr,bY]at I;obtain⟨g1,g2,g3⟩:=Yk hr;obtain⟨a1,c1,n1,n2,mx⟩:=g3 j c I;have aq:j<s:=by rw[<-J];exact(aE.1 n1).1
   by_cases hin:o ()<=(k:Int)/\(k:Int)<o ()+n ()
   ·have ap:i<=k:=by omega
    have e4:(k-i)*s=k*s-i*s:=gk ..;have e5:i*s<=k*s:=aL _ ap;have e6:(k-i)*s+s<=len*s:=by
     have:(k-i+1)*s<=len*s:=aL s (by omega);rwa [bI]at this
    rw[iQ (by omega),show k*s+j-i*s=(k-i)*s+j from by omega,ai (k-i) j (by omega) aq];exact mx.t (iX hin) (ac j _ n1)
   rw[iP (by
    rcases Int.lt_or_le (k:Int) (o ())with a9|ba
    ·have:(k+1)*s<=i*s:=aL s (by omega);rw[bI]at this;omega
    have:(i+len)*s<=k*s:=aL s (by omega);rw[dI]at this
    omega)]
   exact⟨c1,n2,λv h=>mx.f (iW hin) h⟩)
 have au:j.zero=some z:=hz.symm;refine⟨.tuple #[],S,?_,H',aw,am⟩;unfold Builtin.clear_;simp only[h0,aQ,Zy hu,aH,ef,bJ];cases len with
 |zero=>
  have az:Y=[]:=cP (by rw[U];simp);rw[az]at V;simp only[storeCells,bC,Result.ok.injEq]at V;simp[bC,V.2]
 |succ len=>
  simp only[zeroValue,Xx I,aH,au,aQ,bC];have:(storeCells ⟨(R.α id).b,(R.α id).o+i*s,none⟩ (Builtin.zeroCells z.cells (len+1)).toList).run P R.w= .ok () S.w:=V;simp only[this,aH]
end
end Vm
namespace Vm
open Go
instance decRow2 (n:Int) (m:Nat->Int) (f:Nat->Nat->Bool):Decidable (∀i:Nat,(i:Int)<n->∀j:Nat,(j:Int)<m i->f i j=true):=
 decidable_of_iff ((aT n.toNat).all λi=>(aT (m i).toNat).all λj=>f i j) (by
  simp only[bM,bZ]
  exact⟨λh i hi j hj=>h i (by omega) j (by omega),λh i hi j hj=>h i (by omega) j (by omega)⟩)
def ZcL (T:TI) (id s:Nat) (e k:Unit->Int) (off:Nat) (x:AV) (h:List Zi):Option (AV×List Zi×Cd):=match h[id]? with
 |some (.fam z s' n m g)=>if ZK s s'&&plain x&&ZK x.cellsOf.length T.size&&Qd (off+T.size) s&&(x.cellsOf.map purify).all XY then
   some (.undef,h.set id (.fam z s n m λG A=>putC (g G A) off ((Qt (λ_=>decide (G ()=e ())&&decide (A ()=k ())) (x.cellsOf.map purify) (((g G A).drop off).take T.size)).getD [])),
    [dd λ_=>0<=e ()/\e ()<n ()/\0<=k ()/\k ()<m e (),dd λ_=>∀i:Nat,(i:Int)<n ()->∀j:Nat,(j:Int)<m (λ_=>(i:Int)) ()->(Qt (λ_=>decide ((i:Int)=e ())&&decide ((j:Int)=k ())) (x.cellsOf.map purify) (((g (λ_=>(i:Int)) λ_=>(j:Int)).drop off).take T.size)).isSome=true])else none
 |_=>none
section
variable {P:Program} {R:RC} {G:Nat->Nat->Nat->Prop} {h:List Zi}
theorem ZlA {lt:Unit->Bool} {A old:List AV} {off sz:Nat} (hs:(Qt lt A ((old.drop off).take sz)).isSome=true) (hv:A.length=sz) (S:off+sz<=old.length):
  (putC old off ((Qt lt A ((old.drop off).take sz)).getD [])).length=old.length/\∀j c,(putC old off ((Qt lt A ((old.drop off).take sz)).getD []))[j]? =some c->
   (off<=j/\j<off+sz/\∃H I,A[j-off]? =some H/\old[j]? =some I/\Mx lt H I c)\/(¬(off<=j/\j<off+sz)/\old[j]? =some c):=by
 obtain⟨row,hr⟩:=dW.1 hs;obtain⟨V,g2,g3⟩:=Yk hr;have J:row.length=sz:=by rw[<-V];exact hv
 rw[hr,bY];refine⟨Yh _ _ _,λj c G=>?_⟩;rw[ZaU _ _ _ _ (by rw[J];exact S),J]at G;by_cases hin:off<=j/\j<off+sz
 ·rw[iQ hin]at G;obtain⟨H,I,Z,U,Y⟩:=g3 _ c G;rw[cR,iQ (by omega),cT,show off+(j-off)=j from by omega]at U;exact .inl ⟨hin.1,hin.2,H,I,Z,U,Y⟩
 rw[iP hin]at G;exact .inr ⟨hin,G⟩
theorem Zkz {t:TypeId} {T:TI} (hT:ZI P t=some T) (H:HR G R h) {id s off:Nat} {e k:Unit->Int} {a x:Value} {ax v:AV} {h':List Zi} {c:Cd} (ha:VR R (.nptr id s e k off) a) (hx:VR R ax x)
  (hv:ZcL T id s e k off ax h=some (v,h',c)) (hc:ZV c):v= .undef/\∃V,(ek t a x).run P R.w= .ok () V.w/\HR G V h'/\Xs R h V h'/\R.le V:=by
 unfold ZcL at hv;split at hv;case h_2=>cases hv
 rename_i z s' n m g hi;split at hv;case isFalse=>cases hv
 rename_i ap;simp only[aS]at ap;obtain⟨⟨⟨⟨e1,e2⟩,e3⟩,e5⟩,e6⟩:=ap;have e1:=ZF e1;subst e1;have e3:=ZF e3;have e5:=Xc e5;simp only[aD,aK]at hv;obtain⟨rfl,rfl,rfl⟩:=hv;obtain⟨r1,r2,r3,r4⟩:=(Cn.out (hc _ (aU ..)));have a9:=(Cn.out (hc _ (aR _ (aN.2 rfl))));obtain⟨hl,hp⟩:=Zdn hx e2 e6;obtain⟨i0,d,ca,_,bh,_,_,_⟩:=XJ hT;cases ha with
 |pure _ _ hp=>cases hp
 |nptr _ _ _ _ _ us i b o l cp j cq al he hu hk=>
 obtain⟨hz,cf,cj,aj,ce,ae,ai⟩:=H.blk id _ hi;rw[al]at aj;cases aj;have bx:e=λ_=>(i:Int):=funext λ_=>he;have bc:k=λ_=>(j:Int):=funext λ_=>hk;subst bx bc;simp only at r4 r3 r2 r1;obtain⟨len,Z,arr,ty,g1,g2,g3,g4,g5,g6⟩:∃(len Z:Nat) (arr:Array Value) (ty:TypeId),m (λ_=>(i:Int)) ()=(len:Int)/\len<=Z/\(l=len/\cp=Z)/\R.w.heap[b]? =some (.cells arr ty (0,0))/\o+Z*s<=arr.size/\
   ∀q:Nat,q<len->(g (λ_=>(i:Int)) λ_=>(q:Int)).length=s/\∀A c,(g (λ_=>(i:Int)) λ_=>(q:Int))[A]? =some c->PR R.w R.ok c (arr.getD (o+q*s+A) undef):=by
  rcases ae i _ hu with⟨bk,_⟩|⟨b',o',len,Z,arr,ty,g1,g2,g3,g4,g5,g6⟩
  ·exfalso;omega
  cases g3;exact⟨_,_,arr,ty,g1,g2,⟨rfl,rfl⟩,g4,g5,g6⟩
 obtain⟨rfl,rfl⟩:=g3;have bg:j<l:=by omega
 have ck:j*s+s<=l*s:=by
  have:(j+1)*s<=l*s:=aL s bg;rwa [bI]at this
 have cn:l*s<=cp*s:=aL s g2;have au:(ax.cellsOf.map purify).length=T.size:=by rw[bA];exact e3
 have ao:x.cells.toList.length=T.size:=by rw[<-hl];exact e3
 let Y:=x.cells.toList;let J:=j*s+off;let U:=(arr.toList.take (o+J+0)++Y++arr.toList.drop (o+J+0+Y.length)).toArray;have ak:Y.length=T.size:=ao;have bm:=run_storeCells_at P b (o+J) ty Y 0 arr R.w g4 (by rw[ak];show o+(j*s+off)+0+T.size<=arr.size;omega) (Zgk (by rw[au,ao]) hp);have ar:Zd7 (.slice (some ⟨b,o,none⟩) l cp) b:=⟨_,_,_,rfl,by omega,rfl⟩;have am:ZE R id (.fam z s n m g) b:=⟨us,al,i,_,hu,ar⟩;have aw:U.size=arr.size:=by
  simp only[U,dV,bf,bT,dL,cW];show min (o+(j*s+off)+0) arr.size+Y.length+(arr.size-(o+(j*s+off)+0+Y.length))=_;omega
 let g':(Unit->Int)->(Unit->Int)->List AV:=λe' k'=>putC (g e' k') off ((Qt (λ_=>decide (e' ()=(i:Int))&&decide (k' ()=(j:Int))) (ax.cellsOf.map purify) (((g e' k').drop off).take T.size)).getD []);obtain⟨V,w1,w2,w3,w4,H',bu,I⟩:=H.room1 (blk':=.fam z s n m g') hi rfl rfl (R.hw id) (R.hv id) (R.w.setRow b U) (λ_ _ _ h=>h) (λ_ _ _ _ h=>h) (bR _) (λ_=>rfl) (.refl _) rfl rfl rfl (by simp[World.setRow])
  (λb' _ bp=>setRow_other R.w b b' _ (λe=>bp (e▸am)))
  (λV I hw bw bl bt=>by
   refine⟨by rw[bt];exact hz,bw.trans cf,us,bl.trans al,ce,λa v ha=>?_,ai⟩;have ba:(a:Int)<n ():=by have:=(aM.1 ha).1;omega
   have ab:∀q:Nat,(q:Int)<m (λ_=>(a:Int)) ()->(g (λ_=>(a:Int)) λ_=>(q:Int)).length=s->(g' (λ_=>(a:Int)) λ_=>(q:Int)).length=s/\∀A c,(g' (λ_=>(a:Int)) λ_=>(q:Int))[A]? =some c->
     (off<=A/\A<off+T.size/\∃a1 c1,(ax.cellsOf.map purify)[A-off]? =some a1/\(g (λ_=>(a:Int)) λ_=>(q:Int))[A]? =some c1/\Mx (λ_=>decide ((a:Int)=(i:Int))&&decide ((q:Int)=(j:Int))) a1 c1 c)\/(¬(off<=A/\A<off+T.size)/\(g (λ_=>(a:Int)) λ_=>(q:Int))[A]? =some c):=λq S aq=>by
    obtain⟨t1,t2⟩:=ZlA (a9 a ba q S) au (by rw[aq];exact e5);exact⟨t1.trans aq,t2⟩
   by_cases hai:a=i
   ·subst hai;rw[hu]at ha;cases ha;refine .inr ⟨b,o,l,cp,U,ty,g1,g2,rfl,?_,by rw[aw];exact g5,λq S=>?_⟩
    ·rw[hw];exact setRow_heap R.w _ arr _ ty _ g4
    obtain⟨f1,f2⟩:=g6 q S;obtain⟨t1,t2⟩:=ab q (by omega) f1;refine⟨t1,λA c hj=>?_⟩;have cr:A<s:=by rw[<-t1];exact(aE.1 hj).1
    have ci:q*s+s<=l*s:=by
     have:(q+1)*s<=l*s:=aL s S;rwa [bI]at this
    have az:U.getD (o+q*s+A) undef=if o+J+0<=o+q*s+A/\o+q*s+A<o+J+0+Y.length then Y.getD (o+q*s+A-(o+J+0)) undef else arr.getD (o+q*s+A) undef:=
     XW arr Y (o+J+0) _ (by rw[ak];show o+(j*s+off)+0+T.size<=arr.size;omega)
    rw[az,ak];rcases t2 A c hj with⟨u1,u2,a1,c1,u3,u4,mx⟩|⟨u1,u2⟩
    ·by_cases hqj:q=j
     ·subst hqj;rw[iQ (by show o+(q*s+off)+0<=_/\_<o+(q*s+off)+0+T.size;omega),show o+q*s+A-(o+J+0)=A-off from by show o+q*s+A-(o+(q*s+off)+0)=_;omega];exact(mx.t (by simp) (hp _ _ u3)).mono I.ok I.keep I.keepM
     rw[iP (by
      show¬(o+(j*s+off)+0<=_/\_<o+(j*s+off)+0+T.size);rcases fg hqj with ac|ah
      ·have:(q+1)*s<=j*s:=aL s ac;rw[bI]at this;omega
      have:(j+1)*s<=q*s:=aL s ah;rw[bI]at this
      omega)]
     exact(mx.f (by show(decide ((a:Int)=(a:Int))&&decide ((q:Int)=(j:Int)))=false;rw[iW (by omega:¬((q:Int)=(j:Int))),Bool.and_false]) (f2 _ _ u4)).mono I.ok I.keep I.keepM
    rw[iP (by
     show¬(o+(j*s+off)+0<=_/\_<o+(j*s+off)+0+T.size);by_cases hqj:q=j
     ·subst hqj;omega
     rcases fg hqj with ac|ah
     ·have:(q+1)*s<=j*s:=aL s ac;rw[bI]at this;omega
     have:(j+1)*s<=q*s:=aL s ah;rw[bI]at this
     omega)]
    exact(f2 _ _ u2).mono I.ok I.keep I.keepM
   have h0:=ae a v ha;have h1:J4 (PR V.w V.ok) V.w s (m λ_=>(a:Int)) (g λ_=>(a:Int)) v:=h0.mono (λ_ _ h=>h.mono I.ok I.keep I.keepM) λb' bq=>by
    rw[hw];exact setRow_other R.w b b' _ (λe=>ai a i v _ b hai ha hu (e▸bq) ar)
   have aa:∀q:Nat,(q:Int)<m (λ_=>(a:Int)) ()->(g (λ_=>(a:Int)) λ_=>(q:Int)).length=s:=λq S=>by
    rcases h0 with⟨bk,_⟩|⟨_,_,cg,_,_,_,k1,_,_,_,_,k6⟩
    ·omega
    exact(k6 q (by omega)).1
   refine h1.cong rfl (λq S=>?_) λq S A c hj=>?_
   ·rw[(ab q S (aa q S)).1,aa q S]
   rcases(ab q S (aa q S)).2 A c hj with⟨_,_,a1,c1,_,u4,mx⟩|⟨_,u2⟩
   ·exact⟨_,u4,λu bo=>mx.f (by show(decide ((a:Int)=(i:Int))&&decide ((q:Int)=(j:Int)))=false;rw[iW (by omega:¬((a:Int)=(i:Int))),Bool.false_and]) bo⟩
   exact⟨_,u2,λ_ h=>h⟩)
  (λV b9 b' be=>.inr (by
   obtain⟨bz,q1,q2⟩:=be
   exact⟨bz,b9.symm.trans q1,q2⟩))
 refine⟨rfl,V,?_,H',bu,I⟩;simp only[ek,cN,aQ,bC,aH,storeVar,Z6 ca];rw[iP (by rw[<-bh,<-e3,hl];simp),w1,dG];exact bm
end
end Vm
namespace Vm
open Go
section
variable {P:Program} {R:RC} {G:Nat->Nat->Nat->Prop} {h:List Zi}
theorem HR.vgar (H:HR G R h) {id s:Nat} {n0:Unit->Int} {f:(Unit->Int)->List AV} (hi:h[id]? =some (.vgar s n0 f)) (I:Unit->Int) (U:(Unit->Int)->List AV) (J:Value) (w':World)
  (S:n0 ()<=I ()) (ac:n0 ()=I ()->J=R.hv id)
  (ak:w'.os=R.w.os) (aj:w'.tape=R.w.tape) (aa:w'.output=R.w.output) (ah:R.w.heap.size<=w'.heap.size)
  (hh:∀b,b<R.w.heap.size->¬ZE R id (.vgar s n0 f) b->w'.heap[b]? =R.w.heap[b]?)
  (ai:∀A:RC,R.le A->A.w=w'->ZvS A s I U J)
  (ae:∀b,Zd7 J b->R.w.heap.size<=b\/ZE R id (.vgar s n0 f) b):
  ∃A,A.w=w'/\A.hv id=J/\A.hw id=I ()/\A.m=R.m/\HR G A (h.set id (.vgar s I U))/\Xs R h A (h.set id (.vgar s I U))/\R.le A:=by
 obtain⟨V,Y⟩:=H.blk id _ hi;exact H.room1 (blk':=.vgar s I U) hi rfl rfl (I ()) J w' (λ_ _ _ h=>h) (λ_ _ _ _ h=>h) (by rw[V];exact S) (λe=>ac (V.symm.trans e)) (.of (J4.no Y)) ak aj aa ah hh
  (λA S hw Z ab _=>⟨Z,by rw[ab];exact ai A S hw⟩)
  (λA hv b ⟨a,n,c,h1,h2,h3⟩=>ae b ⟨a,n,c,hv.symm.trans h1,h2,h3⟩)
theorem Zlg {s:Nat} {n0:Unit->Int} {f:(Unit->Int)->List AV} {row:List AV} {id:Nat} {at_:Array TypeId} {t t' e e' ty:TypeId} {j:TypeInfo} {z:Value} {b0 o0:Nat} {us:Nat->Value}
  (H:HR G R h) (hi:h[id]? =some (.vgar s n0 f)) (am:row.length=s) (bq:∀k c,row[k]? =some c->R.w.cell? ⟨b0,o0+k,none⟩=some (us k)) (aq:∀k c,row[k]? =some c->VR R c (us k)) (cn:row.all ZlU=true)
  (h0:at_[0]? =some t) (h1:at_[1]? =some t') (hu:P.underlying t=some (.slice e)) (b9:P.underlying t'=some (.slice e')) (hj:P.info? e=some j) (hz:j.zero=some z) (cr:z.cells.size=s) (cy:j.size=s) (hb:j.bytes<=1000000)
  (dc:n0 ()+1<=1000000):
  ∃u A,(Builtin.append_ at_ ty #[R.hv id,.slice (some ⟨b0,o0,none⟩) 1 1]).run P R.w= .ok u A.w/\HR G A (h.set id (.vgar s (λ_=>n0 ()+1) (Z2 n0 f λ_=>row)))/\Xs R h A (h.set id (.vgar s (λ_=>n0 ()+1) (Z2 n0 f λ_=>row)))/\R.le A/\VR A (.gsl id λ_=>n0 ()+1) u:=by
 have az:id<R.m:=H.len▸(aE.1 hi).1;subst cy;obtain⟨dh,ck⟩:=H.blk id _ hi;let new:List Value:=(aT j.size).map us;have ao:new.length=j.size:=by simp[new]
 have bo:∀k,k<j.size->new.getD k undef=us k:=λk J=>by
  rw[aA];simp[new,J]
 have c8:∀k,k<j.size->R.w.cell? ⟨b0,o0+k,none⟩=some (us k):=λk J=>bq k _ (aC (by omega));have a9:∀Z:World,Z.heap=R.w.heap->(Builtin.firstCells j.size 1 (.slice (some ⟨b0,o0,none⟩) 1 1)).run P Z= .ok new.toArray Z:=λZ hw=>by
  have:=run_loadCells (P:=P) Z ⟨b0,o0,none⟩ (1*j.size) us (λk J=>by
   rw[QI];rw[<-c8 k (by omega)]
   simp only[bV,hw])
  simpa [Builtin.firstCells,new]using this
 have ce:∀v∈new,v.oneCell'=true:=λv cu=>by
  obtain⟨k,J,rfl⟩:=bE.1 cu;have J:=bZ.1 J;have hg:row[k]? =some row[k]:=aC (by omega);exact Zkk ((bM.1 cn) _ (aZ hg)) (aq k _ hg)
 have al:∀ {i k c len:Nat},k<c->i<len->i*c+k<len*c:=λ{i k c len} J hi=>by
  have:(i+1)*c<=len*c:=aL _ hi;rw[bI]at this;omega
 have bc:∀(base:Option Addr) (Y vc:Nat) (old:List Value),R.hv id= .slice base Y vc->n0 ()=(Y:Int)->(base=none->vc=0)->Y<=vc->old.length=Y*j.size->(∀Z:World,Z.heap=R.w.heap->(Builtin.firstCells j.size Y (.slice base Y vc)).run P Z= .ok old.toArray Z)->
   (∀i:Nat,i<Y->(f (λ_=>(i:Int))).length=j.size/\∀k c,(f (λ_=>(i:Int)))[k]? =some c->VR R c (old.getD (i*j.size+k) undef))->¬Y+1<=vc->
   ∃u A,(Builtin.append_ at_ ty #[R.hv id,.slice (some ⟨b0,o0,none⟩) 1 1]).run P R.w= .ok u A.w/\HR G A (h.set id (.vgar j.size (λ_=>n0 ()+1) (Z2 n0 f λ_=>row)))/\Xs R h A (h.set id (.vgar j.size (λ_=>n0 ()+1) (Z2 n0 f λ_=>row)))/\R.le A/\VR A (.gsl id λ_=>n0 ()+1) u:=by
  intro base Y vc old hv hn dg ba bz cj bh bt;obtain⟨U,d,V,ca,cz,cg⟩:=JI (P:=P) (ty:=ty) h0 h1 hu b9 hj hz hb base (some ⟨b0,o0,none⟩) Y vc 1 1 old.toArray new.toArray R.w (λZ hw=>a9 Z hw) cj bt (by omega);have cq:(old.toArray++new.toArray++V).size=U*j.size:=by
   rw[eS,eS,cz,cr];simp only[dV,bz,ao];have:Y*j.size+j.size=(Y+1)*j.size:=by rw[bI]
   rw[this,<-dI];congr 1;omega
  have bw:∀b,b<R.w.heap.size->(R.w.heap.push (.cells (old.toArray++new.toArray++V) e))[b]? =R.w.heap[b]? :=λb hb=>by rw[bK,iP (by omega)]
  have bp:(R.w.heap.push (.cells (old.toArray++new.toArray++V) e))[R.w.heap.size]? =some (.cells (old.toArray++new.toArray++V) e (0,0)):=by simp
  have ah:∀k,(old.toArray++new.toArray++V).getD k undef=if k<old.length then old.getD k undef else if k<old.length+new.length then new.getD (k-old.length) undef else V.getD (k-old.length-new.length) undef:=λk=>by
   simp only[aI,aA];by_cases h1:k<old.length
   ·rw[iQ h1,dC,dF (by simpa using h1)];simp
   rw[iP h1];by_cases h2:k<old.length+new.length
   ·rw[iQ h2,dF (by simpa using h2),dX (by simpa using fv h1)];simp
   rw[iP h2,dX (by simpa using fv h2)];simp[iN]
  have bm:∀A:RC,R.le A->∀i:Nat,i<Y+1->(Z2 n0 f (λ_=>row) (λ_=>(i:Int))).length=j.size/\∀k c,(Z2 n0 f (λ_=>row) (λ_=>(i:Int)))[k]? =some c->VR A c ((old.toArray++new.toArray++V).getD (0+i*j.size+k) undef):=λA I i aa=>by
   by_cases hil:i<Y
   ·rw[Q6 hn hil];refine⟨(bh i hil).1,λk c J=>?_⟩;have ab:k<j.size:=by rw[<-(bh i hil).1];exact(aE.1 J).1
    have:=al ab hil;rw[dB,ah,iQ (by omega)];exact((bh i hil).2 k c J).mono I
   rw[QG hn (by omega)];have ar:i=Y:=by omega
   subst ar;refine⟨am,λk c J=>?_⟩;have ab:k<j.size:=by rw[<-am];exact(aE.1 J).1
   rw[dB,ah,iP (by omega),iQ (by omega),bz,show i*j.size+k-i*j.size=k from by omega,bo k ab];exact(aq k c J).mono I
  obtain⟨A,hw,aw,be,bl,H',hx,I⟩:=H.vgar hi (λ_=>n0 ()+1) (Z2 n0 f λ_=>row) (.slice (some ⟨R.w.heap.size,0,none⟩) (Y+1) U) {R.w with drawn:=d,heap:=R.w.heap.push (.cells (old.toArray++new.toArray++V) e)}
   (by show n0 ()<=n0 ()+1;omega) (λe=>by have e:n0 ()=n0 ()+1:=e;omega) rfl rfl rfl (by show _<=(R.w.heap.push _).size;simp) (λb hb _=>bw b hb)
   (λA I au=>.inr ⟨R.w.heap.size,0,Y+1,U,_,e,by show n0 ()+1=_;omega,ca,rfl,by rw[au];exact bp,by rw[cq];omega,λi aa=>bm A I i aa⟩)
   (λb ⟨a,k,c,he,_,bk⟩=>by cases he;exact .inl (by rw[<-bk];exact aJ _))
  exact⟨_,A,by rw[hv,cg,hw],H',hx,I,.gsl _ _ _ _ _ (by rw[bl];exact az) (by rw[be];exact bR _) (λ_=>aw.symm) ⟨by show n0 ()+1=_;omega,.inr ⟨_,_,rfl⟩⟩⟩
 have zero:∀a0:Option Addr,n0 ()=0->R.hv id= .slice a0 0 0->∃u A,(Builtin.append_ at_ ty #[R.hv id,.slice (some ⟨b0,o0,none⟩) 1 1]).run P R.w= .ok u A.w/\HR G A (h.set id (.vgar j.size (λ_=>n0 ()+1) (Z2 n0 f λ_=>row)))/\Xs R h A (h.set id (.vgar j.size (λ_=>n0 ()+1) (Z2 n0 f λ_=>row)))/\R.le A/\VR A (.gsl id λ_=>n0 ()+1) u:=by
  intro a0 bx ae
  exact bc a0 0 0 [] ae (by omega) (λ_=>rfl) (aJ _) (by simp) (λZ _=>by
   cases a0 with
   |none=>rfl
   |some a0=>exact J9 Z a0 _ 0 0) (λi hi=>by omega) (by omega)
 rcases ck with⟨bx,a0,ae⟩|⟨b,o,len,U,arr,aj,hn,ba,ae,ak,cf,ac⟩
 ·exact zero a0 bx ae
 rcases cJ U with ai|ai
 ·exact zero (some ⟨b,o,none⟩) (by omega) (by rw[ae,ai,show len=0 by omega])
 have ap:ZE R id (.vgar j.size n0 f) b:=⟨_,_,_,ae,ai,rfl⟩;have da:len*j.size<=U*j.size:=aL _ ba;by_cases hrm:len+1<=U
 ·have db:(len+1)*j.size<=U*j.size:=aL _ hrm;have c9:(len+1)*j.size=len*j.size+j.size:=by rw[bI]
  let S:=(arr.toList.take (o+len*j.size+0)++new++arr.toList.drop (o+len*j.size+0+new.length)).toArray;have ct:=run_storeCells_at P b (o+len*j.size) aj new 0 arr R.w ak (by rw[ao];omega) ce;have bg:∀b',b'≠b->(R.w.setRow b S).heap[b']? =R.w.heap[b']? :=λb' hb=>setRow_other R.w b b' _ hb;have bu:(R.w.setRow b S).heap[b]? =some (.cells S aj (0,0)):=setRow_heap R.w b arr _ aj _ ak;have ci:S.size=arr.size:=by
   simp only[S,dV,bf,bT,dL,cW,ao];omega
  have ah:∀k,S.getD k undef=if o+len*j.size<=k/\k<o+len*j.size+new.length then new.getD (k-(o+len*j.size)) undef else arr.getD k undef:=λk=>
   XW arr new (o+len*j.size+0) k (by rw[ao];omega)
  have bm:∀A:RC,R.le A->∀i:Nat,i<len+1->(Z2 n0 f (λ_=>row) (λ_=>(i:Int))).length=j.size/\∀k c,(Z2 n0 f (λ_=>row) (λ_=>(i:Int)))[k]? =some c->VR A c (S.getD (o+i*j.size+k) undef):=λA I i aa=>by
   by_cases hil:i<len
   ·rw[Q6 hn hil];refine⟨(ac i hil).1,λk c J=>?_⟩;have ab:k<j.size:=by rw[<-(ac i hil).1];exact(aE.1 J).1
    have:=al ab hil;rw[ah,iP (by omega)];exact((ac i hil).2 k c J).mono I
   rw[QG hn (by omega)];have ar:i=len:=by omega
   subst ar;refine⟨am,λk c J=>?_⟩;have ab:k<j.size:=by rw[<-am];exact(aE.1 J).1
   rw[ah,iQ (by omega),show o+i*j.size+k-(o+i*j.size)=k from by omega,bo k ab];exact(aq k c J).mono I
  obtain⟨A,hw,aw,be,bl,H',hx,I⟩:=H.vgar hi (λ_=>n0 ()+1) (Z2 n0 f λ_=>row) (.slice (some ⟨b,o,none⟩) (len+1) U) (R.w.setRow b S)
   (by show n0 ()<=n0 ()+1;omega) (λe=>by have e:n0 ()=n0 ()+1:=e;omega) rfl rfl rfl (by simp[World.setRow]) (λb' _ cw=>bg b' (λe=>cw (e▸ap)))
   (λA I au=>.inr ⟨b,o,len+1,U,S,aj,by show n0 ()+1=_;omega,hrm,rfl,by rw[au];exact bu,by rw[ci];exact cf,λi aa=>bm A I i aa⟩)
   (λb' ⟨a,k,c,he,_,bk⟩=>by cases he;exact .inr (bk▸ap))
  refine⟨_,A,?_,H',hx,I,.gsl _ _ _ _ _ (by rw[bl];exact az) (by rw[be];exact bR _) (λ_=>aw.symm) ⟨by show n0 ()+1=_;omega,.inr ⟨_,_,rfl⟩⟩⟩;rw[ae,hw]
  exact Qr h0 h1 hu b9 hj _ (some ⟨b0,o0,none⟩) len U 1 1 new.toArray R.w _ (a9 _ rfl) hrm (λa ha=>by
   cases ha;rw[QI]
   exact ct) (λh=>by cases h)
 have c6:∀k,k<len*j.size->o+k<arr.size:=λk J=>by omega
 refine bc (some ⟨b,o,none⟩) len U ((aT (len*j.size)).map λk=>arr.getD (o+k) undef) ae hn (λh=>by cases h) ba (by simp) (λZ hw=>?_) (λi aa=>⟨(ac i aa).1,λk c J=>?_⟩) hrm
 ·have:=run_loadCells (P:=P) Z ⟨b,o,none⟩ (len*j.size) (λk=>arr.getD (o+k) undef) (λk J=>by
   rw[QI];have:Z.heap[b]? =some (.cells arr aj (0,0)):=by rw[hw];exact ak
   exact Z4 this (c6 k J))
  simpa [Builtin.firstCells]using this
 have ab:k<j.size:=by rw[<-(ac i aa).1];exact(aE.1 J).1
 have:=al ab aa;rw[aA,aP,cV (by omega)];show VR R c (arr.getD (o+(i*j.size+k)) undef);rw[<-dG];exact(ac i aa).2 k c J
theorem ZgJ:∀ {l:List AV} {j k:Nat} {n:Unit->Int},Zje l=some (j,k,n)->l[j]? =some (.gsl k n)
 |[],j,k,n,h=>by cases h
 |a::r,j,k,n,h=>by
  unfold Zje at h;split at h
  ·rename_i e;cases e
  ·rename_i e;cases e;simp only[aD,aK]at h;obtain⟨rfl,rfl,rfl⟩:=h;rfl
  rename_i e;cases e;split at h
  ·rename_i A;simp only[aD,aK]at h;obtain⟨rfl,rfl,rfl⟩:=h;simpa using ZgJ A
  cases h
theorem Zj2 {a:AV} (h:XY a=true):ZlU a=true:=by cases a<;>first|rfl|cases h
theorem Zjw (H:HR G R h) {t t' e e' ty:TypeId} {at_:Array TypeId} {q s:Nat} {n:Unit->Int} {cs:List AV} {v:AV} {h':List Zi} {c:Cd} {u x:Value} (hd:VR R (.gsl q n) u) (hs:VR R (.lit s cs) x) (h0:at_[0]? =some t) (h1:at_[1]? =some t')
  (hu:P.underlying t=some (.slice e)) (ar:P.underlying t'=some (.slice e')) (hv:Zba (Zay P e s) q n s cs h=some (v,h',c)) (hc:ZV c):∃r U,(Builtin.append_ at_ ty #[u,x]).run P R.w= .ok r U.w/\HR G U h'/\Xs R h U h'/\R.le U/\VR U v r:=by
 unfold Zba at hv;split at hv;case isFalse=>cases hv
 rename_i bl;obtain⟨j,z,hj,hz,am,bk,a9⟩:=YR bl;split at hv;case h_2=>cases hv
 rename_i s' n0 f zf sf N m g Z k nk Y ae ai;split at hv;case h_2=>cases hv
 rename_i sk V f1 hk;split at hv;case isFalse=>cases hv
 rename_i ac;simp only[aS]at ac;obtain⟨⟨⟨⟨e1,e2⟩,e3⟩,e4⟩,e5⟩:=ac;have e1:=ZF e1;have e2:=ZF e2;have e3:=Xc e3;have e4:=ZF e4;subst e1 e2;simp only[aD,aK]at hv;obtain⟨rfl,rfl,rfl⟩:=hv;obtain⟨c1,c2,c3⟩:=(Cn.out (hc _ (aU ..)));have c4:=(Cn.out (hc _ (aR _ (aN.2 rfl))));obtain⟨ak,w1,m1,ap,H1,x1,l1,aa,i,al,ao,bq⟩:=H.adopt ae hk e3;have bm:q<R.m:=H.len▸(aE.1 Y).1;have bh:q≠k:=λe=>by rw[e,hk]at Y;cases Y
 have az:q≠q+1:=by omega
 have bc:((h.set k .dead).set (q+1) (.fam zf sf (λ_=>N ()+1) (ZbD N m V) (Jc N g f1)))[q]? =some (.vgar s n0 f):=by
  rw[bQ,iP (by omega),bQ,iP (Ne.symm bh)];exact Y
 have aw:u=R.hv q:=by
  cases hd with
  |pure _ _ hp=>cases hp
  |gsl _ _ a l I be hn he _=>exact he (by rw[(H.blk q _ Y).1,c1])
 have ba:ak.hv q=R.hv q:=(ap q az).1;cases hs with
 |pure _ _ hp=>cases hp
 |lit _ _ b0 o0 us bo g1 g2 g3=>
 have ab:=ZgJ ai;have ah:=g2 _ _ ab;have aj:(cs.set Z (.nsub (q+1) n0 V)).length=s:=by rw[bW];exact e4
 have J:∀(A:Nat) (I:AV),(cs.set Z (.nsub (q+1) n0 V))[A]? =some I->(A=Z/\I= .nsub (q+1) n0 V)\/(A≠Z/\cs[A]? =some I/\XY I=true):=λA I h'=>by
  rw[bQ]at h';split at h'
  ·rename_i e;split at h'
   ·simp only[aD]at h';exact .inl ⟨e.symm,h'.symm⟩
   cases h'
  rename_i e;refine .inr ⟨λh=>e h.symm,h',?_⟩;exact bM.1 e5 I (aZ (i:=A) (by rw[bQ,iP e];exact h'))
 obtain⟨r,U,q1,q2,q3,q4,q5⟩:=Zlg (P:=P) (at_:=at_) (ty:=ty) (row:=cs.set Z (.nsub (q+1) n0 V)) (b0:=b0) (o0:=o0) (us:=us) H1 bc aj (λA I S=>by
   rw[w1];rcases J A I S with⟨rfl,rfl⟩|⟨_,h2,_⟩
   ·exact g1 _ _ ab
   ·exact g1 _ _ h2) (λA I S=>by
   rcases J A I S with⟨rfl,rfl⟩|⟨_,h2,_⟩
   ·
    generalize bp:us A=ux at ah;cases ah with
    |pure _ _ hp=>cases hp
    |gsl _ _ a l cc be hn he bg=>
     have au: .slice a l cc=R.hv k:=he (by rw[(H.blk k _ hk).1,c3]);refine .nsub (q+1) n0 V a l cc aa i ?_ al (by omega) (by rw[ao,au]) ⟨by omega,bg.2⟩;have:=(aE.1 ae).1;rw[m1,<-H.len];exact this
   ·exact(g2 _ _ h2).mono l1) (bM.2 λI aq=>by
   obtain⟨A,S⟩:=en.1 aq;rcases J A I S with⟨_,rfl⟩|⟨_,_,h3⟩
   ·rfl
   exact Zj2 h3) h0 h1 hu ar hj hz am bk a9 c4
 refine⟨r,U,?_,q2,x1.trans q3,l1.trans q4,q5⟩;rw[aw,<-ba,<-w1];exact q1
end
end Vm
namespace Vm
open Go
def Za1 (T:TI) (z:Option Value) (n c:AV) (h:List Zi):Option (AV×List Zi×Cd):=match T.k,n,c,z with
 |.slice _ s b,.int _ x,.int _ y,some z=>if ZK z.cells.size s&&Qd b 1000000&&((XQ z).cellsOf.map purify).all XY then
   some (.gsl h.length x,h++[.gar s x λ_=>(XQ z).cellsOf.map purify],[dd λ_=>0<=x ()/\x ()=y ()/\x ()<=1000000])else none
 |_,_,_,_=>none
section
variable {P:Program} {R:RC} {G:Nat->Nat->Nat->Prop} {h:List Zi}
theorem HR.garFresh (H:HR G R h) (s:Nat) (x:Unit->Int) (f:(Unit->Int)->List AV) (l:Nat) (hl:x ()=(l:Int)) (arr:Array Value) (el:TypeId) (ae:arr.size=l*s)
  (I:∀A:RC,R.le A->∀i:Nat,i<l->(f (λ_=>(i:Int))).length=s/\∀j c,(f (λ_=>(i:Int)))[j]? =some c->PR A.w A.ok c (arr.getD (i*s+j) undef)):
  ∃A,A.w={R.w with heap:=R.w.heap.push (.cells arr el)}/\HR G A (h++[.gar s x f])/\Xs R h A (h++[.gar s x f])/\R.le A/\A.m=R.m+1/\A.hw R.m=x ()/\A.hv R.m= .slice (some ⟨R.w.heap.size,0,none⟩) l l:=by
 have aa:∀i y,(h++[Zi.gar s x f])[i]? =some y->(i=R.m/\y= .gar s x f)\/(i≠R.m/\h[i]? =some y):=λi y S=>by
  rcases QD S with S|⟨rfl,rfl⟩
  ·exact .inr ⟨λe=>by have:=(aE.1 S).1;rw[H.len]at this;omega,S⟩
  exact .inl ⟨H.len,rfl⟩
 obtain⟨A,a1,a2,a3,a4,a5,a6,a7,_⟩:=H.room R.m (R.m+1) (.gar s x f) (x ()) (.slice (some ⟨R.w.heap.size,0,none⟩) l l) {R.w with heap:=R.w.heap.push (.cells arr el)} (h++[.gar s x f]) (by rw[bf,H.len];rfl) (eF _) aa (λU=>absurd U (dJ _)) (λ_=>False)
  (λb=>⟨λh=>h.elim,λh=>absurd h.1 (dJ _)⟩) rfl rfl rfl (by simp) (λb hb _=>by show(R.w.heap.push _)[b]? =_;rw[bK,iP (by omega)])
  (λb o n Z j _=>by
   have hb:=((H.okd _ _ _).1 Z).1;simp only[bV]
   rw[bK,iP (by omega)])
  (λA V hw ab ac _=>⟨ab,.inr ⟨R.w.heap.size,0,l,l,arr,el,hl,aJ _,ac,by rw[hw];simp,by omega,λi U=>⟨(I A V i U).1,λj c hj=>by rw[dB];exact(I A V i U).2 j c hj⟩⟩⟩)
  (λA hv _ b ⟨a,n,c,J,_,Y⟩=>.inl (by rw[hv]at J;cases J;rw[<-Y];exact aJ _))
  (λA hv b o n Z ⟨a,n',c,J,_,Y⟩=>by
   have hb:=((H.okd _ _ _).1 Z).1;rw[hv]at J;cases J;simp only at Y
   omega) rfl
 exact⟨A,a1,a5,a6,a7,a2,a4,a3⟩
theorem ZlO {t:TypeId} {T:TI} (hT:ZI P t=some T) {z:Option Value} (hz:∀e s b,T.k= .slice e s b->z=(ZI P e).bind (·.zero)) (H:HR G R h) {n c v:AV} {un uc:Value} {h':List Zi} {cd:Cd} (hn:VR R n un) (ai:VR R c uc)
  (hv:Za1 T z n c h=some (v,h',cd)) (hc:ZV cd):∃u I,(Instr.makeSlice t un uc).run P R.w= .ok u I.w/\HR G I h'/\Xs R h I h'/\R.le I/\VR I v u:=by
 unfold Za1 at hv;split at hv;case h_2=>cases hv
 rename_i el s b k x k' y z hk;split at hv;case isFalse=>cases hv
 rename_i ae;simp only[aS]at ae;obtain⟨⟨V,Y⟩,e3⟩:=ae;have V:=ZF V;have Y:=Xc Y;simp only[aD,aK]at hv;obtain⟨rfl,rfl,rfl⟩:=hv;obtain⟨a9,bc,ba⟩:=(Cn.out (hc _ (aN.2 rfl)));obtain rfl:=hn.int_inv;obtain rfl:=ai.int_inv;obtain⟨j,hu,A,hs,hb⟩:=Jx hT hk;have az:=hz _ _ _ hk;obtain⟨TE,ao,au⟩:=ej.1 az.symm;obtain⟨Z,d0,ab,_,_,_,al,_⟩:=XJ ao;have:Z=j:=by rw[A]at ab;simpa using ab.symm
 subst this;have ap:Z.zero=some z:=al▸au;obtain⟨l,hl⟩:=bU a9;have ar:y ()=(l:Int):=by omega
 have w1:IntKind.i64.wrap (l:Int)=(l:Int):=ZbY _ (by omega);let arr:Array Value:=(fh (l*s)).map ((if l*s=0 then(#[]:Array Value)else z.cells)[· %(if l*s=0 then(#[]:Array Value)else z.cells).size]!);have aq:arr.size=l*s:=by simp[arr]
 have ac:=JA (R:=R) z;have ah:∀i j,i<l->j<s->arr.getD (i*s+j) undef=z.cells.getD j undef:=λi j hi A=>by
  have aj:i*s+j<l*s:=by
   have:(i+1)*s<=l*s:=aL s hi;rw[bI]at this;omega
  have S:¬l*s=0:=by omega
  simp only[arr,iP S,aI,cA];rw[show(fh (l*s))[i*s+j]? =some (i*s+j)from by simp[aj],cI,V];have Y:(i*s+j)%s=j:=by rw[ea,eK,eA A]
  rw[Y];simp[V,A]
 obtain⟨I,hw,H',hx,J,hm,ak,aw⟩:=H.garFresh s x (λ_=>(XQ z).cellsOf.map purify) l hl arr el aq (λI J i hi=>by
  have U:((XQ z).cellsOf.map purify).length=s:=by rw[bA,ac.1,V]
  refine⟨U,λj c A=>?_⟩;have am:j<s:=by rw[<-U];exact(aE.1 A).1
  rw[ah i j hi am];rw[aP,aG]at A;obtain⟨c0,aa,rfl⟩:=A;rw[bM]at e3
  exact((ac.2 j c0 aa).purify (e3 _ (bE.2 ⟨c0,aZ aa,rfl⟩))).mono J.ok J.keep J.keepM)
 refine⟨.slice (some ⟨R.w.heap.size,0,none⟩) l l,I,?_,H',hx,J,?_⟩
 ·rw[hw];have t1:¬((Z.bytes:Int)*(l:Int)>2^ 48):=by
   have:(Z.bytes:Int)*(l:Int)<=1000000*1000000:=gT (by omega) (by omega) (by omega) (by omega);omega
  have ha:∀(k:IntKind) (n:Int) (w:World),(asInt (.int k n)).run P w= .ok n w:=λk n w=>by simp[asInt,asIntOf]
  unfold Instr.makeSlice
  simp only[aQ,Zy hu,aH,ha,Xx A,hl,ar,w1,aW,run_askRoom,Z6 A,hs,t1,decide_false,eO,cC,
   show¬((l:Int)<0)from by omega,show¬((l:Int)>(l:Int))from by omega,aX,if_false,zeroValue]
  by_cases S:l*s=0
  ·simp[S,newRow,arr]
  simp[S,newRow,arr,Xx A,ap]
 rw[H.len];exact .gsl R.m x _ l l (by rw[hm];omega) (by rw[ak];exact bR _) (λ_=>aw.symm) ⟨hl,.inr ⟨_,_,rfl⟩⟩
end
end Vm
namespace Vm
open Go
def ZdL (s:Nat) (m:Unit->Int) (f:(Unit->Int)->List AV):Nat->Nat->List AV->Option (List AV)
 |_,0,_=>some []
 |i,k+1,old=>(match Qt (λ_=>decide ((i:Int)<m ())) (f λ_=>(i:Int)) (old.take s),ZdL s m f (i+1) k (old.drop s)with
  |some a,some b=>some (a++b)
  |_,_=>none)
def Znd (s0:Nat) (dst A:AV) (h:List Zi):Option (AV×List Zi×Cd):=match dst,A with
 |.msl id s lo n _,.isl s' m f _=>if ZK s s0&&ZK s s' then(match Jw h id with
  |some cs=>if Qd ((lo ()).toNat*s+(n ()).toNat*s) cs.length then(match ZdL s m f 0 (n ()).toNat ((cs.drop ((lo ()).toNat*s)).take ((n ()).toNat*s))with
   |some l=>some (.int .i64 λ_=>min (n ()) (m ()),h.set id (.cells (putC cs ((lo ()).toNat*s) l)),[])
   |none=>none)else none
  |none=>none)else none
 |_,_=>none
section
variable {P:Program} {R:RC} {G:Nat->Nat->Nat->Prop} {h:List Zi}
theorem Zfd {s:Nat} {m:Unit->Int} {f:(Unit->Int)->List AV}:∀ {k i:Nat} {old l:List AV},ZdL s m f i k old=some l->old.length=k*s->l.length=k*s/\
  ∀(r j:Nat) (x:AV),r<k->j<s->l[r*s+j]? =some x->∃a c,(f λ_=>((i+r:Nat):Int))[j]? =some a/\old[r*s+j]? =some c/\Mx (λ_=>decide (((i+r:Nat):Int)<m ())) a c x
 |0,_,_,l,h,_=>by
  simp only[ZdL,aD]at h;subst h;exact⟨by simp,λr j x hr=>by omega⟩
 |k+1,i,old,l,h,ho=>by
  simp only[ZdL]at h;split at h;case h_2=>cases h
  rename_i a b U hb;simp only[aD]at h;subst h;rw[bI]at ho;obtain⟨h1,V,h3⟩:=Yk U;obtain⟨Y,Z⟩:=Zfd hb (by rw[dL];omega);have J:a.length=s:=by rw[<-V,bT];omega
  refine⟨by rw[bf,J,Y,bI];omega,λr j x hr S A=>?_⟩;cases r with
  |zero=>
   rw[ep,dB]at A|-;rw[bP (by omega)]at A;obtain⟨p,q,H,G,I⟩:=h3 j x A;rw[cR,iQ S]at G;exact⟨p,q,H,G,I⟩
  |succ r=>
   rw[bI]at A|-;rw[dE (by omega),J,show r*s+s+j-s=r*s+j from by omega]at A;obtain⟨p,q,H,G,I⟩:=Z r j x (by omega) S A;rw[cT]at G;rw[show i+1+r=i+(r+1)from by omega]at H I;exact⟨p,q,H,by rw[show r*s+s+j=s+(r*s+j)from by omega];exact G,I⟩
theorem Zth {t el ty:TypeId} {at_:Array TypeId} {j:TypeInfo} (h0:at_[0]? =some t) (hu:P.underlying t=some (.slice el)) (hj:P.info? el=some j) (H:HR G R h) {dst ao v:AV} {ud ac:Value} {h':List Zi} {c:Cd} (hd:VR R dst ud) (I:VR R ao ac)
  (hv:Znd j.size dst ao h=some (v,h',c)):∃u' U,(Builtin.copy_ at_ ty #[ud,ac]).run P R.w= .ok u' U.w/\HR G U h'/\Xs R h U h'/\R.le U/\VR U v u':=by
 unfold Znd at hv;split at hv;case h_2=>cases hv
 rename_i id s lo n cc s' m f tk;split at hv;case isFalse=>cases hv
 rename_i ai;simp only[aS]at ai;have e1:=ZF ai.1;have e2:=ZF ai.2;subst e2;split at hv;case h_2=>cases hv
 rename_i cs am;split at hv;case isFalse=>cases hv
 rename_i ah;have ah:=Xc ah;split at hv;case h_2=>cases hv
 rename_i l hl;simp only[aD,aK]at hv;obtain⟨rfl,rfl,rfl⟩:=hv;cases hd with
 |pure _ _ hp=>cases hp
 |msl _ _ _ _ _ i len au bw bp hn bo bu=>
 have aa:(lo ()).toNat=i:=by omega
 have al:(n ()).toNat=len:=by omega
 rw[aa,al]at ah;rw[aa,al]at hl;rw[aa];obtain⟨bl,be⟩:=Zfd hl (by rw[bT,dL];omega);obtain⟨arr,ae,h1,h2,h3⟩:=H.blk id _ (Jq am);have hp:=I.isl_inv;obtain⟨nn,V,xa,xc,rfl,hm,ak,ap⟩:∃(nn:Nat) (V:Nat->Nat->Value) (xa:Option Addr) (xc:Nat),ac= .slice xa nn xc/\m ()=(nn:Int)/\
   (∀k,k<=nn->(Builtin.firstCells s k (.slice xa nn xc)).run P R.w= .ok ((aT (k*s)).map λq=>V (q/s) (q%s)).toArray R.w)/\
   (∀i j c,i<nn->(f (λ_=>(i:Int)))[j]? =some c->PR R.w R.ok c (V i j)):=by
  cases hp with
  |isl0 _ _ _ _ hz _=>
   exact⟨0,λ_ _=>undef,none,0,rfl,by omega,λk hk=>by
    have:k=0:=by omega
    subst this
    simp[Builtin.firstCells],λi j c hi=>by omega⟩
  |islE _ _ _ _ a hz _=>
   exact⟨0,λ_ _=>undef,some a,0,rfl,by omega,λk hk=>by
    have:k=0:=by omega
    subst this;rw[ep]
    exact J9 R.w a s 0 0,λi j c hi=>by omega⟩
  |isl _ _ _ _ b o ln au V hn hc ht he hl h1 h2 h3=>
   refine⟨ln,V,some ⟨b,o,none⟩,au,rfl,hn,λk hk=>?_,h2⟩
   have:=run_loadCells (P:=P) R.w ⟨b,o,none⟩ (k*s) (λq=>V (q/s) (q%s)) (λq A=>by
    have I:0<s:=eg (λe=>by subst e;simp at A);have h4:q/s<k:=(dN I).2 A;have h5:=eE q I;have h6:=eZ q s;rw[QI];have:=h1 (q/s) (q%s) _ (by omega) (aC (by rw[hl _ (by omega)];exact h5));rw[show o+q/s*s+q%s=o+q from by omega]at this
    exact this)
   simpa [Builtin.firstCells]using this
 let k:=gU nn len;have bm:k<=nn:=iC _ _;have ba:k<=len:=Nat.min_le_right _ _;let S:=(aT (k*s)).map λq=>V (q/s) (q%s);have bx:S.length=k*s:=by simp[S]
 have bz:k*s<=len*s:=aL s ba;have aj:∀r Z,r<len->Z<s->∃a c x,(f λ_=>(r:Int))[Z]? =some a/\((cs.drop (i*s)).take (len*s))[r*s+Z]? =some c/\l[r*s+Z]? =some x/\Mx (λ_=>decide ((r:Int)<m ())) a c x:=λr Z hr bh=>by
  have bq:r*s+Z<len*s:=by
   have:(r+1)*s<=len*s:=aL s hr;rw[bI]at this;omega
  obtain⟨a,c,g1,g2,g3⟩:=be r Z _ hr bh (aC (by omega));rw[dB]at g1 g3;exact⟨a,c,_,g1,g2,aC (by omega),g3⟩
 have aw:∀v∈S,v.oneCell'=true:=λv hv=>by
  obtain⟨q,A,rfl⟩:=bE.1 hv;rw[bZ]at A;have I:0<s:=eg (λe=>by rw[e]at A;simp at A);have h4:q/s<k:=(dN I).2 A;obtain⟨a,c,_,g1,_,_⟩:=aj (q/s) (q%s) (by omega) (eE q I);exact(ap _ _ _ (by omega) g1).one
 have bc:=run_storeCells_at P (R.α id).b ((R.α id).o+i*s) ae S 0 arr R.w h1 (by omega) aw;let Y:=(arr.toList.take ((R.α id).o+i*s+0)++S++arr.toList.drop ((R.α id).o+i*s+0+S.length)).toArray
 obtain⟨U,hw,bt,ab,H',hx,J⟩:=H.upd (Jq am) rfl (blk':=.cells (putC cs (i*s) l)) rfl (R.w.setRow (R.α id).b Y) rfl rfl rfl (by simp[World.setRow]) (λb hb=>setRow_other R.w (R.α id).b b _ hb) (λU J ab hw=>by
  refine⟨Y,ae,by rw[hw,ab];exact setRow_heap R.w _ arr _ ae _ h1,?_,λq c A=>?_⟩
  ·rw[Yh,ab];simp only[Y,dV,bf,bT,dL,cW];omega
  rw[ab,XW arr S ((R.α id).o+i*s+0) _ (by omega)];rw[ZaU l cs (i*s) q (by omega)]at A;by_cases hin:i*s<=q/\q<i*s+l.length
  ·rw[iQ hin]at A;have I:0<s:=eg (λe=>by rw[e,Nat.mul_zero]at bl;omega);have aq:q-i*s<len*s:=by omega
   have h4:(q-i*s)/s<len:=(dN I).2 aq;have h5:=eE (q-i*s) I;have h6:=eZ (q-i*s) s;obtain⟨a,c0,x0,g1,g2,g3,mx⟩:=aj _ _ h4 h5;rw[h6]at g2 g3;rw[A]at g3;simp only[aD]at g3;subst g3;by_cases hr:(q-i*s)/s<nn
   ·have ar:q-i*s<k*s:=by
     rw[<-dN I];show _<gU nn len;exact Nat.lt_min.2 ⟨hr,h4⟩
    rw[iQ (by omega),show(R.α id).o+q-((R.α id).o+i*s+0)=q-i*s from by omega];have bk:S.getD (q-i*s) undef=V ((q-i*s)/s) ((q-i*s)%s):=by
     simp only[S,aA,aP];rw[cV ar];rfl
    rw[bk];exact(mx.vt (iX (show((((q-i*s)/s:Nat):Int)<m ()) by omega)) (VR.pure _ _ (ap _ _ _ hr g1):VR R _ _)).mono J
   have ar:¬q-i*s<k*s:=by
    rw[<-dN I];show¬_<gU nn len;intro h;exact hr (Nat.lt_of_lt_of_le h (iC _ _))
   rw[iP (by omega)];have bg:cs[q]? =some c0:=by
    rw[cR,iQ aq,cT,show i*s+(q-i*s)=q from by omega]at g2;exact g2
   exact(mx.vf (iW (show¬((((q-i*s)/s:Nat):Int)<m ()) by omega)) (h3 q _ bg)).mono J
  rw[iP hin]at A;rw[iP (by omega)]
  exact(h3 q c A).mono J)
 refine⟨.int .i64 (k:Int),U,?_,H',hx,J,VR.mkInt (by show min (n ()) (m ())=((gU nn len:Nat):Int);rw[hn,hm,show gU nn len=min nn len from rfl];omega)⟩;unfold Builtin.copy_;have az:(storeCells ⟨(R.α id).b,(R.α id).o+i*s,none⟩ S).run P R.w= .ok () U.w:=by rw[bc,hw]
 have a9:=ak k bm;simp only[h0,aQ,Zy hu,aH,ef,bJ,cM,Builtin.lenOf,bC,Z6 hj,<-e1];rw[show gU nn len=k from rfl,a9];simp only[aH];rw[az];rfl
end
end Vm
namespace Vm
open Go
def ZcI (E:Operand->AV) (s:Nat):Nat->List (Nat×Operand)->Option (List (List AV))
 |_,[]=>some []
 |k,(i,x)::r=>if ZK i k&&plain (E x)&&ZK (E x).cellsOf.length s&&((E x).cellsOf.map purify).all XY then(ZcI E s (k+1) r).map (((E x).cellsOf.map purify)::·)else none
def ZuD:AV->Bool
 |.gsl _ _=>true
 |c=>XY c
def Zjd (E:Operand->AV) (s:Nat):List (Nat×Operand)->Option AV
 |[(i,x)]=>if ZK i 0&&plain (E x)&&ZK (E x).cellsOf.length s&&((E x).cellsOf.map purify).all ZuD then some (.lit s ((E x).cellsOf.map purify))else none
 |_=>none
def ZgO (s:Nat) (A:List (List AV)):AV:=.isl s (λ_=>(A.length:Int)) (λe=>A.getD (e ()).toNat (A.headD [])) .exact
def Yn (P:Program) (E:Operand->AV) (t:TypeId) (n:Nat) (ps:List (Nat×Operand)):Option AV:=
 match ZI P t with
 |some T=>(match T.k with
  |.slice e s _=>if Zay P e s&&ZK ps.length n&&Qd (n*s) 16777216 then(match ZcI E s 0 ps with
   |some A=>some (ZgO s A)
   |none=>Zjd E s ps)else none
  |_=>none)
 |none=>none
def Zkm (A:TyF) (G:TypeId):Option Nat:=zN ((A.ti G).bind (·.zero))
def Za0 (A:TyF) (t:TypeId):Option Zi:=match A.un t with
 |some (.map kt et)=>(match(A.ti et).bind (·.zero)with
  |some (.bool _)=>some (.mapB λ_ _=>false)
  |some (.map none)=>(match A.un et with
   |some (.map kt2 et2)=>(match Zkm A kt,Zkm A kt2,zN ((A.ti et2).bind (·.zero))with
    |some ka,some kb,some n=>some (.gob (.mapM ka kb n λ_=>[]))
    |_,_,_=>none)
   |_=>none)
  |z=>(match Zkm A kt,zN z with
   |some ka,some n=>some (.gob (.mapL ka n λ_=>[]))
   |_,_=>none))
 |_=>none
def Jz {α:Type} (L:List (List Int×α)) (k:List Int) (d:α):List (List Int×α):=if L.any (λp=>p.1==k)then L.map (λp=>if p.1==k then(k,d)else p)else L++[(k,d)]
def ZuR (n:Nat):AV->Option (Unit->List Int)
 |.int .i64 a=>if ZK n 0 then some λ_=>[a ()]else none
 |.agg cs=>if ZK n cs.length&&ltN 0 cs.length then Zez cs else none
 |_=>none
def X0 (A:TyF) (t:TypeId) (m k x:AV) (h:List Zi):Option (AV×List Zi×Cd):=match A.un t,m with
 |some (.map kt et),.map id=>(match h[id]? with
  |some (.mapB f)=>(match k,x,A.un kt with
   |.int .i64 n,.bool b,some (.int .i64)=>some (.undef,h.set id (.mapB λe u=>if e ()=n ()then b u else f e u),[])
   |_,_,_=>none)
  |some (.gob (.mapL ka n L))=>(match ZhA A kt ka k,ZuR n x with
   |some g,some d=>some (.undef,h.set id (.gob (.mapL ka n λ_=>Jz (L ()) (g ()) (d ()))),[])
   |_,_=>none)
  |some (.gob (.mapM ka kb n L))=>(match ZhA A kt ka k,x with
   |some g,.imap kb' n' L2=>if ZK kb kb'&&ZK n n' then some (.undef,h.set id (.gob (.mapM ka kb n λ_=>Jz (L ()) (g ()) (L2 ()))),[])else none
   |_,_=>none)
  |_=>none)
 |_,_=>none
def evE (gr:Bool) (P:Program) (E:Operand->AV) (h:List Zi):Op->Option (AV×List Zi×Cd)
 |.alloc t=>(match ZI P t with
  |some T=>(match T.zero with
   |some z=>some (.ptr h.length 0,h++[.cells (XQ z).cellsOf],[])
   |none=>none)
  |none=>none)
 |.box _ x=>if plain (E x)then some (.ptr h.length 0,h++[.cells (E x).cellsOf],[])else none
 |.store t a x=>(match E a,ZI P t with
  |.ptr id off,some T=>(match Jw h id with
   |some cs=>if plain (E x)&&ZK (E x).cellsOf.length T.size&&Qd (off+T.size) cs.length&&(E x).cellsOf.all ZlU then some (.undef,h.set id (.cells (putC cs off (E x).cellsOf)),[])else none
   |none=>none)
  |.aptr id s e off,some T=>ZcQ T id s e off (E x) h
  |.gptr id s n e off,some T=>ZcK T id s n e off (E x) h
  |.nptr id s e k off,some T=>ZcL T id s e k off (E x) h
  |_,_=>none)
 |.makeSlice t n c=>(match ZI P t with
  |some T=>(if gr then Za1 else Jk) T (match T.k with
   |.slice e _ _=>(ZI P e).bind (·.zero)
   |_=>none) (E n) (E c) h
  |none=>none)
 |.buildSlice t n ps=>(Yn P E t n ps.toList).map λv=>(v,h,[])
 |.makeMap t none=>(match Za0 (tyP P) t with
  |some b=>some (.map h.length,h++[b],[])
  |none=>none)
 |.mapUpdate t m k x=>X0 (tyP P) t (E m) (E k) (E x) h
 |.range t x=>(match E x,P.underlying t with
  |.imap ka n L,some (.map _ _)=>some (.mit h.length,h++[.gob (.mapIt ka n L (λ_=>[]) λ_=>([],[]))],[])
  |_,_=>none)
 |.call {callee:=.builtin .append,args,argTypes}=>(match args.toList,argTypes.toList with
  |[x,y],[t,t']=>Zd1 gr P t t' (E x) (E y) h
  |_,_=>none)
 |.call {callee:=.builtin .copy,args,argTypes}=>(match args.toList,argTypes.toList with
  |[x,y],t::_=>(match P.underlying t with
   |some (.slice e)=>(match ZI P e with
    |some J=>Znd J.size (E x) (E y) h
    |none=>none)
   |_=>none)
  |_,_=>none)
 |.call {callee:=.builtin .clear,args,argTypes}=>(match args.toList,argTypes.toList with
  |[x],t::_=>(match P.underlying t with
   |some (.slice e)=>(match ZI P e with
    |some J=>Zg6 J.zero J.size (E x) h
    |none=>none)
   |_=>none)
  |_,_=>none)
 |_=>none
section
variable {P:Program} {R:RC} {G:Nat->Nat->Nat->Prop} {h:List Zi}
def J2 (R:RC) (G:Nat->Nat->Nat->Prop) (h:List Zi) (v:AV) (h':List Zi) (r:Result Next):Prop:=
 ∃H u A,r= .ok H A.w/\(H= .value u\/(H= .skip/\u=undef))/\HR G A h'/\Xs R h A h'/\R.le A/\VR A v u
theorem J2.ofValue {v:AV} {h':List Zi} {s:Sem Value} (V:∃u A,s.run P R.w= .ok u A.w/\HR G A h'/\Xs R h A h'/\R.le A/\VR A v u):
  J2 R G h v h' ((do let x<-s;pure (Next.value x):Sem Next).run P R.w):=by
 obtain⟨u,A,J,H,U,I,S⟩:=V;exact⟨.value u,u,A,by rw[aQ,J];rfl,.inl rfl,H,U,I,S⟩
theorem J2.ofUnit {h':List Zi} {s:Sem Unit} (U:∃A,s.run P R.w= .ok () A.w/\HR G A h'/\Xs R h A h'/\R.le A):
  J2 R G h .undef h' ((do s;pure Next.skip:Sem Next).run P R.w):=by
 obtain⟨A,J,H,S,I⟩:=U;exact⟨.skip,undef,A,by rw[aQ,J];rfl,.inr ⟨rfl,rfl⟩,H,S,I,.undef _⟩
theorem HR.garNew (H:HR G R h) (s:Nat) (n:Unit->Int) (f:(Unit->Int)->List AV) (S:Option Addr) (hn:n ()=0):
  ∃A,A.w=R.w/\HR G A (h++[.gar s n f])/\Xs R h A (h++[.gar s n f])/\R.le A/\A.hv h.length= .slice S 0 0:=by
 have V:∀i x,(h++[Zi.gar s n f])[i]? =some x->(i=R.m/\x= .gar s n f)\/(i≠R.m/\h[i]? =some x):=λi x J=>by
  rcases QD J with J|⟨rfl,rfl⟩
  ·exact .inr ⟨λe=>by have:=(aE.1 J).1;rw[H.len]at this;omega,J⟩
  exact .inl ⟨H.len,rfl⟩
 have I:∀A:RC,A.hv R.m= .slice S 0 0->∀b,¬ZE A R.m (.gar s n f) b:=λA hv b U=>by
  obtain⟨a,k,c,h1,h2,_⟩:=U;rw[hv]at h1;cases h1;omega
 obtain⟨A,a1,a2,a3,a4,a5,a6,a7,_⟩:=H.room R.m (R.m+1) (.gar s n f) 0 (.slice S 0 0) R.w (h++[.gar s n f]) (by rw[bf,H.len];rfl) (eF _) V (λhi=>absurd hi (dJ _)) (λ_=>False)
  (λb=>⟨λh=>h.elim,λh=>absurd h.1 (dJ _)⟩) rfl rfl rfl (aJ _) (λ_ _ _=>rfl) (λ_ _ _ _ _ _=>rfl)
  (λA _ _ Y Z _=>⟨by rw[Y,hn],.inl ⟨hn,S,Z⟩⟩)
  (λA hv _ b U=>absurd U (I A hv b))
  (λA hv b o n _=>I A hv b) rfl
 exact⟨A,a1,a5,a6,a7,by rw[H.len];exact a3⟩
theorem Zmr {gr:Bool} (H:HR G R h) {t t' ty:TypeId} {at_:Array TypeId} {dst bo v:AV} {h':List Zi} {c:Cd} {u x:Value} (hd:VR R dst u) (hs:VR R bo x) (h0:at_[0]? =some t) (S:at_[1]? =some t')
  (hv:Zd1 gr P t t' dst bo h=some (v,h',c)) (hc:ZV c):∃r J,(Builtin.append_ at_ ty #[u,x]).run P R.w= .ok r J.w/\HR G J h'/\Xs R h J h'/\R.le J/\VR J v r:=by
 unfold Zd1 at hv;split at hv;case h_2=>cases hv
 rename_i e e' hu I;split at hv;case h_5=>cases hv
 case h_4=>
  rename_i s n f id a l;unfold ZcR at hv;split at hv;case isFalse=>cases hv
  rename_i al;simp only[aS]at al;obtain⟨j,z,Z,hz,ae,V,aj⟩:=YR al.2;split at hv;case h_2=>cases hv
  rename_i zf sf N m g hi;split at hv;case isFalse=>cases hv
  rename_i U;have U:=ZF U;subst U;simp only[aD,aK]at hv;obtain⟨rfl,rfl,rfl⟩:=hv;obtain⟨ai,ca⟩:=(Cn.out (hc _ (aU ..)));have am:n ()+l ()<=1000000:=(Cn.out (hc _ (aR _ (aN.2 rfl))));obtain⟨a0,rfl⟩:∃a0:Option Addr,u= .slice a0 0 0:=by
   cases hd with
   |pure _ _ hp=>
    cases hp with
    |isl0 _ _ _ _ hz _=>exact⟨none,rfl⟩
    |islE _ _ _ _ a _ _=>exact⟨some a,rfl⟩
    |isl _ _ _ _ b o len A us b9 _ ht he _ _ _ _=>
     have S:=he rfl;have h2:len=0:=by omega
     exact⟨some ⟨b,o,none⟩,by rw[S,h2]⟩
  obtain⟨bh,w1,H1,x1,l1,v1⟩:=H.garNew s n f a0 ai;have bz:Src P bh s l (g a) x:=by
   obtain⟨_,_,us,cg,_,bt,_⟩:=H1.blk id _ (by rw[bP (aE.1 hi).1];exact hi);have ab:=hs.mono l1;generalize x=x0 at ab;cases ab with
   |pure _ _ hp=>cases hp
   |nsub _ _ _ q ll cc cn i ak bp he I hl=>
    rw[cg]at bp;cases bp;have cf:a=λ_=>(i:Int):=funext λ_=>he;subst cf;exact .arr ((bt i _ I).cong ca (λ_ _=>rfl) λ_ _ _ c hc=>⟨c,hc,λ_ h=>h⟩)
  obtain⟨r,J,q1,q2,q3,q4,q5⟩:=ZeE (P:=P) (at_:=at_) (ty:=ty) (n0:=n) (f:=f) H1 (id:=h.length) (by simp) bz h0 S hu I Z hz ae V aj am;have e:(h++[Zi.gar s n f]).set h.length (.gar s (λ_=>n ()+l ()) (Z2 n f (g a)))=h++[.gar s (λ_=>n ()+l ()) (Z2 n f (g a))]:=by simp
  rw[e]at q2 q3;rw[v1,w1]at q1;exact⟨r,J,q1,q2,x1.trans q3,l1.trans q4,q5⟩
 case h_3=>exact Zjw H hd hs h0 S hu I hv hc
 case h_2=>
  rename_i id n sz m g ci;split at hv;case isFalse=>cases hv
  rename_i al;obtain⟨j,z,Z,hz,ae,V,aj⟩:=YR al;split at hv;case h_2=>cases hv
  rename_i s n0 f hi;split at hv;case isFalse=>cases hv
  rename_i U;have U:=ZF U;subst U;simp only[aD,aK]at hv;obtain⟨rfl,rfl,rfl⟩:=hv;have az:=(Cn.out (hc _ (aU ..)));have bg:=(Cn.out (hc _ (aR _ (aN.2 rfl))));cases hd with
  |pure _ _ hp=>cases hp
  |gsl _ _ a l c' ak hn he _=>
  rw[he (by rw[az];exact(H.blk id _ hi).1.symm)];exact ZeE H hi (.of hs.isl_inv) h0 S hu I Z hz ae V aj bg
 rename_i bw n f tk sz m g ci;split at hv;case isFalse=>cases hv
 rename_i al;obtain⟨j,z,Z,hz,ae,V,aj⟩:=YR al;have ac:=hs.isl_inv;have aa:=hd.isl_inv;have ct:0<=n ():=by cases aa<;>omega
 have cr:0<=m ():=by cases ac<;>omega
 have fresh:(bw=sz\/n ()=0)->n ()+m ()<=1000000->(∀a len A,u= .slice a len A->A=len)->
   ∃r J,(Builtin.append_ at_ ty #[u,x]).run P R.w= .ok r J.w/\HR G J (h++[.tok sz λ_=>n ()+m ()])/\Xs R h J (h++[.tok sz λ_=>n ()+m ()])/\R.le J/\VR J (.isl sz (λ_=>n ()+m ()) (Z2 n f g) (.own h.length)) r:=by
  intro U am bq;have ah:∀i y,(h++[.tok sz λ_=>n ()+m ()])[i]? =some y->(i=h.length/\y= .tok sz λ_=>n ()+m ())\/(i≠h.length/\h[i]? =some y):=λi y hy=>by
   rcases QD hy with hy|⟨rfl,rfl⟩
   ·exact .inr ⟨λe=>by have:=(aE.1 hy).1;omega,hy⟩
   exact .inl ⟨rfl,rfl⟩
  have ak:(h++[.tok sz λ_=>n ()+m ()])[h.length]? =some (.tok sz λ_=>n ()+m ()):=by simp
  have aq:¬h.length<R.m:=by rw[H.len];omega
  by_cases hm0:m ()=0
  ·obtain⟨J,hw,H',hx,ao,be⟩:=Zfq H aa U hm0 (m':=R.m+1) (by rw[bf,H.len];rfl) (eF _) ah ak (λh=>absurd h aq) (λ_=>by
     cases aa with
     |isl0 _ _ _ _ _ _=>exact .inl ⟨_,rfl⟩
     |islE _ _ _ _ _ _ _=>exact .inl ⟨_,rfl⟩
     |isl _ _ _ _ b o len A us _ _ _ _ _ _ _ _=>have:=bq _ _ _ rfl;subst this;exact .inr ⟨_,_,rfl⟩)
    (λh=>absurd h aq) (λh=>absurd h aq) (λs0 au h=>by rw[cD (aJ _)]at h;cases h)
   obtain⟨xa,nn,xc,ce,new,rfl,hm,_,_,bk,Y,_⟩:=XN (P:=P) ac;have ai:nn=0:=by omega
   subst ai;have ap:new=[]:=cP (by simpa using bk);subst ap;subst V;refine⟨u,J,?_,H',hx,ao,be⟩;rw[hw];cases aa with
   |isl0 _ _ _ _ _ _=>exact Qr h0 S hu I Z none xa 0 0 xc 0 #[] R.w R.w (Y _ rfl) (by omega) (λa h=>by cases h) (λ_=>rfl)
   |islE _ _ _ _ a _ _=>exact Qr h0 S hu I Z (some a) xa 0 0 xc 0 #[] R.w R.w (Y _ rfl) (by omega) (λa _=>rfl) (λh=>by cases h)
   |isl _ _ _ _ b o len A us _ bu _ _ _ _ _ _=>exact Qr h0 S hu I Z _ xa len A xc 0 #[] R.w R.w (Y _ rfl) (by omega) (λa _=>rfl) (λh=>by cases h)
  exact Zhg H aa U ac h0 S hu I Z hz ae V aj am (λa len A hh=>by have:=bq _ _ _ hh;omega) (m':=R.m+1) (by rw[bf,H.len];rfl) (eF _) ah ak (λh=>absurd h aq)
 split at hv
 ·simp only[aD,aK]at hv;obtain⟨rfl,rfl,rfl⟩:=hv;have ba:u= .slice none 0 0/\n ()=0:=by
   cases hd with
   |pure _ _ hp=>
    cases hp with
    |isl0 _ _ _ _ hz _=>exact⟨rfl,hz⟩
    |islE _ _ _ _ _ _ ht=>rcases ht with h|h<;>cases h
    |isl _ _ _ _ _ _ _ _ _ _ _ ht _ _ _ _ _=>rcases ht with h|h<;>cases h
  exact fresh (.inr ba.2) ((Cn.out (hc _ (aN.2 rfl)))) (λa len A hh=>by rw[ba.1]at hh;cases hh;rfl)
 ·split at hv;case isFalse=>cases hv
  rename_i ab;split at hv
  ·simp only[aD,aK]at hv;obtain⟨rfl,rfl,rfl⟩:=hv;have ai:n ()=0:=(Cn.out (hc _ (aU ..)));have am:n ()+m ()<=1000000:=(Cn.out (hc _ (aR _ (aN.2 rfl))));obtain⟨a0,rfl⟩:∃a0:Option Addr,u= .slice a0 0 0:=by
    cases hd with
    |pure _ _ hp=>
     cases hp with
     |isl0 _ _ _ _ hz _=>exact⟨none,rfl⟩
     |islE _ _ _ _ a _ _=>exact⟨some a,rfl⟩
     |isl _ _ _ _ b o len A us b9 _ ht he _ _ _ _=>
      have S:=he rfl;have h2:len=0:=by omega
      exact⟨some ⟨b,o,none⟩,by rw[S,h2]⟩
   obtain⟨bh,w1,H1,x1,l1,v1⟩:=H.garNew sz n f a0 ai;obtain⟨r,J,q1,q2,q3,q4,q5⟩:=ZeE (P:=P) (at_:=at_) (ty:=ty) (n0:=n) (f:=f) H1 (id:=h.length) (by simp) (.of (ac.mono l1.ok l1.keep l1.keepM)) h0 S hu I Z hz ae V aj am;have e:(h++[Zi.gar sz n f]).set h.length (.gar sz (λ_=>n ()+m ()) (Z2 n f g))=h++[.gar sz (λ_=>n ()+m ()) (Z2 n f g)]:=by simp
   rw[e]at q2 q3;rw[v1,w1]at q1;exact⟨r,J,q1,q2,x1.trans q3,l1.trans q4,q5⟩
  simp only[aD,aK]at hv;obtain⟨rfl,rfl,rfl⟩:=hv;refine fresh (.inl (ZF ab)) ((Cn.out (hc _ (aN.2 rfl)))) (λa len A hh=>?_);cases hd with
  |pure _ _ hp=>
   cases hp with
   |isl0 _ _ _ _ hz _=>cases hh;rfl
   |islE _ _ _ _ _ _ _=>cases hh;rfl
   |isl _ _ _ _ _ _ _ _ _ _ _ ht he _ _ _ _=>cases hh;exact he rfl
 ·rename_i id;split at hv;case isFalse=>cases hv
  rename_i ab;have ab:=ZF ab;subst ab;split at hv;case h_2=>cases hv
  rename_i s au hi;split at hv;case isFalse=>cases hv
  rename_i bc;have bc:=ZF bc;subst bc;simp only[aD,aK]at hv;obtain⟨rfl,rfl,rfl⟩:=hv;have az:n ()=au ():=(Cn.out (hc _ (aU ..)));have bg:n ()+m ()<=1000000:=(Cn.out (hc _ (aR _ (aU ..))));have bx:id<R.m:=H.len▸(aE.1 hi).1;obtain⟨ar,bl⟩:=H.blk id _ hi;have aw:R.hv id=u:=by
   cases hd with
   |pure _ _ hp=>
    cases hp with
    |isl0 _ _ _ _ _ ht=>cases ht
    |islE _ _ _ _ _ _ ht=>rcases ht with h|h<;>cases h
    |isl _ _ _ _ _ _ _ _ _ _ _ ht _ _ _ _ _=>rcases ht with h|h<;>cases h
   |own _ _ _ _ _ _ _ _ he=>exact(he (by rw[ar];exact az)).symm
  have ah:∀i y,(h.set id (.tok s λ_=>n ()+m ()))[i]? =some y->(i=id/\y= .tok s λ_=>n ()+m ())\/(i≠id/\h[i]? =some y):=λi y hx=>by
   rw[bQ]at hx;split at hx
   ·rename_i e;subst e;split at hx
    ·simp only[aD]at hx;exact .inl ⟨rfl,hx.symm⟩
    cases hx
   rename_i e;exact .inr ⟨λh=>e h.symm,hx⟩
  have ak:(h.set id (.tok s λ_=>n ()+m ()))[id]? =some (.tok s λ_=>n ()+m ()):=by rw[bQ];simp[(aE.1 hi).1]
  have a9:(h.set id (.tok s λ_=>n ()+m ())).length=R.m:=by rw[bW];exact H.len
  by_cases hm0:m ()=0
  ·obtain⟨J,hw,H',hx,ao,be⟩:=Zfq H aa (.inl rfl) hm0 a9 (aJ _) ah ak (λ_=>⟨s,au,hi,by rw[ar];omega,λ_=>aw.symm⟩) (λh=>absurd bx h)
    (λ_=>by
     rw[aw]at bl;rcases bl with⟨a1,a2⟩|⟨b,o,len,A,a1,a2,a3,a4⟩
     ·exact .inl ⟨by omega,a2⟩
     exact .inr ⟨b,o,len,A,by omega,a2,a3,a4⟩) (λ_=>aw.symm) (λs0 cq h=>by rw[hi]at h;cases h;rfl)
   obtain⟨xa,nn,xc,ce,new,rfl,hm,_,_,bk,Y,_⟩:=XN (P:=P) ac;have ai:nn=0:=by omega
   subst ai;have ap:new=[]:=cP (by simpa using bk);subst ap;subst V;refine⟨u,J,?_,H',hx,ao,be⟩;rw[hw];cases aa with
   |isl0 _ _ _ _ _ _=>exact Qr h0 S hu I Z none xa 0 0 xc 0 #[] R.w R.w (Y _ rfl) (by omega) (λa h=>by cases h) (λ_=>rfl)
   |islE _ _ _ _ a _ _=>exact Qr h0 S hu I Z (some a) xa 0 0 xc 0 #[] R.w R.w (Y _ rfl) (by omega) (λa _=>rfl) (λh=>by cases h)
   |isl _ _ _ _ b o len A us _ bu _ _ _ _ _ _=>exact Qr h0 S hu I Z _ xa len A xc 0 #[] R.w R.w (Y _ rfl) (by omega) (λa _=>rfl) (λh=>by cases h)
  by_cases hroom:∀a len A,u= .slice a len A->(len:Int)+m ()<=A
  ·exact Zoo H aa ac h0 S hu I Z V hi aw (by rw[ar];exact az.symm) (by omega) hroom
  refine Zhg H aa (.inl rfl) ac h0 S hu I Z hz ae V aj bg (λa len A hh hl=>hroom (λa' cj ck bm=>?_)) a9 (aJ _) ah ak (λ_=>⟨s,au,hi,by rw[ar];omega⟩);rw[hh]at bm;cases bm;exact hl
 ·cases hv
 cases hv
theorem ZqS (A:Nat):∀(H:List Value) (q:Nat) (G:Array Value),((H.zipIdx q).foldl (λcs (p:Value×Nat)=>cs.setIfInBounds (A+p.2) p.1) G).size=G.size/\
  ∀t,((H.zipIdx q).foldl (λcs (p:Value×Nat)=>cs.setIfInBounds (A+p.2) p.1) G)[t]? =if A+q<=t/\t<A+q+H.length/\t<G.size then H[t-(A+q)]? else G[t]? :=by
 intro H;induction H with
 |nil=>intro q G;exact⟨rfl,λt=>by simp;omega⟩
 |cons v H J=>
  intro q G;simp only[gI,dR];obtain⟨I,S⟩:=J (q+1) (G.setIfInBounds (A+q) v);refine⟨by rw[I];simp,λt=>?_⟩;rw[S];simp only[eY,bF];by_cases c1:A+(q+1)<=t/\t<A+(q+1)+H.length/\t<G.size
  ·rw[iQ c1,iQ (by omega),show t-(A+q)=(t-(A+(q+1)))+1 from by omega,cM]
  rw[iP c1,bS];by_cases c2:A+q=t
  ·subst c2;by_cases c3:A+q<G.size
   ·rw[iQ rfl,iQ c3,iQ (by omega)];simp
   rw[iQ rfl,iP c3,iP (by omega),eD (by omega)]
  rw[iP c2,iP (by omega)]
theorem ZqT {s:Nat} {v:Value} {cells:Array Value} (hv:v.cells.size=s) (H:cells.size=s):∃arr,Instr.fill (λi=>some (i*s,s)) cells [(0,v)]=some arr/\arr.size=s/\∀k,k<s->arr[k]? =v.cells[k]? :=by
 obtain⟨G,A⟩:=ZqS (0*s) v.cells.toList 0 cells;refine⟨(v.cells.toList.zipIdx 0).foldl (λcs (p:Value×Nat)=>cs.setIfInBounds (0*s+p.2) p.1) cells,?_,G.trans H,λk I=>?_⟩
 ·simp only[Instr.fill];rw[iP (by rw[hv];simp;omega)];rw[<-fE];have e:v.cells.zipIdx.toList=v.cells.toList.zipIdx:=by simp
  rw[e]
 rw[A,iQ (by simp[hv];omega)];simp
theorem ZqG {c:AV} {u:Value} (hv:VR R c u) (G:ZuD (purify c)=true):VR R (purify c) u:=by
 by_cases hp:XY (purify c)=true
 ·exact .pure _ _ (hv.purify hp)
 have A:purify c=c:=by
  cases c with
  |isl s n f tk=>cases tk<;>first|rfl|exact absurd rfl hp
  |_=>rfl
 rw[A];exact hv
theorem ZeI {E:Operand->AV} {ρ:Operand->Value} {s:Nat}:∀(ps:List (Nat×Operand)) (k:Nat) (A:List (List AV)) (cells:Array Value),ZcI E s k ps=some A->(k+ps.length)*s=cells.size->(∀p∈ps,VR R (E p.2) (ρ p.2))->
  ∃arr,Instr.fill (λi=>some (i*s,s)) cells (ps.map λp=>(p.1,ρ p.2))=some arr/\arr.size=cells.size/\A.length=ps.length/\(∀i,i<k*s->arr[i]? =cells[i]?)/\
   ∀i r,A[i]? =some r->r.length=s/\∀j c,r[j]? =some c->PR R.w R.ok c (arr.getD ((k+i)*s+j) undef)
 |[],k,A,cells,hl,hsz,_=>by
  simp only[ZcI,aD]at hl;subst hl;exact⟨cells,rfl,rfl,rfl,λ_ _=>rfl,λi r h=>by simp at h⟩
 |(i,x)::ps,k,A,cells,hl,hsz,hE=>by
  simp only[ZcI]at hl;split at hl;case isFalse=>cases hl
  rename_i ab;simp only[aS]at ab;obtain⟨⟨⟨V,J⟩,I⟩,ae⟩:=ab;have V:=ZF V;have I:=ZF I;subst V;simp only[aG]at hl;obtain⟨Y,hr,rfl⟩:=hl;have U:=Jp (hE (i,x) (aU ..)) (λg y e=>by rw[e]at J;cases J) (λe=>by rw[e]at J;cases J);have ac:(ρ x).cells.size=s:=by rw[<-U.1,I]
  have ah:(i+1+ps.length)*s=cells.size:=by rw[<-hsz,bF];congr 1;omega
  have aa:∀(H:List Value) (q:Nat) (G:Array Value),((H.zipIdx q).foldl (λcs (p:Value×Nat)=>cs.setIfInBounds (i*s+p.2) p.1) G).size=G.size/\
    ∀t,((H.zipIdx q).foldl (λcs (p:Value×Nat)=>cs.setIfInBounds (i*s+p.2) p.1) G)[t]? =if i*s+q<=t/\t<i*s+q+H.length/\t<G.size then H[t-(i*s+q)]? else G[t]? :=by
   intro H;induction H with
   |nil=>intro q G;exact⟨rfl,λt=>by simp;omega⟩
   |cons v H ih=>
    intro q G;simp only[gI,dR];obtain⟨i1,i2⟩:=ih (q+1) (G.setIfInBounds (i*s+q) v);refine⟨by rw[i1];simp,λt=>?_⟩;rw[i2];simp only[eY,bF];by_cases c1:i*s+(q+1)<=t/\t<i*s+(q+1)+H.length/\t<G.size
    ·rw[iQ c1,iQ (by omega),show t-(i*s+q)=(t-(i*s+(q+1)))+1 from by omega,cM]
    rw[iP c1,bS];by_cases c2:i*s+q=t
    ·subst c2;by_cases c3:i*s+q<G.size
     ·rw[iQ rfl,iQ c3,iQ (by omega)];simp
     rw[iQ rfl,iP c3,iP (by omega),eD (by omega)]
    rw[iP c2,iP (by omega)]
  obtain⟨f1,f2⟩:=aa (ρ x).cells.toList 0 cells;have ak:i*s+s<=cells.size:=by
   have:(i+1)*s<=(i+1+ps.length)*s:=aL _ (by omega);rw[bI]at this;omega
  obtain⟨arr,a1,a2,a3,a4,a5⟩:=ZeI ps (i+1) Y _ hr (by rw[f1];exact ah) (λp hp=>hE p (aR _ hp));refine⟨arr,?_,by rw[a2,f1],by simp[a3],λt ht=>?_,λq r Z=>?_⟩
  ·simp only[bX,Instr.fill];rw[iP (by rw[ac];simp;omega)];rw[<-fE];have e:(ρ x).cells.zipIdx.toList=(ρ x).cells.toList.zipIdx:=by simp
   rw[e];exact a1
  ·rw[a4 t (by rw[bI];omega),f2,iP (by omega)]
  cases q with
  |zero=>
   simp only[bJ,aD]at Z;subst Z;refine⟨by simp[I],λj c hj=>?_⟩;rw[aP,aG]at hj;obtain⟨c0,S,rfl⟩:=hj;have aj:j<s:=by rw[<-I];exact(aE.1 S).1
   have hv:=U.2 j c0 S;have ai:XY (purify c0)=true:=by
    rw[bM]at ae;exact ae _ (bE.2 ⟨c0,aZ S,rfl⟩)
   have:=hv.purify ai;have e:arr.getD ((i+0)*s+j) undef=(ρ x).cells.getD j undef:=by
    rw[aI,aI,dS,a4 _ (by rw[bI];omega),f2,iQ (by simp[ac];omega)];simp
   rw[e];exact this
  |succ q=>
   rw[cM]at Z;obtain⟨b1,b2⟩:=a5 q r Z;exact⟨b1,λj c hj=>by rw[show i+(q+1)=i+1+q from by omega];exact b2 j c hj⟩
theorem Zhb (H:HR G R h) {E:Operand->AV} {ρ:Operand->Value} {t:TypeId} {n:Nat} {ps:Array (Nat×Operand)} {v:AV} (hE:∀p∈ps.toList,VR R (E p.2) (ρ p.2)) (hv:Yn P E t n ps.toList=some v):
  ∃u J,(Instr.buildSlice t n (ps.map λ(i,x)=>(i,ρ x))).run P R.w= .ok u J.w/\HR G J h/\Xs R h J h/\R.le J/\VR J v u:=by
 unfold Yn at hv;split at hv;case h_2=>cases hv
 rename_i T hT;split at hv;case h_2=>cases hv
 rename_i e s eb I;split at hv;case isFalse=>cases hv
 rename_i Y;simp only[aS]at Y;obtain⟨⟨au,U⟩,ak⟩:=Y;have U:=ZF U;have ak:=Xc ak;obtain⟨j,hu,hj,hs,_⟩:=Jx hT I;obtain⟨j',z,aq,hz,bl,bh,_⟩:=YR au;rw[hj]at aq;cases aq;split at hv;case h_2=>
  unfold Zjd at hv;split at hv;case h_2=>cases hv
  rename_i i x al;split at hv;case isFalse=>cases hv
  rename_i Y;simp only[aS]at Y;obtain⟨⟨⟨ao,ac⟩,ae⟩,az⟩:=Y;have ao:=ZF ao;have ae:=ZF ae;simp only[aD]at hv;subst hv ao;have ar:n=1:=by rw[<-U,al];rfl
  subst ar;have ai:=Jp (hE (0,x) (by rw[al];exact aN.2 rfl)) (λg y e=>by rw[e]at ac;cases ac) (λe=>by rw[e]at ac;cases ac);have a9:(ρ x).cells.size=s:=by rw[<-ai.1,ae]
  obtain⟨arr,V,a2,a3⟩:=ZqT (s:=s) (cells:=(fh (1*s)).map λk=>(if 1*s=0 then #[]else z.cells)[k%(if 1*s=0 then #[]else z.cells).size]!) a9 (by simp);obtain⟨J,hw,hm,bc,ba,be,H',hx,S,aa⟩:=H.make (.cells arr e);refine⟨.slice (some ⟨R.w.heap.size,0,none⟩) 1 1,J,?_,H',hx,S,?_⟩
  ·have aj:(ps.map λ(i,x)=>(i,ρ x)).toList=[(0,ρ x)]:=by simp[al]
   unfold Instr.buildSlice;simp only[aQ,Zy hu,aH,Z6 hj,hs,aj];rw[iP (by omega)];rw[hw];by_cases hns:1*s=0
   ·simp only[iQ hns]at V|-;simp only[aQ,bC,aH];rw[V];rfl
   simp only[iP hns]at V|-;simp only[aQ,bC,aH,zeroValue,Xx hj,hz];rw[V];rfl
  have ab:J.w.heap[R.w.heap.size]? =some (.cells arr e (0,0)):=by rw[hw];simp
  have am:((E x).cellsOf.map purify).length=s:=by rw[bA];exact ae
  refine .lit s _ R.w.heap.size 0 (λk=>arr.getD k undef) am (λk c I=>?_) (λk c I=>?_) (aa _ _)
  ·have ah:k<s:=by rw[<-am];exact(aE.1 I).1
   rw[dB];exact Z4 ab (by omega)
  have ah:k<s:=by rw[<-am];exact(aE.1 I).1
  rw[aP,aG]at I;obtain⟨c0,ap,rfl⟩:=I;have e1:arr.getD k undef=(ρ x).cells.getD k undef:=by
   rw[aI,aI,a3 k ah]
  rw[e1];exact(ZqG (ai.2 k c0 ap) (bM.1 az _ (bE.2 ⟨c0,aZ ap,rfl⟩))).mono S
 rename_i A hr;simp only[aD]at hv;subst hv;obtain⟨arr,V,a2,a3,a4,a5⟩:=ZeI (R:=R) (ρ:=ρ) ps.toList 0 A ((fh (n*s)).map λk=>(if n*s=0 then #[]else z.cells)[k%(if n*s=0 then #[]else z.cells).size]!) hr (by simp[U]) hE;obtain⟨J,hw,hm,bc,ba,be,H',hx,S,aa⟩:=H.make (.cells arr e);refine⟨.slice (some ⟨R.w.heap.size,0,none⟩) n n,J,?_,H',hx,S,.pure _ _ ?_⟩
 ·have aj:(ps.map λ(i,x)=>(i,ρ x)).toList=ps.toList.map λp=>(p.1,ρ p.2):=by simp
  unfold Instr.buildSlice;simp only[aQ,Zy hu,aH,Z6 hj,hs,aj];rw[iP (by omega)];rw[hw];by_cases hns:n*s=0
  ·simp only[iQ hns]at V|-;simp only[aQ,bC,aH];rw[V];rfl
  simp only[iP hns]at V|-;simp only[aQ,bC,aH,zeroValue,Xx hj,hz];rw[V];rfl
 have aw:A.length=n:=by rw[a3,cW];rw[cW]at U;exact U
 have ab:J.w.heap[R.w.heap.size]? =some (.cells arr e (0,0)):=by rw[hw];simp
 have bk:arr.size=n*s:=by rw[a2];simp
 refine .isl _ _ _ _ R.w.heap.size 0 n n (λi k=>arr.getD (i*s+k) undef) (by show(A.length:Int)=n;rw[aw]) (aJ _) (.inr rfl) (λ_=>rfl) (λi hi=>?_) (λi k c hi I=>?_) (λi k c hi I=>?_) (aa _ _)
 ·have:A[i]? =some A[i]:=aC (by omega);show(A.getD (i:Int).toNat (A.headD [])).length=s;rw[aW,aA,this];exact(a5 i _ this).1
 ·have Z:A[i]? =some A[i]:=aC (by omega);replace I:(A.getD (i:Int).toNat (A.headD []))[k]? =some c:=I;rw[aW,aA,Z]at I;have ah:k<s:=by rw[<-(a5 i _ Z).1];exact(aE.1 I).1
  have bg:i*s+s<=n*s:=by
   have:(i+1)*s<=n*s:=aL _ hi;rwa [bI]at this
  rw[dB];exact Z4 ab (by omega)
 have Z:A[i]? =some A[i]:=aC (by omega);replace I:(A.getD (i:Int).toNat (A.headD []))[k]? =some c:=I;rw[aW,aA,Z]at I;have:=(a5 i _ Z).2 k c I;rw[dB]at this;exact this.mono S.ok S.keep S.keepM
end
end Vm
namespace Vm
open Go
section
variable {P:Program} {R:RC} {G:Nat->Nat->Nat->Prop} {h:List Zi}
theorem Zhs (d n:Nat) (x:List Int):Instr.sameBits (d+2) (Xu n x) (Xu n x)=true:=by
 cases n with
 |zero=>simp[Xu,Instr.sameBits]
 |succ n=>
  have A:∀(m:Nat) (x:List Int),((QF m x).zip (QF m x)).all (λp=>Instr.sameBits (d+1) p.1 p.2)=true:=by
   intro m;induction m with
   |zero=>intro x;rfl
   |succ m G=>intro x;simp only[QF,List.zip_cons_cons,List.all_cons,G];simp[Instr.sameBits]
  simp only[Xu,Instr.sameBits,beq_self_eq_true,Bool.true_and];exact A (n+1) x
theorem ZaR {α A:Type} {f:A->A} {k:A->List Int} {x:List Int} {d:A}:∀(l:List (α×A)) (i:Nat) (p:α×A),l[i]? =some p->k p.2=x->(l.map λq=>k q.2).Nodup->(∀q,k q=x->f q=d)->(∀q,k q≠x->f q=q)->∀a:α,(l.set i (a,d)).map (·.2)=(l.map (·.2)).map f
 |[],i,p,h,_,_,_,_,a=>by simp at h
 |q::l,0,p,h,hp,hn,h1,h2,a=>by
  simp only[bJ,aD]at h;subst h;rw[bX,ee]at hn;simp only[List.set_cons_zero,bX,h1 _ hp,cB,true_and];rw[List.map_map];refine List.map_congr_left λr hr=>?_;exact(h2 r.2 λe=>hn.1 (bE.2 ⟨r,hr,e.trans hp.symm⟩)).symm
 |q::l,i+1,p,h,hp,hn,h1,h2,a=>by
  rw[bX,ee]at hn;have h:l[i]? =some p:=by simpa using h
  have G:k q.2≠x:=λe=>hn.1 (bE.2 ⟨p,aZ h,hp.trans e.symm⟩);simp only[List.set_cons_succ,bX,h2 _ G,cB,true_and];exact ZaR l i p h hp hn.2 h1 h2 a
theorem Zga {α:Type} {V:α->Value->Prop} {t kt et:TypeId} {A:Nat} (hu:P.underlying t=some (.map kt et)) (aa:keyT P kt A=true) {x:List Int} (hx:x.length=Zkl A) (R:RC) {w:World} {b:Nat} {es:Array MapEntry} {clk:Nat} {L:List (List Int×α)} (S:w.heap[b]? =some (.map es clk))
  (hm:ZeV A V es clk L) {v:Value} {d:α} (hd:V d v):∃ab Y,(Instr.mapUpdate t (.map (some b)) (Xu A x) v).run P w=(setObj b (.map ab Y)).run P w/\ZeV A V ab Y (Jz L x d):=by
 obtain⟨l,hm⟩:=hm;have ai:=λem=>Zc5 (P:=P) em aa hx w;have ae:(getObj b).run P w= .ok (.map es clk) w:=by simp[getObj,Sem.run,S]
 have al:=hm.keys;unfold Instr.mapUpdate;rcases ZdG aa hx R w hm with⟨H,J⟩|⟨i,p,H,J,h3⟩
 ·refine⟨es.push {key:=Xu A x,val:=v,born:=clk},clk+1,?_,l++[({key:=Xu A x,val:=v,born:=clk},(x,d))],?_,?_,?_,?_,?_⟩
  ·simp only[aQ,Zy hu,aH,ae,ai,H]
  ·simp[hm.es]
  ·have ak:L.any (λp=>p.1==x)=false:=by
    rw[List.any_eq_false];intro p I;have:p∈l.map (·.2):=hm.L.mem_iff.2 I;obtain⟨q,G,rfl⟩:=bE.1 this;simpa using J q G
   unfold Jz;rw[ak];simp only[aX,if_false,dD,bX,List.map_nil];exact hm.L.append_right _
  ·rw[dD,fK];refine⟨hm.nd,by simp,λa ha b S=>?_⟩;simp at S;subst S;obtain⟨q,G,rfl⟩:=bE.1 ha;exact J q G
  ·rw[dD,fK];refine⟨hm.bn,by simp,λa ha b S=>?_⟩;simp at S;subst S;obtain⟨q,G,rfl⟩:=bE.1 ha;have:=(hm.e q G).2.2.2;omega
  intro p I;rcases cK.1 I with I|I
  ·obtain⟨a1,a2,a3,a4⟩:=hm.e p I;exact⟨a1,a2,a3,by omega⟩
  simp at I;subst I;exact⟨rfl,hd,hx,Nat.lt_succ_self _⟩
 have ac:=aZ H;obtain⟨k1,k2,k3,k4⟩:=hm.e p ac;have U:i<l.length:=(aE.1 H).1;have ah:es[i]? =some p.1:=by
  rw[<-bN,<-hm.es,aP,H];rfl
 have Z:(Instr.keyThatStays (((es[i]?).map (·.key)).getD (Xu A x)) (Xu A x)).run P w= .ok (Xu A x) w:=by
  rw[ah];simp only[cI,bY,k1,J];have:=Zhs 9998 A x;simp only[Instr.keyThatStays,this,if_true,bC]
 refine⟨es.modify i λe=>{e with key:=Xu A x,val:=v},clk,?_,l.set i ({p.1 with key:=Xu A x,val:=v},(x,d)),?_,?_,?_,?_,?_⟩
 ·simp only[aQ,Zy hu,aH,ae,ai,h3,Z]
 ·rw[ic,hm.es];apply ew;intro j;simp only[bQ,bN,cU];by_cases hj:i=j
  ·subst hj;have:i<es.toList.length:=by rw[<-hm.es];simpa using U
   rw[iQ rfl,iQ this,iQ rfl,ah];rfl
  rw[iP hj,iP hj]
 ·have aj:L.any (λp=>p.1==x)=true:=by
   rw[List.any_eq_true];exact⟨p.2,hm.L.mem_iff.1 (bE.2 ⟨p,ac,rfl⟩),by simpa using J⟩
  unfold Jz;rw[aj,iQ rfl];rw[ZaR (k:=(·.1)) (x:=x) (f:=λp=>if p.1==x then(x,d)else p) l i p H J hm.nd (λq G=>by rw[iQ (by simpa using G)]) (λq G=>by rw[iP (by simpa using G)])];exact hm.L.map _
 ·have:(l.set i ({p.1 with key:=Xu A x,val:=v},(x,d))).map (·.2.1)=l.map (·.2.1):=by
   rw[ic];refine ew λj=>?_;rw[bQ];by_cases hj:i=j
   ·subst hj;rw[iQ rfl,iQ (by simpa using U),aP,H];simp[J]
   rw[iP hj]
  rw[this];exact hm.nd
 ·have:(l.set i ({p.1 with key:=Xu A x,val:=v},(x,d))).map (·.1.born)=l.map (·.1.born):=by
   rw[ic];refine ew λj=>?_;rw[bQ];by_cases hj:i=j
   ·subst hj;rw[iQ rfl,iQ (by simpa using U),aP,H];rfl
   rw[iP hj]
  rw[this];exact hm.bn
 intro q G;rcases List.mem_or_eq_of_mem_set G with G|rfl
 ·exact hm.e q G
 exact⟨rfl,hd,hx,k4⟩
theorem ZrP {n:Nat} {x:AV} {d:Unit->List Int} {u:Value} (h:ZuR n x=some d) (I:VR R x u):u=Xu n (d ()):=by
 unfold ZuR at h;split at h
 ·split at h
  ·rename_i V;cases h;have e:=ZF V;subst e;rw[I.int_inv];rfl
  cases h
 ·rename_i cs;split at h
  ·rename_i A;simp only[aS]at A;have e:=ZF A.1;have Y:=ZaD A.2;obtain⟨G,rfl,S,hr⟩:=I.agg_inv;obtain⟨Z,U⟩:=Zey (R:=R) h;have H:=U G.toList (by simpa using S) λj c J=>by simpa using hr j c J
   subst e;obtain⟨m,hm⟩:∃m,cs.length=m+1:=⟨cs.length-1,by omega⟩;rw[hm]at H|-;show Value.agg G= .agg (QF (m+1) (d ())).toArray;rw[<-H]
  cases h
 cases h
theorem Zi8 (H:HR G R h) {t kt et:TypeId} {id:Nat} {n:Unit->Int} {U:Unit->Bool} {f:(Unit->Int)->Unit->Bool} {m k x:Value} (hm:VR R (.map id) m) (Y:VR R (.int .i64 n) k) (hx:VR R (.bool U) x)
  (hu:P.underlying t=some (.map kt et)) (hi:h[id]? =some (.mapB f)) (ah:P.underlying kt=some (.int .i64)):
  ∃S,(Instr.mapUpdate t m k x).run P R.w= .ok () S.w/\HR G S (h.set id (.mapB λe u=>if e ()=n ()then U u else f e u))/\Xs R h S (h.set id (.mapB λe u=>if e ()=n ()then U u else f e u))/\R.le S:=by
 obtain⟨es,cl,h1,h2,h3⟩:=H.blk id _ hi;rw[hm.map_inv,Y.int_inv,hx.bool_inv];have ap:=ZdH (P:=P) ah false (n ()) R.w;have ak:=Zgb (P:=P) h1;have upd:∀(aa:Array MapEntry) (ac:Nat),Zxp aa.toList (λe u=>if e ()=n ()then U u else f e u)->
   ∃S,(setObj (R.α id).b (.map aa ac)).run P R.w= .ok () S.w/\HR G S (h.set id (.mapB λe u=>if e ()=n ()then U u else f e u))/\Xs R h S (h.set id (.mapB λe u=>if e ()=n ()then U u else f e u))/\R.le S:=by
  intro aa ac hM;obtain⟨S,hw,_,ao,H',aq,al⟩:=H.upd hi rfl (blk':=.mapB λe u=>if e ()=n ()then U u else f e u) rfl {R.w with heap:=R.w.heap.setIfInBounds (R.α id).b (.map aa ac)} rfl rfl rfl (by simp)
   (λb hb=>by simp[aF (Ne.symm hb)]) (λS al ao hw=>⟨aa,ac,by rw[hw,ao];simp[(aM.1 h1).1],hM⟩)
  exact⟨S,by rw[hw];simp[setObj,Sem.run,h1],H',aq,al⟩
 have ae:∀x:Int,(λ(e:Unit->Int) u=>if e ()=n ()then U u else f e u) (λ_=>x) ()=if x=n ()then U ()else f (λ_=>x) ():=λx=>rfl
 unfold Instr.mapUpdate;rcases Zco (n ()) es.toList 0 h2 with⟨a1,a2⟩|⟨i,e,a1,a2,a3,a4⟩
 ·obtain⟨S,hr,ab⟩:=upd (es.push {key:=.int .i64 (n ()),val:=.bool (U ()),born:=cl}) (cl+1) ⟨λe I=>by
    rw[ij,cK]at I;rcases I with I|I
    ·exact h2 e I
    ·simp only[aN]at I;subst I;exact⟨_,_,rfl,rfl⟩,λx=>by
    rw[ae,ij];by_cases hxn:x=n ()
    ·subst hxn;refine .inr ⟨es.toList.length,{key:=.int .i64 (n ()),val:=.bool (U ()),born:=cl},by simp,rfl,by simp,λj J A V=>?_⟩;rw[bP A]at V;exact a2 J (aZ V)
    rw[iP hxn];rcases h3 x with⟨b1,b2⟩|⟨i,e,b1,b2,b3,b4⟩
    ·refine .inl ⟨λe I=>?_,b2⟩;rw[cK]at I;rcases I with I|I
     ·exact b1 e I
     simp only[aN]at I;subst I;intro hh;injection hh with _ hh;exact hxn hh.symm
    have hl:=(aE.1 b1).1
    exact .inr ⟨i,e,by rw[bP hl];exact b1,b2,b3,λj J A V=>b4 j J A (by rwa [bP (by omega)]at V)⟩⟩
  refine⟨S,?_,ab⟩;simp only[aQ,Zy hu,aH,ak,ap,dP,Zy ah,a1,bC];exact hr
 have au:i<es.size:=by have:=(aE.1 a1).1;simpa using this
 have am:es[i]? =some e:=by rw[<-bN];exact a1
 have aj:(Instr.keyThatStays e.key (.int .i64 (n ()))).run P R.w= .ok (.int .i64 (n ())) R.w:=by
  rw[a2];have:∀d,Instr.sameBits d (.int .i64 (n ())) (.int .i64 (n ()))=true:=λd=>by cases d<;>simp[Instr.sameBits]
  simp only[Instr.keyThatStays,this,if_true,bC]
 have Z:∀j,(es.modify i λe=>{e with key:=.int .i64 (n ()),val:=.bool (U ())}).toList[j]? =if j=i then some {e with key:=.int .i64 (n ()),val:=.bool (U ())}else es.toList[j]? :=λj=>by
  rw[bN,cU];by_cases A:i=j
  ·subst A;simp[am]
  rw[iP A,iP (λh=>A h.symm),bN]
 obtain⟨S,hr,ab⟩:=upd (es.modify i λe=>{e with key:=.int .i64 (n ()),val:=.bool (U ())}) cl ⟨λJ I=>by
   obtain⟨j,A⟩:=en.1 I;rw[Z]at A;split at A
   ·simp only[aD]at A;subst A;exact⟨_,_,rfl,rfl⟩
   ·exact h2 J (aZ A),λx=>by
   rw[ae];by_cases hxn:x=n ()
   ·subst hxn;refine .inr ⟨i,{e with key:=.int .i64 (n ()),val:=.bool (U ())},by rw[Z,iQ rfl],rfl,by simp,λj J A V=>?_⟩;rw[Z,iP (by omega)]at V;exact a3 j J A V
   rw[iP hxn];have ai:∀(j:Nat) (J:MapEntry),(es.modify i λe=>{e with key:=.int .i64 (n ()),val:=.bool (U ())}).toList[j]? =some J->J.key= .int .i64 x->es.toList[j]? =some J:=λj J A Y=>by
    rw[Z]at A;split at A
    ·simp only[aD]at A;subst A;injection Y with _ Y;exact absurd Y.symm hxn
    exact A
   rcases h3 x with⟨b1,b2⟩|⟨i',J,b1,b2,b3,b4⟩
   ·refine .inl ⟨λJ I Y=>?_,b2⟩;obtain⟨j,A⟩:=en.1 I;exact b1 J (aZ (ai j J A Y)) Y
   have ar:i'≠i:=λhh=>by
    subst hh;rw[a1]at b1;cases b1;rw[a2]at b2;injection b2 with _ b2;exact hxn b2.symm
   exact .inr ⟨i',J,by rw[Z,iP ar];exact b1,b2,b3,λj e1 A V Y=>b4 j e1 A (ai j e1 V Y) Y⟩⟩
 refine⟨S,?_,ab⟩;simp only[aQ,Zy hu,aH,ak,ap,dP,Zy ah,a4,bC,dB,am,cI,bY,aj];exact hr
theorem Zhy (H:HR G R h) {t:TypeId} {a b q v:AV} {m k x:Value} {h':List Zi} {c:Cd} (hm:VR R a m) (hk:VR R b k) (hx:VR R q x) (hv:X0 (tyP P) t a b q h=some (v,h',c)):
  v= .undef/\∃I,(Instr.mapUpdate t m k x).run P R.w= .ok () I.w/\HR G I h'/\Xs R h I h'/\R.le I:=by
 unfold X0 at hv;split at hv;case h_2=>cases hv
 rename_i kt et id hu;have put:∀(g:Gob) (J:Array MapEntry) (A:Nat),(∃o,R.w.heap[(R.α id).b]? =some o/\Zs7 o=true)->(∃blk,h[id]? =some blk/\αk blk=true)->(Instr.mapUpdate t m k x).run P R.w=(setObj (R.α id).b (.map J A)).run P R.w->(∀I:RC,R.le I->ZjE I (R.α id).b (.map J A) g)->
   ∃I,(Instr.mapUpdate t m k x).run P R.w= .ok () I.w/\HR G I (h.set id (.gob g))/\Xs R h I (h.set id (.gob g))/\R.le I:=by
  rintro g J A ⟨o,V,Y⟩ ⟨blk,U,hk⟩ ae hg;obtain⟨I,hw,_,ab,H',ah,S⟩:=H.upd U hk (blk':=.gob g) rfl {R.w with heap:=R.w.heap.setIfInBounds (R.α id).b (.map J A)} rfl rfl rfl (by simp)
   (λb hb=>by simp[aF (Ne.symm hb)]) (λI S ab hw=>⟨.map J A,by rw[hw,ab];simp[(aM.1 V).1],rfl,by rw[ab];exact hg I S⟩)
  refine⟨I,?_,H',ah,S⟩;rw[ae,hw];cases o<;>first|(simp[Zs7]at Y;done)|simp[setObj,Sem.run,V]
 split at hv
 ·rename_i f U;split at hv;case h_2=>cases hv
  rename_i n bv ak;cases hv;exact⟨rfl,Zi8 H hm hk hx hu U ak⟩
 ·rename_i ka n L U;split at hv;case h_2=>cases hv
  rename_i g d hg hd;cases hv;obtain⟨o,V,Y,es,aj,rfl,ac⟩:=H.blk id _ U;obtain⟨rfl,h1,h2⟩:=ZdS hg hk;rw[hm.map_inv]at put|-;obtain⟨J,A,r1,r2⟩:=Zga (P:=P) hu h2 h1 R V ac (ZrP hd hx);exact⟨rfl,put (.mapL ka n λ_=>Jz (L ()) (g ()) (d ())) J A ⟨_,V,Y⟩ ⟨_,U,rfl⟩ r1 λI S=>⟨J,A,rfl,r2⟩⟩
 ·rename_i ka kb n L U;split at hv;case h_2=>cases hv
  rename_i g al n' L2 hg;split at hv;case isFalse=>cases hv
  rename_i aa;simp only[aS]at aa;obtain rfl:=ZF aa.1;obtain rfl:=ZF aa.2;cases hv;obtain⟨o,V,Y,es,aj,rfl,ac⟩:=H.blk id _ U;obtain⟨rfl,h1,h2⟩:=ZdS hg hk;rw[hm.map_inv]at put|-;have ai:PR R.w R.ok (.imap kb n λ_=>L2 ()) x:=by
   cases hx with
   |pure _ _ hp=>exact hp
  obtain⟨J,A,r1,r2⟩:=Zga (P:=P) hu h2 h1 R V ac (v:=x) (d:=L2 ()) ai
  exact⟨rfl,put (.mapM ka kb n λ_=>Jz (L ()) (g ()) (L2 ())) J A ⟨_,V,Y⟩ ⟨_,U,rfl⟩ r1 λI S=>by
   obtain⟨l,Z⟩:=r2
   exact⟨J,A,rfl,l,Z.es,Z.L,Z.nd,Z.bn,λp hp=>⟨(Z.e p hp).1,(Z.e p hp).2.1.mono S.ok S.keep S.keepM,(Z.e p hp).2.2⟩⟩⟩
 cases hv
theorem ZqX {gr:Bool} (H:HR G R h) {o:Oper} {E:Operand->AV} {ρ:Operand->Value} (Y:∀x∈o.op.operands,VR R (E x) (ρ x)) {v:AV} {h':List Zi} {c:Cd} (hv:evE gr P E h o.op=some (v,h',c)) (hc:ZV c):
  J2 R G h v h' ((execOp ρ o).run P R.w):=by
 obtain⟨bt,op,ty,pos,bq,bp⟩:=o;dsimp only at Y hv;cases op with
 |alloc t=>
  simp only[evE]at hv;split at hv;case h_2=>cases hv
  rename_i T hT;split at hv;case h_2=>cases hv
  rename_i z hz;simp only[aD,aK]at hv;obtain⟨rfl,rfl,rfl⟩:=hv;obtain⟨i,d,hi,_,_,_,bo,_⟩:=XJ hT;obtain⟨A,hw,hm,U,H',hx,S⟩:=H.allocCells (XQ z).cellsOf z.cells t (JA z);refine J2.ofValue ⟨.pointer (some ⟨R.w.heap.size,0,none⟩),A,?_,H',hx,S,?_⟩
  ·rw[hw];simp[Instr.alloc,zeroValue,Xx hi,<-bo,hz,newVar,newRow]
  have:=VR.ptr (R:=A) h.length 0 (by rw[hm,H.len];omega);rw[H.len,U]at this;rw[H.len];exact this
 |box t x=>
  simp only[evE]at hv;split at hv;case isFalse=>cases hv
  rename_i Z;simp only[aD,aK]at hv;obtain⟨rfl,rfl,rfl⟩:=hv;have hr:=Jp (Y x (by simp[bD])) (λg y e=>by rw[e]at Z;cases Z) (λe=>by rw[e]at Z;cases Z);obtain⟨A,hw,hm,U,H',hx,S⟩:=H.allocCells (E x).cellsOf (ρ x).cells t hr;refine J2.ofValue ⟨.pointer (some ⟨R.w.heap.size,0,none⟩),A,?_,H',hx,S,?_⟩
  ·rw[hw];simp[Instr.box,newVar,newRow]
  have:=VR.ptr (R:=A) h.length 0 (by rw[hm,H.len];omega);rw[H.len,U]at this;rw[H.len];exact this
 |store t a x=>
  have V:=Y a (by simp[bD]);have aj:=Y x (by simp[bD]);simp only[evE]at hv;split at hv;case h_5=>cases hv
  case h_2=>
   rename_i id s e ai T ac hT;rw[ac]at V;obtain⟨rfl,h1⟩:=ZkT hT H V aj hv hc;exact J2.ofUnit h1
  case h_3=>
   rename_i id s n e ai T ac hT;rw[ac]at V;obtain⟨rfl,h1⟩:=Zkt hT H V aj hv hc;exact J2.ofUnit h1
  case h_4=>
   rename_i id s e k ai T ac hT;rw[ac]at V;obtain⟨rfl,h1⟩:=Zkz hT H V aj hv hc;exact J2.ofUnit h1
  rename_i id ai T ac hT;split at hv;case h_2=>cases hv
  rename_i cs bk;split at hv;case isFalse=>cases hv
  rename_i au;simp only[aS]at au;obtain⟨⟨⟨Z,ah⟩,ao⟩,aq⟩:=au;have ah:=ZF ah;have ao:=Xc ao;simp only[aD,aK]at hv;obtain⟨rfl,rfl,rfl⟩:=hv;rw[ac]at V;have bl:ρ a= .pointer (some ⟨(R.α id).b,(R.α id).o+ai,none⟩):=by
   generalize ρ a=u at V;cases V with
   |pure _ _ hp=>cases hp
   |ptr _ _ _=>rfl
  have hr:=Jp aj (λg y e=>by rw[e]at Z;cases Z) (λe=>by rw[e]at Z;cases Z);obtain⟨i,d,hi,_,bg,_,_,_⟩:=XJ hT;obtain⟨A,ba,hm,U,H',hx,S⟩:=H.store (P:=P) (Jq bk) (E x).cellsOf (ρ x).cells.toList (by rw[hr.1];simp) (by rw[ah];exact ao) (λa V=>by rw[bM]at aq;exact aq a V) (λj c hj=>by simpa using hr.2 j c hj);refine J2.ofUnit ⟨A,?_,H',hx,S⟩;rw[bl];simp only[ek,cN,aQ,bC,aH,storeVar,Z6 hi];rw[iP (by rw[<-hr.1,ah,bg];simp)];exact ba
 |makeSlice t n c=>
  have hn:=Y n (by simp[bD]);have ap:=Y c (by simp[bD]);simp only[evE]at hv;split at hv;case h_2=>cases hv
  rename_i T hT;cases gr with
  |true=>exact J2.ofValue (ZlO hT (λe s b hk=>by rw[hk]) H hn ap hv hc)
  |false=>exact J2.ofValue (Zi9 hT (λe s b hk=>by rw[hk]) H hn ap hv hc)
 |buildSlice t n ps=>
  simp only[evE,aG,aK]at hv;obtain⟨v',bc,rfl,rfl,rfl⟩:=hv;obtain⟨u,A,h1,h2⟩:=Zhb H (ρ:=ρ) (λp hp=>Y p.2 (by simp only[bD];rw[<-Array.mem_toList_iff];exact bE.2 ⟨p,hp,rfl⟩)) bc;exact J2.ofValue ⟨u,A,h1,h2⟩
 |makeMap t r=>
  cases r with
  |some r=>simp[evE]at hv
  |none=>
   simp only[evE]at hv;split at hv;case h_2=>cases hv
   rename_i b hb;simp only[aD,aK]at hv;obtain⟨rfl,rfl,rfl⟩:=hv;have ar:b= .mapB (λ_ _=>false)\/(∃ka n,b= .gob (.mapL ka n λ_=>[]))\/∃ka kb n,b= .gob (.mapM ka kb n λ_=>[]):=by
    unfold Za0 at hb;split at hb;case h_2=>cases hb
    split at hb
    ·cases hb;exact .inl rfl
    ·split at hb
     ·split at hb
      ·cases hb;exact .inr (.inr ⟨_,_,_,rfl⟩)
      cases hb
     cases hb
    split at hb
    ·cases hb;exact .inr (.inl ⟨_,_,rfl⟩)
    cases hb
   have be:∀A:RC,ZE A R.m b (A.α R.m).b/\(∀x,ZE A R.m b x->x=(A.α R.m).b)/\∀x o n,Qo A R.m b x o n↔¬ZE A R.m b x:=λA=>by
    rcases ar with rfl|⟨ka,n,rfl⟩|⟨ka,kb,n,rfl⟩<;>exact⟨rfl,λb hp=>hp.symm,λb o n=>Iff.rfl⟩
   obtain⟨A,hw,hm,U,H',hx,S⟩:=H.alloc b (.map #[] 0) be (λA S U hh=>by
    rcases ar with rfl|⟨ka,n,rfl⟩|⟨ka,kb,n,rfl⟩
    ·exact⟨#[],0,by rw[U];exact hh,λe he=>by simp at he,λx=>.inl ⟨λe he=>by simp at he,rfl⟩⟩
    ·exact⟨_,by rw[U];exact hh,rfl, #[],0,rfl,.nil⟩
    exact⟨_,by rw[U];exact hh,rfl, #[],0,rfl,.nil⟩)
   refine J2.ofValue ⟨.map (some R.w.heap.size),A,?_,H',hx,S,?_⟩
   ·rw[hw];simp[Instr.makeMap]
   have:=VR.map (R:=A) h.length (by rw[hm,H.len];omega);rw[H.len,U]at this;rw[H.len];exact this
 |mapUpdate t m k x=>
  simp only[evE]at hv;obtain⟨rfl,hd⟩:=Zhy H (Y m (by simp[bD])) (Y k (by simp[bD])) (Y x (by simp[bD])) hv;exact J2.ofUnit hd
 |range t x=>
  simp only[evE]at hv;split at hv;case h_2=>cases hv
  rename_i ka n L kt et bm hu;simp only[aD,aK]at hv;obtain⟨rfl,rfl,rfl⟩:=hv;have hx:=Y x (by simp[bD]);rw[bm]at hx;have am:∀o:Obj,(∀A:RC,R.le A->ZjE A R.w.heap.size o (.mapIt ka n L (λ_=>[]) λ_=>([],[])))->Zs7 o=true->(∀it,it=o->(Instr.range t (ρ x)).run P R.w= .ok (.pointer (some ⟨R.w.heap.size,0,none⟩)) {R.w with heap:=R.w.heap.push it})->J2 R G h (.mit h.length) (h++[.gob (.mapIt ka n L (λ_=>[]) λ_=>([],[]))]) ((do let z<-Instr.range t (ρ x);pure (Next.value z):Sem Next).run P R.w):=by
   intro o ho hk aw;obtain⟨A,hw,hm,U,H',az,S⟩:=H.alloc (.gob (.mapIt ka n L (λ_=>[]) λ_=>([],[]))) o (λA=>⟨rfl,λb hp=>hp.symm,λb o n=>Iff.rfl⟩) (λA S U hh=>⟨o,by rw[U];exact hh,hk,by rw[U];exact ho A S⟩);refine J2.ofValue ⟨.pointer (some ⟨R.w.heap.size,0,none⟩),A,?_,H',az,S,?_⟩
   ·rw[hw];exact aw o rfl
   have:=VR.mit (R:=A) h.length (by rw[hm,H.len];omega) (by rw[H.len,U]);rw[H.len,U]at this;rw[H.len];exact this
  show J2 R G h _ _ ((do let z<-Instr.range t (ρ x);pure (Next.value z):Sem Next).run P R.w);generalize ρ x=u at hx am|-;cases hx with
  |pure _ _ hp=>
   cases hp with
   |imap _ _ _ b es ae h1 h2 h3=>
    obtain⟨l,hl⟩:=h2;refine am (.mapIter (some b) ae #[] ae) (λA S=>.inr ⟨b,es,ae, #[],l,rfl,S.keepM b h3 es ae h1,S.ok _ _ _ h3,hl,λp hp=>by simp,λa9=>absurd rfl a9⟩) rfl λit al=>?_;have bh:(getObj b).run P R.w= .ok (.map es ae) R.w:=by simp[getObj,Sem.run,h1]
    subst al;simp[Instr.range,Zy hu,bh]
   |imap0 _ _ _ h0=>
    refine am (.mapIter none 0 #[] 0) (λA S=>.inl ⟨h0,rfl, #[],rfl⟩) rfl λit al=>?_;subst al;simp[Instr.range,Zy hu]
 |lookup t m k ok=>simp[evE]at hv
 |call cl=>
  obtain⟨ak,ab,I⟩:=cl;cases ak with
  |builtin b=>
   cases b with
   |append=>
    simp only[evE]at hv;split at hv;case h_2=>cases hv
    rename_i x y t t' V ht;have aa:ab= #[x,y]:=by
     obtain⟨l⟩:=ab;simp only at V;rw[V]
    subst aa;have h0:I[0]? =some t:=by rw[<-bN,ht];rfl
    have h1:I[1]? =some t':=by rw[<-bN,ht];rfl
    have e:(#[x,y]:Array Operand).map ρ= #[ρ x,ρ y]:=by simp
    refine J2.ofValue (s:=Builtin.append_ I ty ((#[x,y]:Array Operand).map ρ)) ?_;rw[e];exact Zmr H (ty:=ty) (Y x (by simp[bD,Call.operands])) (Y y (by simp[bD,Call.operands])) h0 h1 hv hc
   |copy=>
    simp only[evE]at hv;split at hv;case h_2=>cases hv
    rename_i x y t r V ht;have aa:ab= #[x,y]:=by
     obtain⟨l⟩:=ab;simp only at V;rw[V]
    subst aa;have h0:I[0]? =some t:=by rw[<-bN,ht];rfl
    split at hv;case h_2=>cases hv
    rename_i el hu;split at hv;case h_2=>cases hv
    rename_i J hJ;obtain⟨j,d,hj,_,hs,_,_,_⟩:=XJ hJ;rw[hs]at hv;have e:(#[x,y]:Array Operand).map ρ= #[ρ x,ρ y]:=by simp
    refine J2.ofValue (s:=Builtin.copy_ I ty ((#[x,y]:Array Operand).map ρ)) ?_;rw[e];exact Zth h0 hu hj H (Y x (by simp[bD,Call.operands])) (Y y (by simp[bD,Call.operands])) hv
   |clear=>
    simp only[evE]at hv;split at hv;case h_2=>cases hv
    rename_i x t r V ht;have aa:ab= #[x]:=by
     obtain⟨l⟩:=ab;simp only at V;rw[V]
    subst aa;have h0:I[0]? =some t:=by rw[<-bN,ht];rfl
    split at hv;case h_2=>cases hv
    rename_i el hu;split at hv;case h_2=>cases hv
    rename_i J hJ;obtain⟨j,d,hj,_,hs,_,hz,_⟩:=XJ hJ;rw[hs,hz]at hv;have e:(#[x]:Array Operand).map ρ= #[ρ x]:=by simp
    refine J2.ofValue (s:=Builtin.clear_ I ty ((#[x]:Array Operand).map ρ)) ?_;rw[e];obtain⟨rfl,u',A,h1,h2,h3,h4⟩:=Zrd h0 hu hj rfl H (ty:=ty) (Y x (by simp[bD,Call.operands])) hv hc;exact⟨u',A,h1,h2,h3,h4,.undef _⟩
   |_=>simp[evE]at hv
  |_=>simp[evE]at hv
 |_=>simp[evE]at hv
end
end Vm
end Go.Proofs.YtjgpiclllehgmaaGreat
