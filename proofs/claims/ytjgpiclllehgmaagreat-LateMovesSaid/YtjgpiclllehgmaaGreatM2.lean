/- Lemmas. -/
import Derived.Laws.CopyRow
import Derived.Laws.AppendOwn
import Derived.Test.YtjgpiclllehgmaaGreatM1
set_option linter.all false
open Array renaming append_assoc->dE,foldl_toList->fI,getD_eq_getD_getElem?->aJ,getElem?_append_left->dG,getElem?_append_right->dZ,getElem?_eq_none->eI,getElem?_eq_some_iff->aM,getElem?_map->cB,getElem?_modify->cW,getElem?_push->bK,getElem?_setIfInBounds->bT,getElem?_setIfInBounds_ne->aF,getElem?_toList->bN,length_toList->cX,range->fq,size_append->eW,size_setIfInBounds->fe,toList_push->io
open Bool renaming and_eq_true->aU,false_eq_true->aY,false_or->bZ,not_false->eE,or_false->eC
open Go.Instr renaming findKey->dO,storeAt->ez,sureAddr->cR
open Int renaming eq_ofNat_of_zero_le->bU,le_refl->bS,mul_le_mul->gY,toNat_natCast->aV
open List renaming all_eq_true->bL,append_assoc->dW,eq_nil_of_length_eq_zero->cT,ext_getElem?->eB,foldl_cons->dR,getD_eq_getElem?_getD->aA,getElem?_append_left->bO,getElem?_append_right->dF,getElem?_cons_succ->cN,getElem?_cons_zero->bJ,getElem?_drop->dC,getElem?_eq_getElem->aD,getElem?_eq_none->cE,getElem?_eq_some_iff->aE,getElem?_map->aQ,getElem?_range->cQ,getElem?_set->bR,getElem?_take->cO,getElem?_toArray->eo,getElem_of_mem->ei,length_append->bA,length_cons->bF,length_drop->dL,length_map->aX,length_set->bP,length_take->bW,map_append->cY,map_cons->bY,map_set->ik,mem_append->cP,mem_cons_of_mem->aS,mem_cons_self->aW,mem_iff_getElem?->en,mem_map->bC,mem_of_getElem?->bf,mem_range->bV,mem_singleton->aN,nodup_append->fP,nodup_cons->ek,range->aP,size_toArray->dX,zipIdx_cons->gL
open List.cons renaming injEq->cC
open Nat renaming add_assoc->dH,add_mul->dI,add_zero->dS,div_add_mod'->ff,div_lt_iff_lt_mul->dM,eq_zero_or_pos->cK,le_of_not_lt->fC,le_refl->aI,le_succ->eK,le_trans->cD,lt_irrefl->dJ,lt_or_gt_of_ne->eO,min->g8,min_le_left->iE,mod_eq_of_lt->eF,mod_lt->eJ,mul_add_mod->eP,mul_comm->eg,mul_le_mul_right->aL,pos_of_ne_zero->ep,sub_mul->gp,sub_self->fb,sub_sub->iR,succ_mul->bI,zero_add->dD,zero_le->aT,zero_mul->eA
open Go.Op renaming operands->bE
open Option renaming bind_eq_some_iff->ey,getD_some->cA,isSome_iff_exists->dY,map_eq_some_iff->aG,map_some->cL
open Option.some renaming injEq->aC
open Prod.mk renaming injEq->aK
open Go.Result renaming andThen_ok->aH
open Go.Sem renaming run_bind->aR,run_pure->bD
open Go.World renaming cell?->bX
namespace Go.Proofs.YtjgpiclllehgmaaGreat
namespace Vm
open Go
def ZlE (cx:Option Nat) (G:Nat->Nat->Nat->Prop) (n0:Nat) (w:World) (m:Nat) (α:Nat->Loc) (hw:Nat->Int) (hv:Nat->Value) (h:List Zh):RC:=
 {w,m,n0,α,hw,hv,cx,ok:=λb o n=>b<w.heap.size/\G b o n/\Zdh {w,m,n0,α,hw,hv,ok:=λ_ _ _=>False} h b o n}
section
variable {P:Program} {R:RC} {G:Nat->Nat->Nat->Prop} {h:List Zh}
theorem J4.lt {Q:AV->Value->Prop} {w:World} {s:Nat} {n:Unit->Int} {f:(Unit->Int)->List AV} {v:Value} {b:Nat} (I:J4 Q w s n f v) (H:Zeh v b):b<w.heap.size:=by
 obtain⟨a,n,c,A,U,J⟩:=H;rcases I with⟨_,Z,G⟩|⟨Y,o,len,V,arr,ty,_,_,G,S,_⟩
 ·rw[G]at A;cases A;omega
 rw[G]at A;cases A;exact J▸(aM.1 S).1
theorem J4.heap {Q:AV->Value->Prop} {w:World} {s:Nat} {n:Unit->Int} {f:(Unit->Int)->List AV} {v:Value} {b:Nat} (I:J4 Q w s n f v) (H:Zeh v b):∃arr ty,w.heap[b]? =some (.cells arr ty (0,0)):=by
 obtain⟨a,n,c,A,U,J⟩:=H;rcases I with⟨_,Z,G⟩|⟨Y,o,len,V,arr,ty,_,_,G,S,_⟩
 ·rw[G]at A;cases A;omega
 rw[G]at A;cases A;exact⟨arr,ty,J▸S⟩
theorem J4.mono {Q Q':AV->Value->Prop} {w w':World} {s:Nat} {n:Unit->Int} {f:(Unit->Int)->List AV} {v:Value} (Y:J4 Q w s n f v) (U:∀c u,Q c u->Q' c u) (hh:∀b,Zeh v b->w'.heap[b]? =w.heap[b]?):J4 Q' w' s n f v:=by
 rcases Y with G|⟨b,o,len,A,arr,ty,G,Z,I,h4,h5,J⟩
 ·exact .inl G
 rcases cK A with H|H
 ·exact .inl ⟨by omega,some ⟨b,o,none⟩,by rw[I,H,show len=0 by omega]⟩
 exact .inr ⟨b,o,len,A,arr,ty,G,Z,I,by rw[hh b ⟨_,_,_,I,H,rfl⟩];exact h4,h5,λi S=>⟨(J i S).1,λj c V=>U _ _ ((J i S).2 j c V)⟩⟩
theorem J4.isl {w:World} {ok:Nat->Nat->Nat->Prop} {s:Nat} {n:Unit->Int} {f:(Unit->Int)->List AV} {v:Value} (ha:J4 (PR w ok) w s n f v) (Y:∀b,Zeh v b->∀o n,ok b o n):PR w ok (.isl s n f .none) v:=by
 rcases ha with⟨J,U,I⟩|⟨b,o,len,H,arr,ty,J,I,Z,h4,h5,S⟩
 ·rw[I];cases U with
  |none=>exact .isl0 _ _ _ _ J rfl
  |some U=>exact .islE _ _ _ _ U J (.inl rfl)
 rw[Z];rcases cK H with G|G
 ·rw[G,show len=0 by omega];exact .islE _ _ _ _ ⟨b,o,none⟩ (by omega) (.inl rfl)
 have aa:len*s<=H*s:=aL _ I;refine .isl _ _ _ _ b o len H (λk j=>arr.getD (o+k*s+j) undef) J I (.inl rfl) (λh=>by cases h) (λk A=>(S k A).1) (λk j c A V=>?_) (λk j c A V=>(S k A).2 j c V) (Y b ⟨_,_,_,Z,G,rfl⟩ _ _);have ab:j<s:=by rw[<-(S k A).1];exact(aE.1 V).1
 have:(k+1)*s<=len*s:=aL _ A;rw[bI]at this;exact Z1 h4 (by omega)
theorem J4.len {Q:AV->Value->Prop} {w:World} {s:Nat} {n:Unit->Int} {f:(Unit->Int)->List AV} {a:Option Addr} {l c:Nat} (H:J4 Q w s n f (.slice a l c)):n ()=(l:Int)/\l<=c:=by
 rcases H with⟨G,U,A⟩|⟨b,o,len,J,arr,ty,G,A,I,V,Y,S⟩
 ·cases A;exact⟨G,aI _⟩
 cases I;exact⟨G,A⟩
theorem J4.cong {Q Q':AV->Value->Prop} {w:World} {s:Nat} {n J:Unit->Int} {f I:(Unit->Int)->List AV} {v:Value} (ha:J4 Q w s n f v) (V:J ()=n ()) (hl:∀i:Nat,(i:Int)<n ()->(I λ_=>(i:Int)).length=(f λ_=>(i:Int)).length)
  (hf:∀i:Nat,(i:Int)<n ()->∀(j:Nat) c,(I λ_=>(i:Int))[j]? =some c->∃A,(f λ_=>(i:Int))[j]? =some A/\∀u,Q A u->Q' c u):J4 Q' w s J I v:=by
 rcases ha with⟨H,G⟩|⟨b,o,len,S,arr,ty,H,G,h3,Z,h5,Y⟩
 ·exact .inl ⟨V.trans H,G⟩
 refine .inr ⟨b,o,len,S,arr,ty,V.trans H,G,h3,Z,h5,λi U=>⟨(hl i (by omega)).trans (Y i U).1,λj c hj=>?_⟩⟩;obtain⟨A,e1,e2⟩:=hf i (by omega) j c hj;exact e2 _ ((Y i U).2 j A e1)
theorem HR.phys_lt (H:HR G R h) {id:Nat} {blk:Zh} {b:Nat} (hi:h[id]? =some blk) (I:ZC R id blk b):b<R.w.heap.size:=by
 have J:=H.blk id blk hi;have lt:∀ {o:Obj} {b:Nat},R.w.heap[b]? =some o->b<R.w.heap.size:=λh=>(aM.1 h).1;cases blk with
 |cells cs=>obtain⟨arr,ty,A,_⟩:=J;exact I▸lt A
 |arr s n f=>obtain⟨arr,ty,_,A,_⟩:=J;exact I▸lt A
 |mapB m=>obtain⟨es,c,A,_⟩:=J;exact I▸lt A
 |gob g=>obtain⟨o,A,_⟩:=J;exact I▸lt A
 |loop s d=>obtain⟨l,A,_⟩:=J;exact I▸lt A
 |dead=>exact I.elim
 |main=>exact I.elim
 |fro s n f=>exact I.elim
 |gar s n f=>
  obtain⟨a,n,c,A,V,Z⟩:=I;obtain⟨_,⟨_,a3,S⟩|⟨b',o,len,aa,arr,ty,_,_,S,U,_⟩⟩:=J
  ·rw[S]at A;cases A;omega
  rw[S]at A;cases A;exact Z▸lt U
 |vgar s n f=>
  obtain⟨_,J⟩:=J;exact J.lt I
 |fam z s n m g=>
  obtain⟨us,hv,i,v,hu,I⟩:=I;obtain⟨_,_,ab,Y,_,ha,_⟩:=J;rw[hv]at Y;cases Y;exact(ha i v hu).lt I
 |tok s hw=>
  obtain⟨a,n,c,A,V,Z⟩:=I;obtain⟨_,⟨_,a3,S⟩|⟨b',o,len,aa,_,_,S,U⟩⟩:=J
  ·rw[S]at A;cases A;omega
  rw[S]at A;cases A;obtain⟨arr,ty,U,_⟩:=U V;exact Z▸lt U
theorem HR.tok_cells (H:HR G R h) {id:Nat} {blk:Zh} {b:Nat} (hi:h[id]? =some blk) (hk:ZaJ blk=true) (J:ZC R id blk b):∃arr ty,R.w.heap[b]? =some (.cells arr ty (0,0)):=by
 have U:=H.blk id blk hi;cases blk with
 |gar s n f=>
  obtain⟨a,n,c,A,V,Z⟩:=J;obtain⟨_,⟨_,a3,I⟩|⟨b',o,len,aa,arr,ty,_,_,I,S,_⟩⟩:=U
  ·rw[I]at A;cases A;omega
  rw[I]at A;cases A;exact⟨arr,ty,Z▸S⟩
 |vgar s n f=>exact U.2.heap J
 |fam z s n m g=>
  obtain⟨us,hv,i,v,hu,J⟩:=J;obtain⟨_,_,ab,Y,_,ha,_⟩:=U;rw[hv]at Y;cases Y;exact(ha i v hu).heap J
 |tok s hw=>
  obtain⟨a,n,c,A,V,Z⟩:=J;obtain⟨_,⟨_,a3,I⟩|⟨b',o,len,aa,_,_,I,S⟩⟩:=U
  ·rw[I]at A;cases A;omega
  rw[I]at A;cases A;obtain⟨arr,ty,S,_⟩:=S V;exact⟨arr,ty,Z▸S⟩
 |_=>cases hk
theorem BR.monoZ {R':RC} {id:Nat} {blk:Zh} (J:BR R id blk) (hr:R.le R') (ab:∀z s N m g,blk= .fam z s N m g->R'.n0<=z) (G:R'.α id=R.α id) (Y:R'.hw id=R.hw id) (V:R'.hv id=R.hv id)
  (U:∀b,ZC R id blk b->R'.w.heap[b]? =R.w.heap[b]?):BR R' id blk:=by
 cases blk with
 |cells cs=>
  obtain⟨arr,ty,A,I,H⟩:=J;exact⟨arr,ty,by rw[G,U _ rfl];exact A,by rw[G];exact I,λj c hj=>by rw[G];exact(H j c hj).mono hr⟩
 |arr s n f=>
  obtain⟨arr,ty,len,A,I,H,S⟩:=J;exact⟨arr,ty,len,by rw[G,U _ rfl];exact A,I,by rw[G];exact H,λi hi=>⟨(S i hi).1,λj c hj=>by rw[G];exact((S i hi).2 j c hj).mono hr.ok hr.keep hr.keepM⟩⟩
 |mapB m=>obtain⟨es,c,A,I⟩:=J;exact⟨es,c,by rw[G,U _ rfl];exact A,I⟩
 |gob g=>obtain⟨o,A,I,H⟩:=J;exact⟨o,by rw[G,U _ rfl];exact A,I,by rw[G];exact H.mono hr⟩
 |loop s d=>obtain⟨l,A,I,H,S,h5,h6,h7⟩:=J;exact⟨l,by rw[G,U _ rfl];exact A,I,H,S,h5,h6,h7.mono hr⟩
 |main=>exact hr.cx.trans J
 |dead=>trivial
 |fro s n f=>
  obtain⟨e,A⟩:=J;exact⟨Y.trans e,by rw[V];exact A.mono hr.ok hr.keep hr.keepM⟩
 |gar s n f=>
  obtain⟨e,A⟩:=J;refine⟨Y.trans e,?_⟩;rw[V];rcases A with A|⟨b,o,len,Z,arr,ty,A,I,H,S,h5,h6⟩
  ·exact .inl A
  rcases cK Z with h0|h0
  ·exact .inl ⟨by omega,some ⟨b,o,none⟩,by rw[H,h0,show len=0 by omega]⟩
  exact .inr ⟨b,o,len,Z,arr,ty,A,I,H,by rw[U b ⟨_,_,_,H,h0,rfl⟩];exact S,h5,λi hi=>⟨(h6 i hi).1,λj c hj=>((h6 i hi).2 j c hj).mono hr.ok hr.keep hr.keepM⟩⟩
 |vgar s n f=>
  obtain⟨e,A⟩:=J;exact⟨Y.trans e,by rw[V];exact A.mono (λ_ _ h=>h.mono hr) U⟩
 |fam z s n m g=>
  obtain⟨hz,e,us,hv,hn,ha,hd⟩:=J;exact⟨ab _ _ _ _ _ rfl,Y.trans e,us,V.trans hv,hn,λi v hu=>(ha i v hu).mono (λ_ _ h=>h.mono hr.ok hr.keep hr.keepM) λb hp=>U b ⟨us,hv,i,v,hu,hp⟩,hd⟩
 |tok s hw=>
  obtain⟨e,A⟩:=J;refine⟨Y.trans e,?_⟩;rw[V];rcases A with A|⟨b,o,len,Z,A,I,H,S⟩
  ·exact .inl A
  exact .inr ⟨b,o,len,Z,A,I,H,λaa=>by
   obtain⟨arr,ty,S,h5⟩:=S aa
   exact⟨arr,ty,by rw[U b ⟨_,_,_,H,aa,rfl⟩];exact S,h5⟩⟩
theorem BR.mono {R':RC} {id:Nat} {blk:Zh} (I:BR R id blk) (hr:R.le R') (G:R'.n0=R.n0) (H:R'.α id=R.α id) (J:R'.hw id=R.hw id) (A:R'.hv id=R.hv id)
  (S:∀b,ZC R id blk b->R'.w.heap[b]? =R.w.heap[b]?):BR R' id blk:=
 I.monoZ hr (λz s N m g e=>by subst e;rw[G];exact I.1) H J A S
theorem BR.tokNo {id s:Nat} {hw:Unit->Int} (H:BR R id (.tok s hw)):∀G,R.hv id≠ .tuple G:=λG e=>by
 obtain⟨_,⟨_,a,A⟩|⟨b,o,len,I,_,_,A,_⟩⟩:=H<;>rw[A]at e<;>cases e
theorem BR.garNo {id s:Nat} {n:Unit->Int} {f:(Unit->Int)->List AV} (H:BR R id (.gar s n f)):∀G,R.hv id≠ .tuple G:=λG e=>by
 obtain⟨_,⟨_,a,A⟩|⟨b,o,len,I,_,_,_,_,A,_⟩⟩:=H<;>rw[A]at e<;>cases e
theorem J4.no {Q:AV->Value->Prop} {w:World} {s:Nat} {n:Unit->Int} {f:(Unit->Int)->List AV} {v:Value} (H:J4 Q w s n f v):∀G,v≠ .tuple G:=λG e=>by
 rcases H with⟨_,a,A⟩|⟨b,o,len,I,_,_,_,_,A,_⟩<;>rw[A]at e<;>cases e
theorem ZC.congr {R R':RC} {id:Nat} {blk:Zh} {b:Nat} (A:R'.α id=R.α id) (G:R'.hv id=R.hv id):ZC R' id blk b↔ZC R id blk b:=by
 cases blk<;>simp only[ZC,A,G]
theorem Qj.congr {R R':RC} {id:Nat} {blk:Zh} {b o n:Nat} (A:R'.α id=R.α id) (G:R'.hv id=R.hv id):Qj R' id blk b o n↔Qj R id blk b o n:=by
 cases blk<;>simp only[Qj,ZC,A,G]
theorem RC.le.setN0 (R:RC) (n:Nat):R.le {R with n0:=n}:=⟨aI _,λ_ _=>rfl,λ_ _=>⟨bS _,λ_=>rfl⟩,λ_ _=>.refl _,λ_ _ _ h=>h,λ_ _ _ _ _ _=>rfl,λ_ _ _ _ h=>h,rfl⟩
theorem HR.setN0 (H:HR G R h) (n:Nat) (hn:n<=R.m) (hz:∀(id z s:Nat) (N:Unit->Int) (m:(Unit->Int)->Unit->Int) (g:(Unit->Int)->(Unit->Int)->List AV),h[id]? =some (Zh.fam z s N m g)->n<=z):HR G {R with n0:=n} h:=
 ⟨H.len,λb o l=>⟨λk=>let ⟨h1,h2,h3⟩:=(H.okd b o l).1 k;⟨h1,h2,λid x A=>(Qj.congr (R:=R) rfl rfl).2 (h3 id x A)⟩,λ⟨h1,h2,h3⟩=>(H.okd b o l).2 ⟨h1,h2,λid x A=>(Qj.congr (R:=R) (R':={R with n0:=n}) rfl rfl).1 (h3 id x A)⟩⟩,
  λid x A=>(H.blk id x A).monoZ (RC.le.setN0 R n) (λz s N m g e=>hz id z s N m g (by rw[A,e])) rfl rfl rfl λ_ _=>rfl,
  λi j V Z b S hi Y I J=>H.dis i j V Z b S hi Y ((ZC.congr (R:=R) (R':={R with n0:=n}) rfl rfl).1 I) ((ZC.congr (R:=R) (R':={R with n0:=n}) rfl rfl).1 J),H.cl,H.fresh,
  λid x b A U I=>H.tokG id x b A U ((ZC.congr (R:=R) (R':={R with n0:=n}) rfl rfl).1 I),hn⟩
theorem QB {α:Type} {l:List α} {x:α} {i:Nat} {y:α} (h:(l++[x])[i]? =some y):l[i]? =some y\/(i=l.length/\y=x):=by
 rw[List.getElem?_append]at h;split at h
 ·exact .inl h
 right;have A:i-l.length<1:=by
  have:=(aE.1 h).1;simpa using this
 have:i=l.length:=by omega
 subst this;simp at h;exact⟨rfl,h.symm⟩
theorem HR.alloc (H:HR G R h) (blk:Zh) (o:Obj) (hk:∀A,ZC A R.m blk (A.α R.m).b/\(∀b,ZC A R.m blk b->b=(A.α R.m).b)/\∀b o n,Qj A R.m blk b o n↔¬ZC A R.m blk b)
  (hb:∀A:RC,R.le A->(A.α R.m)=⟨R.w.heap.size,0⟩->A.w.heap[R.w.heap.size]? =some o->BR A R.m blk):
  ∃A,A.w={R.w with heap:=R.w.heap.push o}/\A.m=R.m+1/\A.α R.m=⟨R.w.heap.size,0⟩/\HR G A (h++[blk])/\Xj R h A (h++[blk])/\R.le A:=by
 let aa:Nat->Loc:=λi=>if i=R.m then⟨R.w.heap.size,0⟩else R.α i
 let A:=ZlE R.cx G R.n0 {R.w with heap:=R.w.heap.push o} (R.m+1) aa R.hw R.hv (h++[blk]);have S:∀i,i<R.m->A.α i=R.α i:=λi Z=>iN (by omega);have V:A.α R.m=⟨R.w.heap.size,0⟩:=iP rfl;have U:∀ {i x},h[i]? =some x->i<R.m:=λZ=>H.len▸(aE.1 Z).1;have Y:∀b,b<R.w.heap.size->A.w.heap[b]? =R.w.heap[b]? :=λb hb=>by
  show(R.w.heap.push o)[b]? =_;rw[bK,iN (by omega)]
 have ab:∀b i,b<R.w.heap.size->A.w.cell? ⟨b,i,none⟩=R.w.cell? ⟨b,i,none⟩:=λb i hb=>by
  simp only[bX,Y b hb]
 have ae:∀b o n,R.ok b o n->A.ok b o n:=λb o n k=>by
  obtain⟨h1,h2,h3⟩:=(H.okd _ _ _).1 k;refine⟨by show b<(R.w.heap.push _).size;rw[Array.size_push];omega,h2,λid x I=>?_⟩;rcases QB I with I|⟨rfl,rfl⟩
  ·exact(Qj.congr (S id (U I)) rfl).2 (h3 id x I)
  rw[H.len];refine((hk _).2.2 b o n).2 (λJ=>?_);have:=(hk _).2.1 b J;have e:(aa R.m).b=R.w.heap.size:=by simp[aa]
  have:b=(aa R.m).b:=this;omega
 have ac:R.le A:=⟨eK _,S,λid Z=>⟨bS _,λ_=>rfl⟩,λ_ _=>.refl _,ae,λb o n k j hj=>ab b _ ((H.okd _ _ _).1 k).1,λb k es am e=>(Y b ((H.okd _ _ _).1 k).1).trans e,rfl⟩;have ao:A.w.heap.size=R.w.heap.size+1:=by show(R.w.heap.push _).size=_;simp
 have ah:(h++[blk]).length=A.m:=by rw[bA,H.len];rfl
 refine⟨A,rfl,rfl,V,⟨ah,λb o n=>Iff.rfl,λid x I=>?_,λi j bi bj b ai Z hj J=>?_,H.cl,λb o n hb=>H.fresh b o n (by omega),λid x b Z aj J o n=>?_,Nat.le_succ_of_le H.n0m⟩,?_,ac⟩
 ·rcases QB I with I|⟨rfl,rfl⟩
  ·exact(H.blk id x I).mono ac rfl (S id (U I)) rfl rfl (λb J=>Y b (H.phys_lt I J))
  rw[H.len];exact hb A ac V (by show(R.w.heap.push _)[_]? =_;simp)
 ·have new:∀ {i x},(h++[blk])[i]? =some x->ZC A i x b->(b<R.w.heap.size/\h[i]? =some x/\ZC R i x b)\/(b=R.w.heap.size/\i=R.m):=λ{i x} Z J=>by
   rcases QB Z with I|⟨rfl,rfl⟩
   ·have:=(ZC.congr (S i (U I)) rfl).1 J;exact .inl ⟨H.phys_lt I this,I,this⟩
   rw[H.len]at J|-;have:=(hk _).2.1 b J;rw[V]at this;exact .inr ⟨this,rfl⟩
  intro ak;rcases new Z J with⟨a1,a2,a3⟩|⟨a1,a2⟩<;>rcases new hj ak with⟨b1,b2,b3⟩|⟨b1,b2⟩
  ·exact H.dis i j bi bj b ai a2 b2 a3 b3
  ·omega
  ·omega
  omega
 ·rcases QB Z with I|⟨rfl,rfl⟩
  ·exact H.tokG id x b I aj ((ZC.congr (S id (U I)) rfl).1 J) o n
  rw[H.len]at J;have:=(hk _).2.1 b J;rw[V]at this;exact H.fresh b o n (by rw[this];exact aI _)
 refine⟨rfl,rfl,rfl,rfl,by omega,eK _,S,ae,λb o n k j hj=>ab b _ ((H.okd _ _ _).1 k).1,λb hb _=>Y b hb,λid x b I J=>?_⟩;rcases QB I with I|⟨rfl,rfl⟩
 ·exact .inr ⟨id,x,I,(ZC.congr (S id (U I)) rfl).1 J,.inl rfl⟩
 rw[H.len]at J;have:=(hk _).2.1 b J;rw[V]at this;exact .inl (by rw[this];exact aI _)
def αk:Zh->Bool
 |.cells _|.arr .. |.mapB _|.loop .. |.gob _=>true
 |_=>false
theorem ZfN {blk:Zh} (h:αk blk=true) (R:RC) (id b:Nat):ZC R id blk b↔(R.α id).b=b:=by
 cases blk<;>first|exact Iff.rfl|cases h
theorem ZjL {blk:Zh} (h:αk blk=true) (R:RC) (id b o n:Nat):Qj R id blk b o n↔¬(R.α id).b=b:=by
 cases blk<;>first|exact Iff.rfl|cases h
theorem HR.upd (H:HR G R h) {id:Nat} {blk blk':Zh} (hi:h[id]? =some blk) (hk:αk blk=true) (Y:αk blk'=true) (w':World)
  (ar:w'.os=R.w.os) (ao:w'.tape=R.w.tape) (aj:w'.output=R.w.output) (aw:w'.heap.size=R.w.heap.size) (hh:∀b,b≠(R.α id).b->w'.heap[b]? =R.w.heap[b]?)
  (hb:∀I:RC,R.le I->I.α=R.α->I.w=w'->BR I id blk'):
  ∃I,I.w=w'/\I.m=R.m/\I.α=R.α/\HR G I (h.set id blk')/\Xj R h I (h.set id blk')/\R.le I:=by
 let I:=ZlE R.cx G R.n0 w' R.m R.α R.hw R.hv (h.set id blk');have S:∀ {i x},(h.set id blk')[i]? =some x->(i=id/\x=blk')\/(i≠id/\h[i]? =some x):=λ{i x} A=>by
  rw[bR]at A;split at A
  ·rename_i e;subst e;split at A
   ·simp only[aC]at A;exact .inl ⟨rfl,A.symm⟩
   cases A
  rename_i e;exact .inr ⟨λh=>e h.symm,A⟩
 have V:∀b i,b≠(R.α id).b->I.w.cell? ⟨b,i,none⟩=R.w.cell? ⟨b,i,none⟩:=λb i hb=>by
  show w'.cell? _=_;simp only[bX,hh b hb]
 have U:∀b o n,R.ok b o n->b≠(R.α id).b:=λb o n k e=>by
  have:=((H.okd _ _ _).1 k).2.2 id blk hi;rw[ZjL hk]at this;exact this e.symm
 have ah:∀b o n,R.ok b o n->I.ok b o n:=λb o n k=>by
  obtain⟨h1,h2,h3⟩:=(H.okd _ _ _).1 k;refine⟨by show b<w'.heap.size;omega,h2,λi x A=>?_⟩;rcases S A with⟨rfl,rfl⟩|⟨_,A⟩
  ·exact(ZjL Y _ _ _ _ _).2 (λe=>U b o n k e.symm)
  exact(Qj.congr rfl rfl).2 (h3 i x A)
 have ac:R.le I:=⟨aI _,λ_ _=>rfl,λ_ _=>⟨bS _,λ_=>rfl⟩,λ_ _=>.refl _,ah,λb o n k j _=>V b _ (U b o n k),λb k es au e=>(hh b (U b 0 1 k)).trans e,rfl⟩;have aa:∀ {i x b},(h.set id blk')[i]? =some x->ZC I i x b->∃y,h[i]? =some y/\ZC R i y b:=λ{i x b} A J=>by
  rcases S A with⟨rfl,rfl⟩|⟨_,A⟩
  ·exact⟨blk,hi,(ZfN hk _ _ _).2 ((ZfN Y _ _ _).1 J)⟩
  exact⟨x,A,(ZC.congr rfl rfl).1 J⟩
 refine⟨I,rfl,rfl,rfl,⟨by rw[bP];exact H.len,λ_ _ _=>Iff.rfl,λi x A=>?_,λi j bi bj b ak ab am J Z=>?_,H.cl,λb o n aq=>H.fresh b o n (by have:w'.heap.size<=b:=aq;omega),λi y b ab ae J o n=>?_,H.n0m⟩,?_,ac⟩
 ·rcases S A with⟨rfl,rfl⟩|⟨ai,A⟩
  ·exact hb I ac rfl rfl
  refine(H.blk i x A).mono ac rfl rfl rfl rfl (λb J=>hh b (λe=>?_));exact H.dis i id x blk b ai A hi J ((ZfN hk _ _ _).2 e.symm)
 ·obtain⟨y,hy,J⟩:=aa ab J;obtain⟨z,hz,Z⟩:=aa am Z;exact H.dis i j y z b ak hy hz J Z
 ·rcases S ab with⟨rfl,rfl⟩|⟨_,A⟩
  ·exact absurd ae (by revert Y;cases y<;>simp[αk,ZaJ])
  exact H.tokG i y b A ae ((ZC.congr rfl rfl).1 J) o n
 refine⟨rfl,ar,ao,aj,by show _<=w'.heap.size;omega,aI _,λ_ _=>rfl,ah,λb o n k j _=>V b _ (U b o n k),λb _ hn=>hh b (λe=>hn id blk hi ((ZfN hk _ _ _).2 e.symm)),λi x b A J=>?_⟩;obtain⟨y,hy,J⟩:=aa A J;exact .inr ⟨i,y,hy,J,.inl rfl⟩
theorem HR.allocCells (H:HR G R h) (cs:List AV) (us:Array Value) (ty:TypeId) (hr:Yc R cs us):
  ∃A,A.w={R.w with heap:=R.w.heap.push (.cells us ty)}/\A.m=R.m+1/\A.α R.m=⟨R.w.heap.size,0⟩/\HR G A (h++[.cells cs])/\Xj R h A (h++[.cells cs])/\R.le A:=
 H.alloc (.cells cs) (.cells us ty) (λA=>⟨rfl,λb S=>S.symm,λb o n=>Iff.rfl⟩) (λA J I V=>by
  refine⟨us,ty,by rw[I];exact V,by rw[I,hr.1];simp,λj c U=>?_⟩;rw[I,dD]
  exact(hr.2 j c U).mono J)
def ZlZ:AV->Bool
 |.gd _ _|.ob _ _|.undef|.agg _|.tup _=>false
 |_=>true
theorem Zkr {a:AV} {u:Value} (G:ZlZ a=true) (h:VR R a u):u.oneCell'=true:=by
 cases h with
 |pure _ _ A=>cases A<;>rfl
 |own _ _ _ _ _ _ A _ _=>cases A<;>rfl
 |nn _ _ _ _ A _=>cases A<;>rfl
 |undef _=>cases G
 |agg _ _ _ _=>cases G
 |tup _ _ _ _=>cases G
 |gd _ _ _ _=>cases G
 |ob _ _ _ _ _=>cases G
 |_=>rfl
theorem XR (A:Array Value) (vs:List Value) (k j:Nat) (H:k+vs.length<=A.size):
  (A.toList.take k++vs++A.toList.drop (k+vs.length)).toArray.getD j undef=if k<=j/\j<k+vs.length then vs.getD (j-k) undef else A.getD j undef:=by
 rw[aJ,aJ];simp only[eo,aA];have G:(A.toList.take k).length=k:=by simp;omega
 by_cases h1:j<k
 ·rw[iN (by omega),dW,bO (by omega),cO,iP h1,bN]
 by_cases h2:j<k+vs.length
 ·rw[iP ⟨by omega,h2⟩,dW,dF (by omega),G,bO (by omega)]
 rw[iN (by omega),dF (by simp;omega)];simp only[bA,G,dC,bN];rw[show k+vs.length+(j-(k+vs.length))=j from by omega]
theorem Za3:∀(l z:List AV) (A j:Nat),A+l.length<=z.length->(putC z A l)[j]? =if A<=j/\j<A+l.length then l[j-A]? else z[j]?
 |[],z,A,j,_=>by simp[putC];omega
 |a::l,z,A,j,hl=>by
  simp only[putC];rw[Za3 l (z.set A a) (A+1) j (by simp at hl|-;omega)];simp only[bF]at hl|-;by_cases h1:A+1<=j/\j<A+1+l.length
  ·rw[iP h1,iP (by omega),show j-A=(j-(A+1))+1 from by omega,cN]
  rw[iN h1,bR];by_cases h2:A=j
  ·subst h2;rw[iP rfl,iP (by omega),iP (by omega)];simp
  rw[iN h2,iN (by omega)]
theorem HR.store (H:HR G R h) {id off:Nat} {cs:List AV} (hi:h[id]? =some (.cells cs)) (l:List AV) (vs:List Value) (ac:l.length=vs.length) (V:off+l.length<=cs.length)
  (ab:∀a∈l,ZlZ a=true) (hv:∀j c,l[j]? =some c->VR R c (vs.getD j undef)):
  ∃A,(storeCells ⟨(R.α id).b,(R.α id).o+off,none⟩ vs).run P R.w= .ok () A.w/\A.m=R.m/\A.α=R.α/\HR G A (h.set id (.cells (putC cs off l)))/\Xj R h A (h.set id (.cells (putC cs off l)))/\R.le A:=by
 obtain⟨arr,ty,h1,h2,h3⟩:=H.blk id _ hi;have Y:∀v∈vs,v.oneCell'=true:=λv aa=>by
  obtain⟨j,J,rfl⟩:=ei aa;have U:j<l.length:=by omega
  have:=hv j l[j] (aD U);rw[aA,aD J]at this;exact Zkr (ab _ (List.getElem_mem U)) this
 have Z:=run_storeCells_at P (R.α id).b ((R.α id).o+off) ty vs 0 arr R.w h1 (by omega) Y;obtain⟨A,hw,hm,I,H',hx,S⟩:=H.upd hi rfl (blk':=.cells (putC cs off l)) rfl
  (R.w.setRow (R.α id).b (arr.toList.take ((R.α id).o+off+0)++vs++arr.toList.drop ((R.α id).o+off+0+vs.length)).toArray) rfl rfl rfl (by simp[World.setRow]) (λb hb=>setRow_other R.w (R.α id).b b _ hb) (λA S I hw=>by
   refine⟨(arr.toList.take ((R.α id).o+off+0)++vs++arr.toList.drop ((R.α id).o+off+0+vs.length)).toArray,ty,?_,?_,λj c J=>?_⟩
   ·rw[hw,I];exact setRow_heap R.w _ arr _ ty _ h1
   ·rw[Ye,I];simp;omega
   rw[I,XR arr vs ((R.α id).o+off+0) _ (by omega)];rw[Za3 l cs off j V]at J;by_cases hc:off<=j/\j<off+l.length
   ·rw[iP hc]at J;rw[iP (by omega),show(R.α id).o+j-((R.α id).o+off+0)=j-off from by omega];exact(hv _ c J).mono S
   rw[iN hc]at J;rw[iN (by omega)]
   exact(h3 j c J).mono S)
 exact⟨A,by rw[Z,hw],hm,I,H',hx,S⟩
end
end Vm
namespace Vm
open Go
section
variable {P:Program} {R:RC} {G:Nat->Nat->Nat->Prop} {h:List Zh}
theorem HR.make (H:HR G R h) (o:Obj):∃A,A.w={R.w with heap:=R.w.heap.push o}/\A.m=R.m/\A.α=R.α/\A.hv=R.hv/\A.hw=R.hw/\HR G A h/\Xj R h A h/\R.le A/\∀o' n,A.ok R.w.heap.size o' n:=by
 let A:=ZlE R.cx G R.n0 {R.w with heap:=R.w.heap.push o} R.m R.α R.hw R.hv h;have J:∀b,b<R.w.heap.size->A.w.heap[b]? =R.w.heap[b]? :=λb U=>by
  show(R.w.heap.push o)[b]? =_;rw[bK,iN (by omega)]
 have V:∀b i,b<R.w.heap.size->A.w.cell? ⟨b,i,none⟩=R.w.cell? ⟨b,i,none⟩:=λb i U=>by
  simp only[bX,J b U]
 have ah:A.w.heap.size=R.w.heap.size+1:=by show(R.w.heap.push _).size=_;simp
 have Y:∀b o n,R.ok b o n->A.ok b o n:=λb o n k=>by
  obtain⟨h1,h2,h3⟩:=(H.okd _ _ _).1 k;exact⟨by show b<A.w.heap.size;omega,h2,λid x S=>(Qj.congr rfl rfl).2 (h3 id x S)⟩
 have Z:R.le A:=⟨aI _,λ_ _=>rfl,λ_ _=>⟨bS _,λ_=>rfl⟩,λ_ _=>.refl _,Y,λb o n k j hj=>V b _ ((H.okd _ _ _).1 k).1,λb k es ae e=>(J b ((H.okd _ _ _).1 k).1).trans e,rfl⟩
 refine⟨A,rfl,rfl,rfl,rfl,rfl,⟨H.len,λ_ _ _=>Iff.rfl,λid x S=>(H.blk id x S).mono Z rfl rfl rfl rfl (λb I=>J b (H.phys_lt S I)),λi j bi bj b aa hi hj I ab=>H.dis i j bi bj b aa hi hj ((ZC.congr rfl rfl).1 I) ((ZC.congr rfl rfl).1 ab),H.cl,
  λb o n U=>H.fresh b o n (by omega),λid x b hi hk I o n=>H.tokG id x b hi hk ((ZC.congr rfl rfl).1 I) o n,H.n0m⟩,
  ⟨rfl,rfl,rfl,rfl,by omega,aI _,λ_ _=>rfl,Y,λb o n k j hj=>V b _ ((H.okd _ _ _).1 k).1,λb U _=>J b U,λid x b S I=>.inr ⟨id,x,S,(ZC.congr rfl rfl).1 I,.inl rfl⟩⟩,Z,λo' n=>?_⟩
 refine⟨by show R.w.heap.size<A.w.heap.size;omega,H.fresh _ _ _ (aI _),λid x S=>?_⟩;have hn:∀ {b},ZC A id x b->b<R.w.heap.size:=λI=>H.phys_lt S ((ZC.congr rfl rfl).1 I);cases x with
 |tok s hw=>exact λa len ac hv hl U=>absurd (hn (show ZC A id (.tok s hw) R.w.heap.size from⟨a,len,ac,hv,hl,U⟩)) (dJ _)
 |_=>exact λI=>absurd (hn I) (dJ _)
theorem HR.room (H:HR G R h) (id m':Nat) (blk':Zh) (ac:Int) (aa:Value) (w':World) (h':List Zh)
  (bl:h'.length=m') (hm:R.m<=m') (aj:∀i x,h'[i]? =some x->(i=id/\x=blk')\/(i≠id/\h[i]? =some x))
  (ar:id<R.m->∃S,h[id]? =some S/\ZaJ S=true/\R.hw id<=ac/\(R.hw id=ac->aa=R.hv id)/\Zhr (R.hv id) aa)
  (PO:Nat->Prop) (am:∀b,PO b↔(id<R.m/\∃S,h[id]? =some S/\ZaJ S=true/\ZC R id S b))
  (ce:w'.os=R.w.os) (b9:w'.tape=R.w.tape) (bo:w'.output=R.w.output) (bh:R.w.heap.size<=w'.heap.size)
  (hh:∀b,b<R.w.heap.size->¬PO b->w'.heap[b]? =R.w.heap[b]?)
  (ao:∀b o n,R.ok b o n->∀j,j<n->w'.cell? ⟨b,o+j,none⟩=R.w.cell? ⟨b,o+j,none⟩)
  (bx:∀A:RC,R.le A->A.w=w'->A.hw id=ac->A.hv id=aa->
   (A.n0=R.n0/\∀b o n,b<w'.heap.size->G b o n->(R.w.heap.size<=b\/PO b)->Qj A id blk' b o n->A.ok b o n)->BR A id blk')
  (bu:∀A:RC,A.hv id=aa->A.w=w'->∀b,ZC A id blk' b->R.w.heap.size<=b\/PO b)
  (bp:∀A:RC,A.hv id=aa->∀b o n,R.ok b o n->Qj A id blk' b o n)
  (ci:αk blk'=false):
  ∃A,A.w=w'/\A.m=m'/\A.hv id=aa/\A.hw id=ac/\HR G A h'/\Xj R h A h'/\R.le A/\
   ∀b o n,b<w'.heap.size->G b o n->(R.w.heap.size<=b\/PO b)->Qj A id blk' b o n->A.ok b o n:=by
 let A:=ZlE R.cx G R.n0 w' m' R.α (λi=>if i=id then ac else R.hw i) (λi=>if i=id then aa else R.hv i) h';have ab:∀i,i≠id->A.hv i=R.hv i:=λi hi=>iN hi;have bc:∀i,i≠id->A.hw i=R.hw i:=λi hi=>iN hi;have ah:A.hv id=aa:=iP rfl;have aw:A.hw id=ac:=iP rfl;have cg:∀ {i x},h[i]? =some x->i<R.m:=λhi=>H.len▸(aE.1 hi).1;have bk:∀b o n,R.ok b o n->A.ok b o n:=λb o n k=>by
  obtain⟨Y,Z,h3⟩:=(H.okd _ _ _).1 k;refine⟨by show b<w'.heap.size;omega,Z,λi x I=>?_⟩;rcases aj i x I with⟨rfl,rfl⟩|⟨J,I⟩
  ·exact(Qj.congr (R:=A) rfl rfl).1 (bp A ah b o n k)
  exact(Qj.congr (R:=R) (R':=A) rfl (ab i J)).2 (h3 i x I)
 have az:R.le A:=⟨hm,λ_ _=>rfl,λi hi=>by
  by_cases e:i=id
  ·subst e;obtain⟨_,_,_,Y,Z,_⟩:=ar hi;rw[aw,ah];exact⟨Y,Z⟩
  ·rw[bc i e,ab i e];exact⟨bS _,λ_=>rfl⟩,λi hi=>by
  by_cases e:i=id
  ·subst e;obtain⟨_,_,_,_,_,Y⟩:=ar hi;rw[ah];exact Y
  ·rw[ab i e]
   exact .refl _,bk,ao,(λb k es cj e=>by
  rw[<-e];refine hh b ((H.okd _ _ _).1 k).1 λU=>?_;obtain⟨_,S,Y,Z,h3⟩:=(am b).1 U;obtain⟨arr,ty,h4⟩:=H.tok_cells Y Z h3;rw[h4]at e
  cases e),rfl⟩
 have ai:∀ {i x b},h'[i]? =some x->ZC A i x b->(i=id/\x=blk'/\(R.w.heap.size<=b\/PO b))\/(i≠id/\h[i]? =some x/\ZC R i x b):=λ{i x b} I U=>by
  rcases aj i x I with⟨rfl,rfl⟩|⟨J,I⟩
  ·exact .inl ⟨rfl,rfl,bu A ah rfl b U⟩
  exact .inr ⟨J,I,(ZC.congr (R:=R) (R':=A) rfl (ab i J)).1 U⟩
 have ak:∀ {i x b},i≠id->h[i]? =some x->ZC R i x b->(R.w.heap.size<=b\/PO b)->False:=λ{i x b} J I U V=>by
  rcases V with V|V
  ·have:=H.phys_lt I U;omega
  obtain⟨_,S,Y,_,Z⟩:=(am b).1 V;exact H.dis i id x _ b J I Y U Z
 have aq:∀b o n,b<w'.heap.size->G b o n->(R.w.heap.size<=b\/PO b)->Qj A id blk' b o n->A.ok b o n:=λb o n hb hg cf ha=>by
  refine⟨hb,hg,λi x I=>?_⟩;rcases aj i x I with⟨rfl,rfl⟩|⟨J,I⟩
  ·exact(Qj.congr (R:=A) rfl rfl).1 ha
  have a9:∀ {b'},ZC R i x b'->b'≠b:=λU e=>ak J I (e▸U) cf;cases x with
  |tok s1 ck=>
   intro a len bw hv hl ca;replace hv:A.hv i=_:=hv;rw[ab i J]at hv;exact absurd ca (a9 ⟨a,len,bw,hv,hl,rfl⟩)
  |_=>exact λU=>a9 ((ZC.congr (R:=R) (R':=A) rfl (ab i J)).1 U) rfl
 refine⟨A,rfl,rfl,ah,aw,⟨bl,λ_ _ _=>Iff.rfl,λi x I=>?_,λi j bi bj b bg hi hj U bt=>?_,H.cl,λb o n hb=>H.fresh b o n (cD bh hb),λi x b hi bq U o n=>?_,cD H.n0m hm⟩,?_,az,aq⟩
 ·rcases aj i x I with⟨rfl,rfl⟩|⟨J,I⟩
  ·exact bx A az rfl aw ah ⟨rfl,aq⟩
  refine(H.blk i x I).mono az rfl rfl (bc i J) (ab i J) (λb U=>hh b (H.phys_lt I U) (λV=>ak J I U (.inr V)))
 ·rcases ai hi U with⟨rfl,_,V⟩|⟨J,I,ae⟩<;>rcases ai hj bt with⟨rfl,_,bz⟩|⟨bm,ba,au⟩
  ·exact bg rfl
  ·exact ak bm ba au V
  ·exact ak J I ae bz
  exact H.dis i j bi bj b bg I ba ae au
 ·rcases ai hi U with⟨rfl,_,V|V⟩|⟨J,I,ae⟩
  ·exact H.fresh b o n V
  ·obtain⟨_,S,Y,Z,h3⟩:=(am b).1 V;exact H.tokG i S b Y Z h3 o n
  exact H.tokG i x b I bq ae o n
 refine⟨rfl,ce,b9,bo,bh,hm,λ_ _=>rfl,bk,ao,λb hb hn=>hh b hb (λV=>?_),λi x b I U=>?_⟩
 ·obtain⟨_,S,Y,_,Z⟩:=(am b).1 V;exact hn id _ Y Z
 rcases ai I U with⟨rfl,_,V|V⟩|⟨J,I,ae⟩
 ·exact .inl V
 ·obtain⟨_,S,Y,_,Z⟩:=(am b).1 V;exact .inr ⟨_,_,Y,Z,.inl rfl⟩
 exact .inr ⟨_,x,I,ae,.inl rfl⟩
theorem HR.token (H:HR G R h) (id m' s:Nat) (I:Unit->Int) (U:Value) (w':World) (h':List Zh)
  (ae:h'.length=m') (hm:R.m<=m') (ah:∀i x,h'[i]? =some x->(i=id/\x= .tok s I)\/(i≠id/\h[i]? =some x)) (a9:h'[id]? =some (.tok s I))
  (aa:id<R.m->∃s0 V,h[id]? =some (.tok s0 V)/\R.hw id<=I ()/\(R.hw id=I ()->U=R.hv id))
  (PO:Nat->Prop) (aq:∀b,PO b↔(id<R.m/\∃s0 V,h[id]? =some (.tok s0 V)/\ZC R id (.tok s0 V) b))
  (az:w'.os=R.w.os) (aw:w'.tape=R.w.tape) (aj:w'.output=R.w.output) (au:R.w.heap.size<=w'.heap.size)
  (hh:∀b,b<R.w.heap.size->¬PO b->w'.heap[b]? =R.w.heap[b]?)
  (ab:∀b o n,R.ok b o n->∀j,j<n->w'.cell? ⟨b,o+j,none⟩=R.w.cell? ⟨b,o+j,none⟩)
  (ar:(I ()=0/\∃a:Option Addr,U= .slice a 0 0)\/∃(b o len A:Nat),I ()=(len:Int)/\len<=A/\U= .slice (some ⟨b,o,none⟩) len A/\
    (len<A->∃(arr:Array Value) (ty:TypeId),w'.heap[b]? =some (.cells arr ty (0,0))/\o+A*s<=arr.size))
  (ao:∀a n c,U= .slice (some a) n c->n<c->R.w.heap.size<=a.block\/PO a.block)
  (ak:∀b o n,R.ok b o n->∀a len A,U= .slice (some a) len A->len<A->a.block=b->o+n<=a.off+len*s):
  ∃S,S.w=w'/\S.m=m'/\S.hv id=U/\S.hw id=I ()/\HR G S h'/\Xj R h S h'/\R.le S/\
   ∀b o n,b<w'.heap.size->G b o n->(R.w.heap.size<=b\/PO b)->(∀a len A,U= .slice (some a) len A->len<A->a.block=b->o+n<=a.off+len*s)->S.ok b o n:=by
 have ac:∀b,PO b↔(id<R.m/\∃Z,h[id]? =some Z/\ZaJ Z=true/\ZC R id Z b):=λb=>by
  rw[aq];constructor
  ·rintro⟨J,s0,V,Y,h3⟩;exact⟨J,_,Y,rfl,h3⟩
  rintro⟨J,Z,Y,h3,h4⟩;obtain⟨s0,V,h5,_⟩:=aa J;rw[h5]at Y;cases Y;exact⟨J,s0,V,h5,h4⟩
 obtain⟨S,a1,a2,a3,a4,a5,a6,a7,a8⟩:=H.room id m' (.tok s I) (I ()) U w' h' ae hm ah (λhi=>let ⟨s0,V,J,Y,h3⟩:=aa hi;⟨_,J,rfl,Y,h3,.of (H.blk id _ J).tokNo⟩) PO ac az aw aj au hh ab
  (λS _ hw ai am _=>⟨ai,by rw[am,hw];exact ar⟩) (λS hv hw b ⟨a,n,c,J,Y,h3⟩=>h3▸ao a n c (hv.symm.trans J) Y) (λS hv b o n hk a len A J=>ak b o n hk a len A (hv.symm.trans J)) rfl
 exact⟨S,a1,a2,a3,a4,a5,a6,a7,λb o n J Y h3 h4=>a8 b o n J Y h3 λa len A hv=>h4 a len A (a3.symm.trans hv)⟩
end
end Vm
namespace Vm
open Go
def purify:AV->AV
 |.isl s n f (.own _)=>.isl s n f .none
 |.isl s n f .nn=>.isl s n f .none
 |c=>c
def XT:AV->Bool
 |.bool _|.int _ _|.str _|.nilptr|.nilmap|.nilfn|.iptr _ _|.imap _ _ _|.cch _=>true
 |.isl _ _ _ (.own _)=>false
 |.isl _ _ _ .nn=>false
 |.isl _ _ _ _=>true
 |_=>false
def Z0 (n:Unit->Int) (f g:(Unit->Int)->List AV):(Unit->Int)->List AV:=λe=>if e ()<n ()then f e else g (λ_=>e ()-n ())
def ZaH (P:Program) (e:TypeId) (s:Nat):Bool:=match P.info? e with
 |some i=>(match i.zero with
  |some z=>ZI z.cells.size s&&ZI i.size s&&Qb i.bytes 1000000
  |none=>false)
 |none=>false
def ZbO (N:Unit->Int) (m:(Unit->Int)->Unit->Int) (A:Unit->Int):(Unit->Int)->Unit->Int:=λe _=>bif decide (e ()<N ())then m e ()else A ()
def Ja (N:Unit->Int) (g:(Unit->Int)->(Unit->Int)->List AV) (A:(Unit->Int)->List AV):(Unit->Int)->(Unit->Int)->List AV:=λe=>if e ()<N ()then g e else A
def Zjd:List AV->Option (Nat×Nat×(Unit->Int))
 |[]=>none
 |.gsl k n::_=>some (0,k,n)
 |_::r=>match Zjd r with
  |some (j,k,n)=>some (j+1,k,n)
  |none=>none
def Zbl (A:Bool) (q:Nat) (n:Unit->Int) (s:Nat) (cs:List AV) (h:List Zh):Option (AV×List Zh×Cd):=
 if A then(match h[q]?,h[q+1]?,Zjd cs with
  |some (.vgar s' n0 f),some (.fam z sf N m g),some (j,k,nk)=>(match h[k]? with
   |some (.gar sk n1 f1)=>if ZI s s'&&ZI sf sk&&Qb z k&&ZI cs.length s&&(cs.set j (.int .i64 λ_=>0)).all XT then
     some (.gsl q (λ_=>n0 ()+1),((h.set k .dead).set (q+1) (.fam z sf (λ_=>N ()+1) (ZbO N m n1) (Ja N g f1))).set q (.vgar s (λ_=>n0 ()+1) (Z0 n0 f λ_=>cs.set j (.nsub (q+1) n0 n1))),
      [dd λ_=>n ()=n0 ()/\N ()=n0 ()/\nk ()=n1 (),dd λ_=>n0 ()+1<=1000000])else none
   |_=>none)
  |_,_,_=>none)else none
def ZcY (A:Bool) (s:Nat) (n:Unit->Int) (f:(Unit->Int)->List AV) (id:Nat) (a l:Unit->Int) (h:List Zh):Option (AV×List Zh×Cd):=
 if A then(match h[id]? with
  |some (.fam _ sf _ m g)=>if ZI s sf then some (.gsl h.length (λ_=>n ()+l ()),h++[.gar s (λ_=>n ()+l ()) (Z0 n f (g a))],[dd λ_=>n ()=0/\l ()=m a (),dd λ_=>n ()+l ()<=1000000])else none
  |_=>none)else none
def Zeb (gr:Bool) (P:Program) (t G:TypeId) (dst A:AV) (h:List Zh):Option (AV×List Zh×Cd):=
 match P.underlying t,P.underlying G with
 |some (.slice e),some (.slice _)=>(match dst,A with
  |.isl s₁ n f tk,.isl sz m g _=>if ZaH P e sz then(match tk with
   |.nil=>some (.isl sz (λ_=>n ()+m ()) (Z0 n f g) (.own h.length),h++[.tok sz λ_=>n ()+m ()],[dd λ_=>n ()+m ()<=1000000])
   |.exact=>if ZI s₁ sz then(if gr then some (.gsl h.length (λ_=>n ()+m ()),h++[.gar sz (λ_=>n ()+m ()) (Z0 n f g)],[dd λ_=>n ()=0,dd λ_=>n ()+m ()<=1000000])else some (.isl sz (λ_=>n ()+m ()) (Z0 n f g) (.own h.length),h++[.tok sz λ_=>n ()+m ()],[dd λ_=>n ()+m ()<=1000000]))else none
   |.own id=>if ZI s₁ sz then(match h[id]? with
    |some (.tok s hw)=>if ZI s sz then some (.isl sz (λ_=>n ()+m ()) (Z0 n f g) (.own id),h.set id (.tok sz λ_=>n ()+m ()),[dd λ_=>n ()=hw (),dd λ_=>n ()+m ()<=1000000])else none
    |_=>none)else none
   |.none=>none
   |.nn=>none)else none
  |.gsl id n,.isl sz m g _=>if ZaH P e sz then(match h[id]? with
   |some (.gar s n0 f)=>if ZI s sz then some (.gsl id (λ_=>n0 ()+m ()),h.set id (.gar sz (λ_=>n0 ()+m ()) (Z0 n0 f g)),[dd λ_=>n ()=n0 (),dd λ_=>n0 ()+m ()<=1000000])else none
   |_=>none)else none
  |.gsl q n,.lit s cs=>Zbl (ZaH P e s) q n s cs h
  |.isl s n f .exact,.nsub id a l=>ZcY (gr&&ZaH P e s) s n f id a l h
  |_,_=>none)
 |_,_=>none
section
variable {P:Program} {R:RC} {G:Nat->Nat->Nat->Prop} {h:List Zh}
theorem VR.purify {c:AV} {u:Value} (hv:VR R c u) (H:XT (purify c)=true):PR R.w R.ok (purify c) u:=by
 cases hv with
 |pure _ _ h=>
  have:Vm.purify c=c:=by
   cases h with
   |isl0 _ _ _ tk _ A=>cases tk<;>first|rfl|cases A
   |islE _ _ _ tk _ _ A=>rcases A with rfl|rfl<;>rfl
   |isl _ _ _ tk _ _ _ _ _ _ _ A=>rcases A with rfl|rfl<;>rfl
   |_=>rfl
  rw[this];exact h
 |own s n f id v J G S I=>exact G
 |nn s n f v G _=>exact G
 |_=>cases H
theorem Zaa (w:World) (a:Addr) (s x y:Nat):(Builtin.firstCells s 0 (.slice (some a) x y)).run P w= .ok #[] w:=by
 have:=run_loadCells (P:=P) w a 0 (λ_=>undef) (λk A=>by omega);simpa [Builtin.firstCells]using this
theorem XI {s:Nat} {m:Unit->Int} {g:(Unit->Int)->List AV} {x:Value} (hx:PR R.w R.ok (.isl s m g .none) x):
  ∃(V:Option Addr) (n Y:Nat) (G:Nat->Nat->Value) (new:List Value),x= .slice V n Y/\m ()=(n:Int)/\n<=Y/\(V=none->Y=0)/\new.length=n*s/\
   (∀w:World,w.heap=R.w.heap->(Builtin.firstCells s n x).run P w= .ok new.toArray w)/\
   (∀i j,i<n->j<s->new[i*s+j]? =some (G i j))/\
   (∀i:Nat,i<n->(g (λ_=>(i:Int))).length=s)/\
   (∀i j c,i<n->(g (λ_=>(i:Int)))[j]? =some c->PR R.w R.ok c (G i j))/\
   (∀a,V=some a->0<n->∃b o,a=⟨b,o,none⟩/\R.ok b o (n*s)/\∀i j,i<n->j<s->R.w.cell? ⟨b,o+i*s+j,none⟩=some (G i j)):=by
 cases hx with
 |isl0 _ _ _ _ hz _=>
  exact⟨none,0,0,λ_ _=>undef,[],rfl,by omega,aI _,λ_=>rfl,by simp,λw _=>rfl,λi j A=>by omega,λi A=>by omega,λi j c A=>by omega,λa h=>by cases h⟩
 |islE _ _ _ _ a hz _=>
  exact⟨some a,0,0,λ_ _=>undef,[],rfl,by omega,aI _,(λh=>by cases h),by simp,(λw _=>Zaa w a s 0 0),λi j A=>by omega,λi A=>by omega,λi j c A=>by omega,λa _ h=>by omega⟩
 |isl _ _ _ _ b o len aa G hn hc ht he hl h1 h2 h3=>
  have H:∀i j,i<len->j<s->R.w.cell? ⟨b,o+i*s+j,none⟩=some (G i j):=λi j A S=>
   h1 i j _ A (aD (by rw[hl i A];exact S))
  have U:∀k,k<len*s->0<s/\k/s<len/\k%s<s/\k/s*s+k%s=k:=λk J=>by
   have I:0<s:=ep (λe=>by subst e;simp at J);exact⟨I,(dM I).2 J,eJ _ I,ff k s⟩
  refine⟨some ⟨b,o,none⟩,len,aa,G,(aP (len*s)).map λk=>G (k/s) (k%s),rfl,hn,hc,(λh=>by cases h),by simp,λw hw=>?_,λi j A S=>?_,hl,h2,λa h _=>?_⟩
  ·have:=run_loadCells (P:=P) w ⟨b,o,none⟩ (len*s) (λk=>G (k/s) (k%s)) (λk J=>by
    obtain⟨I,h4,h5,h6⟩:=U k J;rw[QL];have:=H (k/s) (k%s) h4 h5;rw[show o+k/s*s+k%s=o+k from by omega]at this;rw[<-this]
    simp only[bX,hw])
   simpa [Builtin.firstCells]using this
  ·have Z:i*s+j<len*s:=by
    have:(i+1)*s<=len*s:=aL s A;rw[bI]at this;omega
   have I:0<s:=by omega
   rw[aQ,cQ Z,cL];have e1:(i*s+j)/s=i:=by rw[eg,Nat.mul_add_div I,Nat.div_eq_of_lt S,dS]
   have e2:(i*s+j)%s=j:=by rw[eg,eP,eF S]
   rw[e1,e2]
  simp only[aC]at h;subst h;exact⟨b,o,rfl,h3,H⟩
def Src (P:Program) (R:RC) (s:Nat) (m:Unit->Int) (g:(Unit->Int)->List AV) (x:Value):Prop:=
 ∃(H:Option Addr) (n A:Nat) (G:Nat->Nat->Value) (new:List Value),x= .slice H n A/\m ()=(n:Int)/\n<=A/\(H=none->A=0)/\new.length=n*s/\
   (∀w:World,w.heap=R.w.heap->(Builtin.firstCells s n x).run P w= .ok new.toArray w)/\
   (∀i j,i<n->j<s->new[i*s+j]? =some (G i j))/\
   (∀i:Nat,i<n->(g (λ_=>(i:Int))).length=s)/\
   (∀i j c,i<n->(g (λ_=>(i:Int)))[j]? =some c->PR R.w R.ok c (G i j))
theorem Src.of {s:Nat} {m:Unit->Int} {g:(Unit->Int)->List AV} {x:Value} (hx:PR R.w R.ok (.isl s m g .none) x):Src P R s m g x:=by
 obtain⟨H,nn,xc,A,new,V,S,h3,U,Z,G,Y,J,I,_⟩:=XI (P:=P) hx;exact⟨H,nn,xc,A,new,V,S,h3,U,Z,G,Y,J,I⟩
theorem Src.arr {s:Nat} {m:Unit->Int} {g:(Unit->Int)->List AV} {x:Value} (hx:Zv0 R s m g x):Src P R s m g x:=by
 rcases hx with⟨Z,a,rfl⟩|⟨b,o,len,G,arr,ty,Y,S,rfl,V,h5,H⟩
 ·refine⟨a,0,0,λ_ _=>undef,[],rfl,Z,aI _,λ_=>rfl,by simp,λw _=>?_,λi j A=>by omega,λi A=>by omega,λi j c A=>by omega⟩;cases a with
  |none=>rfl
  |some a=>exact Zaa w a s 0 0
 have U:len*s<=G*s:=aL _ S
 refine⟨some ⟨b,o,none⟩,len,G,λi j=>arr.getD (o+(i*s+j)) undef,(aP (len*s)).map λk=>arr.getD (o+k) undef,rfl,Y,S,(λh=>by cases h),by simp,λw hw=>?_,λi j A J=>?_,λi A=>(H i A).1,λi j c A J=>by
  show PR R.w R.ok c (arr.getD (o+(i*s+j)) undef);rw[<-dH]
  exact(H i A).2 j c J⟩
 ·have:=run_loadCells (P:=P) w ⟨b,o,none⟩ (len*s) (λk=>arr.getD (o+k) undef) (λk hk=>by
   rw[QL];have:w.heap[b]? =some (.cells arr ty (0,0)):=by rw[hw];exact V
   exact Z1 this (by omega))
  simpa [Builtin.firstCells]using this
 have I:i*s+j<len*s:=by
  have:(i+1)*s<=len*s:=aL s A;rw[bI]at this;omega
 rw[aQ,cQ I,cL]
theorem YT {e:TypeId} {s:Nat} (h:ZaH P e s=true):∃i z,P.info? e=some i/\i.zero=some z/\z.cells.size=s/\i.size=s/\i.bytes<=1000000:=by
 unfold ZaH at h;split at h
 ·rename_i i A;split at h
  ·rename_i z G;simp only[aU]at h;exact⟨i,z,A,G,ZD h.1.1,ZD h.1.2,Q8 h.2⟩
  cases h
 cases h
theorem Zh9 (A:Nat):∀(k c:Nat),c<=2*A+1000->Builtin.growBy A k c<=2*A+1000
 |0,c,h=>h
 |k+1,c,h=>by
  simp only[Builtin.growBy];split
  ·exact h
  exact Zh9 A k _ (by omega)
theorem ZsQ (A old:Nat) (h:old<A):Builtin.nextslicecap A old<=2*A+1000:=by
 unfold Builtin.nextslicecap;split
 ·omega
 split
 ·omega
 exact Zh9 A 4 old (by omega)
theorem Qo {at_:Array TypeId} {t U e e' ty:TypeId} {j:TypeInfo} (h0:at_[0]? =some t) (h1:at_[1]? =some U) (hu:P.underlying t=some (.slice e)) (V:P.underlying U=some (.slice e'))
  (Z:P.info? e=some j) (base J:Option Addr) (A G Y n:Nat) (new:Array Value) (w w':World) (hx:(Builtin.firstCells j.size n (.slice J n Y)).run P w= .ok new w) (S:A+n<=G)
  (H:∀a,base=some a->(storeCells (a.add (A*j.size)) new.toList).run P w= .ok () w') (I:base=none->w'=w):
  (Builtin.append_ at_ ty #[.slice base A G,.slice J n Y]).run P w= .ok (.slice base (A+n) G) w':=by
 unfold Builtin.append_
 simp only[h0,h1,aR,Zw hu,Zw V,Z3 Z,aH,bD,Builtin.lenOf,eo,bJ,cN,
  aY,if_false,eE,if_true,iP S,hx]
 cases base with
 |none=>rw[I rfl];rfl
 |some a=>simp only[aR,H a rfl,aH,bD]
theorem JL {at_:Array TypeId} {t Y e e' ty:TypeId} {j:TypeInfo} {z:Value} (h0:at_[0]? =some t) (h1:at_[1]? =some Y) (hu:P.underlying t=some (.slice e)) (aa:P.underlying Y=some (.slice e'))
  (hj:P.info? e=some j) (hz:j.zero=some z) (hb:j.bytes<=1000000) (base V:Option Addr) (A G xc n:Nat) (old new:Array Value) (w:World)
  (hx:∀H:World,H.heap=w.heap->(Builtin.firstCells j.size n (.slice V n xc)).run P H= .ok new H) (ho:∀H:World,H.heap=w.heap->(Builtin.firstCells j.size A (.slice base A G)).run P H= .ok old H)
  (Z:¬A+n<=G) (ab:A+n<=1000000):
  ∃(I d:Nat) (J:Array Value),A+n<=I/\J.size=(I-(A+n))*z.cells.size/\
   (Builtin.append_ at_ ty #[.slice base A G,.slice V n xc]).run P w= .ok (.slice (some ⟨w.heap.size,0,none⟩) (A+n) I) {w with drawn:=d,heap:=w.heap.push (.cells (old++new++J) e)}:=by
 have hn:=ZsQ (A+n) G (by omega);have U:¬Builtin.nextslicecap (A+n) G*j.bytes>2^ 48:=by
  have:Builtin.nextslicecap (A+n) G*j.bytes<=2001000*1000000:=Nat.mul_le_mul (by omega) hb;omega
 have S:¬(((A+n:Nat):Int)>IntKind.i64.max/\(False\/j.bytes=0)):=by
  have:IntKind.i64.max=9223372036854775807:=by decide
  rw[this];omega
 refine⟨(Question.appendCap (A+n) G e).cut (w.tape w.drawn (.appendCap (A+n) G e)),w.drawn+1,Builtin.zeroCells z.cells ((Question.appendCap (A+n) G e).cut (w.tape w.drawn (.appendCap (A+n) G e))-(A+n)),?_,by simp[Builtin.zeroCells],?_⟩
 ·simp only[Question.cut];omega
 unfold Builtin.append_
 simp only[h0,h1,aR,Zw hu,Zw aa,Z3 hj,Xo hj,aH,bD,Builtin.lenOf,eo,bJ,cN,
  aY,if_false,eE,if_true,iN Z,iN S,iN U,run_choose,Question.forced,run_askRoom,zeroValue,hz,newRow,run_newObj]
 rw[ho {w with drawn:=w.drawn+1} rfl];simp only[aH];rw[hx {w with drawn:=w.drawn+1} rfl];rfl
theorem QW {n:Unit->Int} {f g:(Unit->Int)->List AV} {len i:Nat} (A:n ()=(len:Int)) (hi:i<len):Z0 n f g (λ_=>(i:Int))=f (λ_=>(i:Int)):=
 iP (show(i:Int)<n () by omega)
theorem Qu {n:Unit->Int} {f g:(Unit->Int)->List AV} {len i:Nat} (A:n ()=(len:Int)) (hi:len<=i):Z0 n f g (λ_=>(i:Int))=g (λ_=>((i-len:Nat):Int)):=by
 refine(iN (show¬(i:Int)<n () by omega)).trans ?_;congr 1;funext _;show(i:Int)-n ()=_;omega
def Zlh (R:RC) (G:Nat->Nat->Nat->Prop) (h:List Zh) (s:Nat) (n m:Unit->Int) (f g:(Unit->Int)->List AV) (id:Nat) (h':List Zh) (r:Result Value):Prop:=
 ∃u A,r= .ok u A.w/\HR G A h'/\Xj R h A h'/\R.le A/\VR A (.isl s (λ_=>n ()+m ()) (Z0 n f g) (.own id)) u
theorem Zfz {s ah:Nat} {n m:Unit->Int} {f g:(Unit->Int)->List AV} {id m':Nat} {h':List Zh} {v:Value} (H:HR G R h) (hv:PR R.w R.ok (.isl ah n f .none) v) (hs:ah=s\/n ()=0) (hm:m ()=0)
  (ae:h'.length=m') (ao:R.m<=m') (am:∀i x,h'[i]? =some x->(i=id/\x= .tok s λ_=>n ()+m ())\/(i≠id/\h[i]? =some x)) (ai:h'[id]? =some (.tok s λ_=>n ()+m ()))
  (Y:id<R.m->∃U J,h[id]? =some (.tok U J)/\R.hw id<=n ()+m ()/\(R.hw id=n ()+m ()->v=R.hv id))
  (Z:¬id<R.m->(∃a:Option Addr,v= .slice a 0 0)\/∃a len,v= .slice (some a) len len)
  (aw:id<R.m->(n ()+m ()=0/\∃a:Option Addr,v= .slice a 0 0)\/∃(b o len I:Nat),n ()+m ()=(len:Int)/\len<=I/\v= .slice (some ⟨b,o,none⟩) len I/\
    (len<I->∃(arr:Array Value) (ty:TypeId),R.w.heap[b]? =some (.cells arr ty (0,0))/\o+I*s<=arr.size)) (aa:id<R.m->v=R.hv id)
  (aq:∀U J,h[id]? =some (.tok U J)->U=s):
  ∃V,V.w=R.w/\HR G V h'/\Xj R h V h'/\R.le V/\VR V (.isl s (λ_=>n ()+m ()) (Z0 n f g) (.own id)) v:=by
 obtain⟨V,hw,au,az,a9,H',hx,ab,_⟩:=H.token id m' s (λ_=>n ()+m ()) v R.w h' ae ao am ai Y (λb=>id<R.m/\∃U J,h[id]? =some (.tok U J)/\ZC R id (.tok U J) b) (λb=>Iff.rfl) rfl rfl rfl (aI _)
  (λ_ _ _=>rfl) (λ_ _ _ _ _ _=>rfl) (by
   by_cases A:id<R.m
   ·exact aw A
   rcases Z A with⟨a0,h⟩|⟨a,len,h⟩
   ·refine .inl ⟨?_,a0,h⟩;cases hv with
    |isl0 _ _ _ _ hz _=>show n ()+m ()=0;omega
    |islE _ _ _ _ _ hz _=>show n ()+m ()=0;omega
    |isl _ _ _ _ _ _ len I us hn=>cases h;show n ()+m ()=0;omega
   cases hv with
   |isl0 _ _ _ _ hz _=>cases h
   |islE _ _ _ _ a1 hz _=>exact .inl ⟨by show n ()+m ()=0;omega,_,rfl⟩
   |isl _ _ _ _ b o ak I us hn _ _ _ _ _ _ _=>
    cases h
    exact .inr ⟨b,o,len,len,by show n ()+m ()=_;omega,aI _,rfl,λh=>absurd h (dJ _)⟩)
  (λa k c S ac=>by
   by_cases A:id<R.m
   ·obtain⟨U,J,h1,_⟩:=Y A;exact .inr ⟨A,U,J,h1,a,k,c,(aa A)▸S,ac,rfl⟩
   rcases Z A with⟨a0,h⟩|⟨a',len,h⟩
   ·rw[h]at S;cases S;omega
   rw[h]at S;cases S
   omega)
  (λb o k hk a len I S ac hb=>by
   by_cases A:id<R.m
   ·obtain⟨U,J,h1,_⟩:=Y A;have:=((H.okd _ _ _).1 hk).2.2 id _ h1 a len I ((aa A)▸S) ac hb;rw[aq U J h1]at this;exact this
   rcases Z A with⟨a0,h⟩|⟨a',ak,h⟩
   ·rw[h]at S;cases S;omega
   rw[h]at S;cases S
   omega)
 have aj:id<V.m:=by
  rw[au,<-ae];exact(aE.1 ai).1
 refine⟨V,hw,H',hx,ab,.own _ _ _ _ _ aj ?_ (by rw[a9];exact bS _) (λ_=>az.symm)⟩;have ar:=hv.mono ab.ok ab.keep ab.keepM;cases ar with
 |isl0 _ _ _ _ hz _=>exact .isl0 _ _ _ _ (by show n ()+m ()=0;omega) rfl
 |islE _ _ _ _ a hz _=>exact .islE _ _ _ _ a (by show n ()+m ()=0;omega) (.inl rfl)
 |isl _ _ _ _ b o len I us hn hc ht S hl h1 h2 h3=>
  rcases hs with rfl|h0
  ·refine .isl _ _ _ _ b o len I us (by show n ()+m ()=_;omega) hc (.inl rfl) (λh=>by cases h) (λi A=>?_) (λi j c A hj=>?_) (λi j c A hj=>?_) h3
   ·rw[QW hn A];exact hl i A
   ·rw[QW hn A]at hj;exact h1 i j c A hj
   rw[QW hn A]at hj;exact h2 i j c A hj
  have:len=0:=by omega
  subst this;rw[eA]at h3;exact .isl _ _ _ _ b o 0 I us (by show n ()+m ()=_;omega) hc (.inl rfl) (λh=>by cases h) (λi A=>by omega) (λi j c A=>by omega) (λi j c A=>by omega) (by rw[eA];exact h3)
theorem Zhj {s am:Nat} {n m:Unit->Int} {f g:(Unit->Int)->List AV} {id m':Nat} {h':List Zh} {v x:Value} {P:Program} {at_:Array TypeId} {t t' e e' ty:TypeId} {j:TypeInfo} {z:Value}
  (H:HR G R h) (hv:PR R.w R.ok (.isl am n f .none) v) (hs:am=s\/n ()=0) (bt:PR R.w R.ok (.isl s m g .none) x)
  (h0:at_[0]? =some t) (h1:at_[1]? =some t') (hu:P.underlying t=some (.slice e)) (bx:P.underlying t'=some (.slice e')) (hj:P.info? e=some j) (hz:j.zero=some z) (bu:z.cells.size=s) (cf:j.size=s) (hb:j.bytes<=1000000)
  (cy:n ()+m ()<=1000000) (aw:∀a len J,v= .slice a len J->¬((len:Int)+m ()<=J))
  (ak:h'.length=m') (ce:R.m<=m') (bh:∀i x,h'[i]? =some x->(i=id/\x= .tok s λ_=>n ()+m ())\/(i≠id/\h[i]? =some x)) (a9:h'[id]? =some (.tok s λ_=>n ()+m ()))
  (bp:id<R.m->∃s0 Y,h[id]? =some (.tok s0 Y)/\R.hw id<n ()+m ()):
  Zlh R G h s n m f g id h' ((Builtin.append_ at_ ty #[v,x]).run P R.w):=by
 obtain⟨f0,cj,aj⟩:∃f0,PR R.w R.ok (.isl s n f0 .none) v/\∀i:Nat,(i:Int)<n ()->f0 (λ_=>(i:Int))=f (λ_=>(i:Int)):=by
  rcases hs with rfl|h0
  ·exact⟨f,hv,λ_ _=>rfl⟩
  refine⟨λ_=>[],?_,λi Z=>by omega⟩;cases hv with
  |isl0 _ _ _ _ hz _=>exact .isl0 _ _ _ _ hz rfl
  |islE _ _ _ _ a hz _=>exact .islE _ _ _ _ a hz (.inl rfl)
  |isl _ _ _ _ b o len J us V hc ht he hl h1 h2 h3=>
   have:len=0:=by omega
   subst this;rw[eA]at h3;exact .isl _ _ _ _ b o 0 J us V hc (.inl rfl) (λh=>by cases h) (λi Z=>by omega) (λi j c Z=>by omega) (λi j c Z=>by omega) (by rw[eA];exact h3)
 obtain⟨va,A,vc,ca,old,rfl,V,cw,c9,aq,bo,b9,ac,bm,cz⟩:=XI (P:=P) cj;obtain⟨xa,nn,xc,bz,new,rfl,hm,c6,cu,ck,bg,bw,aa,bk,ct⟩:=XI (P:=P) bt;have au:¬A+nn<=vc:=λhh=>aw _ _ _ rfl (by omega);subst cf;obtain⟨J,d,U,ab,cg,bl⟩:=JL (P:=P) (ty:=ty) h0 h1 hu bx hj hz hb va xa A vc xc nn old.toArray new.toArray R.w (λw' hw=>bg w' hw) (λw' hw=>bo w' hw) au (by omega);have bq:(old.toArray++new.toArray++U).size=J*j.size:=by
  rw[eW,eW,cg,bu];simp only[dX,aq,ck];rw[<-dI,<-dI];congr 1;omega
 have ai:∀b,b<R.w.heap.size->(R.w.heap.push (.cells (old.toArray++new.toArray++U) e))[b]? =R.w.heap[b]? :=λb hb=>by rw[bK,iN (by omega)]
 have ah:(R.w.heap.push (.cells (old.toArray++new.toArray++U) e))[R.w.heap.size]? =some (.cells (old.toArray++new.toArray++U) e (0,0)):=by simp
 obtain⟨R',hw,ci,cn,cq,H',hx,S,bc⟩:=H.token id m' j.size (λ_=>n ()+m ()) (.slice (some ⟨R.w.heap.size,0,none⟩) (A+nn) J)
  {R.w with drawn:=d,heap:=R.w.heap.push (.cells (old.toArray++new.toArray++U) e)} h' ak ce bh a9
  (λZ=>by obtain⟨s0,Y,h1,h2⟩:=bp Z;exact⟨s0,Y,h1,by show R.hw id<=n ()+m ();omega,λe=>by have e:R.hw id=n ()+m ():=e;omega⟩)
  (λb=>id<R.m/\∃s0 Y,h[id]? =some (.tok s0 Y)/\ZC R id (.tok s0 Y) b) (λb=>Iff.rfl) rfl rfl rfl (by show _<=(R.w.heap.push _).size;simp)
  (λb hb _=>ai b hb) (λb o k I i _=>by
   have:=((H.okd _ _ _).1 I).1;simp only[bX]
   rw[ai b this])
  (.inr ⟨R.w.heap.size,0,A+nn,J,by show n ()+m ()=_;omega,ab,rfl,λ_=>⟨_,e,ah,by rw[bq];omega⟩⟩)
  (λa k c he ao=>by cases he;exact .inl (aI _))
  (λb o k I a len c he ao az=>by
   cases he;have:=((H.okd _ _ _).1 I).1
   exact absurd this (by rw[<-az];exact dJ _))
 have ba:id<R'.m:=by
  rw[ci,<-ak];exact(aE.1 a9).1
 refine⟨_,R',by rw[bl,hw],H',hx,S,.own _ _ _ _ _ ba ?_ (by rw[cq];exact bS _) (λ_=>cn.symm)⟩;have ar:∀k,k<J*j.size->R'.w.cell? ⟨R.w.heap.size,k,none⟩=(old++new++U.toList)[k]? :=λk I=>by
  rw[hw];simp only[bX,ah,Option.isSome_none,aY,if_false];rw[<-bN];simp
 have cr:(A+nn)*j.size<=J*j.size:=aL _ ab;refine .isl _ _ _ _ R.w.heap.size 0 (A+nn) J (λi k=>if i<A then ca i k else bz (i-A) k) (by show n ()+m ()=_;omega) ab (.inl rfl) (λh=>by cases h) (λi Z=>?_) (λi k c Z I=>?_) (λi k c Z I=>?_) ?_
 ·by_cases hi':i<A
  ·rw[QW V hi',<-aj i (by omega)];exact ac i hi'
  rw[Qu V (by omega)];exact aa _ (by omega)
 ·have ao:i*j.size+k<(A+nn)*j.size:=by
   have ae:k<j.size:=by
    by_cases hi':i<A
    ·rw[QW V hi',<-aj i (by omega)]at I;rw[<-ac i hi'];exact(aE.1 I).1
    rw[Qu V (by omega)]at I;rw[<-aa (i-A) (by omega)];exact(aE.1 I).1
   have:(i+1)*j.size<=(A+nn)*j.size:=aL _ Z;rw[bI]at this;omega
  rw[dD,ar _ (by omega)];by_cases hi':i<A
  ·rw[QW V hi',<-aj i (by omega)]at I;have ae:k<j.size:=by rw[<-ac i hi'];exact(aE.1 I).1
   have:=b9 i k hi' ae;rw[iP hi',dW,bO (by exact(aE.1 this).1)];exact this
  rw[Qu V (by omega)]at I;have ae:k<j.size:=by rw[<-aa (i-A) (by omega)];exact(aE.1 I).1
  have:=bw (i-A) k (by omega) ae;have c8:A*j.size<=i*j.size:=aL _ (by omega)
  rw[iN hi',dW,dF (by rw[aq];omega),aq,show i*j.size+k-A*j.size=(i-A)*j.size+k from by rw[gp];omega,
   bO (by exact(aE.1 this).1)]
  exact this
 ·by_cases hi':i<A
  ·rw[QW V hi',<-aj i (by omega)]at I;rw[iP hi'];exact(bm i k c hi' I).mono S.ok S.keep S.keepM
  rw[Qu V (by omega)]at I;rw[iN hi'];exact(bk (i-A) k c (by omega) I).mono S.ok S.keep S.keepM
 refine bc _ _ _ (by show _<(R.w.heap.push _).size;simp) (H.fresh _ _ _ (aI _)) (.inl (aI _)) (λa len c he ao az=>?_);cases he;exact aI _
theorem PR.one {w:World} {ok:Nat->Nat->Nat->Prop} {a:AV} {u:Value} (h:PR w ok a u):u.oneCell'=true:=by
 cases h<;>rfl
theorem Zop {s:Nat} {n m:Unit->Int} {f g:(Unit->Int)->List AV} {id:Nat} {v x:Value} {P:Program} {at_:Array TypeId} {t t' e e' ty:TypeId} {j:TypeInfo} {ae:Unit->Int}
  (H:HR G R h) (hv:PR R.w R.ok (.isl s n f .none) v) (cf:PR R.w R.ok (.isl s m g .none) x)
  (h0:at_[0]? =some t) (h1:at_[1]? =some t') (hu:P.underlying t=some (.slice e)) (ck:P.underlying t'=some (.slice e')) (hj:P.info? e=some j) (cu:j.size=s)
  (hi:h[id]? =some (.tok s ae)) (aj:R.hv id=v) (bo:R.hw id=n ()) (c6:0<m ()) (aa:∀a len J,v= .slice a len J->(len:Int)+m ()<=J):
  Zlh R G h s n m f g id (h.set id (.tok s λ_=>n ()+m ())) ((Builtin.append_ at_ ty #[v,x]).run P R.w):=by
 have ab:id<R.m:=H.len▸(aE.1 hi).1;obtain⟨xa,nn,xc,cr,new,rfl,hm,db,da,ai,bw,bm,ak,bc,c9⟩:=XI (P:=P) cf;cases hv with
 |isl0 _ _ _ _ hz _=>have:=aa _ _ _ rfl;omega
 |islE _ _ _ _ _ hz _=>have:=aa _ _ _ rfl;omega
 |isl _ _ _ _ b o len J us hn hc ht he hl ct b9 cg=>
 have am:len+nn<=J:=by have:=aa _ _ _ rfl;omega
 have ao:len<J:=by omega
 obtain⟨_,ca⟩:=H.blk id _ hi;obtain⟨arr,aq,Y,ce⟩:∃(arr:Array Value) (ty:TypeId),R.w.heap[b]? =some (.cells arr ty (0,0))/\o+J*s<=arr.size:=by
  rcases ca with⟨_,a3,h⟩|⟨S,o',a9,cz,_,_,h,h4⟩
  ·rw[aj]at h;cases h;omega
  rw[aj]at h;cases h;exact h4 ao
 have V:ZC R id (.tok s ae) b:=⟨_,_,_,aj,ao,rfl⟩;subst cu;have c8:(len+nn)*j.size<=J*j.size:=aL _ am;have cy:(len+nn)*j.size=len*j.size+nn*j.size:=dI ..;have bt:∀k,k<nn*j.size->k/j.size<nn/\k%j.size<j.size/\k/j.size*j.size+k%j.size=k:=λk I=>by
  have hs:0<j.size:=ep (λe=>by rw[e]at I;simp at I);exact⟨(dM hs).2 I,eJ _ hs,ff k j.size⟩
 have bp:∀v∈new,v.oneCell'=true:=λv cj=>by
  obtain⟨k,I,rfl⟩:=ei cj;obtain⟨f1,f2,f3⟩:=bt k (ai▸I);have e1:=bm _ _ f1 f2;rw[f3,aD I,aC]at e1;rw[e1];exact(bc _ _ _ f1 (aD (by rw[ak _ f1];exact f2))).one
 let A:=(arr.toList.take (o+len*j.size+0)++new++arr.toList.drop (o+len*j.size+0+new.length)).toArray;have ci:=run_storeCells_at P b (o+len*j.size) aq new 0 arr R.w Y (by rw[ai];omega) bp;have bx:∀i x,(h.set id (.tok j.size λ_=>n ()+m ()))[i]? =some x->(i=id/\x= .tok j.size λ_=>n ()+m ())\/(i≠id/\h[i]? =some x):=λi x Z=>by
  rw[bR]at Z;split at Z
  ·rename_i e;subst e;split at Z
   ·simp only[aC]at Z;exact .inl ⟨rfl,Z.symm⟩
   cases Z
  rename_i e;exact .inr ⟨λh=>e h.symm,Z⟩
 have ac:∀S,S≠b->(R.w.setRow b A).heap[S]? =R.w.heap[S]? :=λS hb=>setRow_other R.w b S _ hb;have aw:(R.w.setRow b A).heap[b]? =some (.cells A aq (0,0)):=setRow_heap R.w b arr _ aq _ Y;have bg:A.size=arr.size:=by
  simp only[A,dX,bA,bW,dL,cX,ai];omega
 have ba:∀k,A.getD k undef=if o+len*j.size<=k/\k<o+len*j.size+new.length then new.getD (k-(o+len*j.size)) undef else arr.getD k undef:=λk=>by
  have:=XR arr new (o+len*j.size+0) k (by rw[ai];omega);exact this
 have ar:∀k,k<arr.size->(R.w.setRow b A).cell? ⟨b,k,none⟩=some (A.getD k undef):=λk I=>Z1 aw (by rw[bg];exact I);have au:∀S o' k,R.ok S o' k->∀i,i<k->(R.w.setRow b A).cell? ⟨S,o'+i,none⟩=R.w.cell? ⟨S,o'+i,none⟩:=λS o' k I i dg=>by
  by_cases e:S=b
  ·subst e;have ah:=((H.okd _ _ _).1 I).2.2 id _ hi _ _ _ aj ao rfl;have ah:o'+k<=o+len*j.size:=ah;rw[ar _ (by omega),ba,iN (by omega)];exact(Z1 Y (by omega)).symm
  simp only[bX,ac S e]
 obtain⟨R',hw,cw,bz,bq,H',Z,U,bu⟩:=H.token id R.m j.size (λ_=>n ()+m ()) (.slice (some ⟨b,o,none⟩) (len+nn) J) (R.w.setRow b A) (h.set id (.tok j.size λ_=>n ()+m ()))
  (by rw[bP];exact H.len) (aI _) bx (by rw[bR];simp[(aE.1 hi).1])
  (λ_=>⟨_,_,hi,by rw[bo];show n ()<=n ()+m ();omega,λe=>by rw[bo]at e;have e:n ()=n ()+m ():=e;omega⟩)
  (λb=>id<R.m/\∃s0 ae,h[id]? =some (.tok s0 ae)/\ZC R id (.tok s0 ae) b) (λb=>Iff.rfl) rfl rfl rfl (by simp[World.setRow])
  (λS _ cn=>ac S (λe=>cn (e▸⟨ab,_,_,hi,V⟩))) au
  (.inr ⟨b,o,len+nn,J,by show n ()+m ()=_;omega,am,rfl,λ_=>⟨A,aq,aw,by rw[bg];exact ce⟩⟩)
  (λa k c he bh=>by cases he;exact .inr ⟨ab,_,_,hi,V⟩)
  (λS o' k I a a9 c he bh bk=>by
   cases he;subst bk;have ah:=((H.okd _ _ _).1 I).2.2 id _ hi _ _ _ aj ao rfl;have ah:o'+k<=o+len*j.size:=ah;show o'+k<=o+(len+nn)*j.size
   omega)
 refine⟨_,R',?_,H',Z,U,.own _ _ _ _ _ (by rw[cw];exact ab) ?_ (by rw[bq];exact bS _) (λ_=>bz.symm)⟩
 ·rw[hw]
  exact Qo h0 h1 hu ck hj _ xa len J xc nn new.toArray R.w _ (bw _ rfl) am (λa ha=>by
   cases ha;rw[QL]
   exact ci) (λh=>by cases h)
 refine .isl _ _ _ _ b o (len+nn) J (λi k=>if i<len then us i k else cr (i-len) k) (by show n ()+m ()=_;omega) am (.inl rfl) (λh=>by cases h) (λi az=>?_) (λi k c az I=>?_) (λi k c az I=>?_) ?_
 ·by_cases hil:i<len
  ·rw[QW hn hil];exact hl i hil
  rw[Qu hn (by omega)];exact ak _ (by omega)
 ·rw[hw];by_cases hil:i<len
  ·rw[QW hn hil]at I;have bl:k<j.size:=by rw[<-hl i hil];exact(aE.1 I).1
   have cq:i*j.size+j.size<=len*j.size:=by
    have:(i+1)*j.size<=len*j.size:=aL _ hil;rwa [bI]at this
   rw[iP hil,dH,au b o _ cg (i*j.size+k) (by omega),<-dH];exact ct i k c hil I
  rw[Qu hn (by omega)]at I;have bl:k<j.size:=by rw[<-ak (i-len) (by omega)];exact(aE.1 I).1
  have cq:i*j.size+j.size<=(len+nn)*j.size:=by
   have:(i+1)*j.size<=(len+nn)*j.size:=aL _ az;rwa [bI]at this
  have dc:len*j.size<=i*j.size:=aL _ (by omega);have e1:=bm (i-len) k (by omega) bl;have e2:i*j.size-len*j.size=(i-len)*j.size:=by rw[gp]
  rw[iN hil,ar _ (by omega),ba,iP (by rw[ai];omega),show o+i*j.size+k-(o+len*j.size)=(i-len)*j.size+k from by omega,aA,e1];rfl
 ·by_cases hil:i<len
  ·rw[QW hn hil]at I;rw[iP hil];exact(b9 i k c hil I).mono U.ok U.keep U.keepM
  rw[Qu hn (by omega)]at I;rw[iN hil];exact(bc (i-len) k c (by omega) I).mono U.ok U.keep U.keepM
 refine bu _ _ _ (by show b<(R.w.heap.modify _ _).size;rw[Array.size_modify];exact(aM.1 Y).1) (H.tokG id _ b hi rfl V _ _) (.inr ⟨ab,_,_,hi,V⟩) (λa a9 c he bh bk=>?_);cases he;exact aI _
end
end Vm
namespace Vm
open Go
section
variable {P:Program} {R:RC} {G:Nat->Nat->Nat->Prop} {h:List Zh}
theorem set_get {id:Nat} {blk:Zh} {i:Nat} {x:Zh} (A:(h.set id blk)[i]? =some x):(i=id/\x=blk)\/(i≠id/\h[i]? =some x):=by
 rw[bR]at A;split at A
 ·rename_i e;subst e;split at A
  ·simp only[aC]at A;exact .inl ⟨rfl,A.symm⟩
  cases A
 rename_i e;exact .inr ⟨λh=>e h.symm,A⟩
theorem HR.room1 (H:HR G R h) {id:Nat} {I blk':Zh} (hi:h[id]? =some I) (S:ZaJ I=true) (ao:αk blk'=false) (J:Int) (U:Value) (w':World)
  (h0:∀b o n,Qj R id I b o n->¬ZC R id I b) (Z:∀(A:RC) b o n,¬ZC A id blk' b->Qj A id blk' b o n)
  (a9:R.hw id<=J) (am:R.hw id=J->U=R.hv id) (ah:Zhr (R.hv id) U)
  (az:w'.os=R.w.os) (aw:w'.tape=R.w.tape) (aj:w'.output=R.w.output) (au:R.w.heap.size<=w'.heap.size)
  (hh:∀b,b<R.w.heap.size->¬ZC R id I b->w'.heap[b]? =R.w.heap[b]?)
  (ar:∀A:RC,R.le A->A.w=w'->A.hw id=J->A.hv id=U->A.n0=R.n0->BR A id blk')
  (aa:∀A:RC,A.hv id=U->∀b,ZC A id blk' b->R.w.heap.size<=b\/ZC R id I b):
  ∃A,A.w=w'/\A.hv id=U/\A.hw id=J/\A.m=R.m/\HR G A (h.set id blk')/\Xj R h A (h.set id blk')/\R.le A:=by
 have ac:id<R.m:=H.len▸(aE.1 hi).1;have aq:∀b,ZC R id I b↔(id<R.m/\∃V,h[id]? =some V/\ZaJ V=true/\ZC R id V b):=λb=>
  ⟨λY=>⟨ac,_,hi,S,Y⟩,λ⟨_,V,Z,_,h2⟩=>by rw[hi]at Z;cases Z;exact h2⟩
 have ab:∀b o n,R.ok b o n->¬ZC R id I b:=λb o n S=>h0 b o n (((H.okd _ _ _).1 S).2.2 id _ hi);obtain⟨A,a1,a2,a3,a4,a5,a6,a7,_⟩:=H.room id R.m blk' J U w' (h.set id blk') (by rw[bP];exact H.len) (aI _) (λi x=>set_get)
  (λ_=>⟨_,hi,S,a9,am,ah⟩) (λb=>ZC R id I b) aq az aw aj au hh
  (λb o n S j _=>by
   simp only[bX]
   rw[hh b ((H.okd _ _ _).1 S).1 (ab b o n S)])
  (λA ae J ai ak hl=>ar A ae J ai ak hl.1)
  (λA hv _ b Y=>aa A hv b Y)
  (λA hv b o n S=>Z A b o n λY=>by
   rcases aa A hv b Y with h3|h3
   ·have:=((H.okd _ _ _).1 S).1;omega
   exact ab b o n S h3) ao
 exact⟨A,a1,a3,a4,a2,a5,a6,a7⟩
theorem HR.adopt (H:HR G R h) {q k z s:Nat} {N n1:Unit->Int} {m:(Unit->Int)->Unit->Int} {g:(Unit->Int)->(Unit->Int)->List AV} {f1:(Unit->Int)->List AV} (hq:h[q]? =some (.fam z s N m g)) (U:h[k]? =some (.gar s n1 f1)) (bx:z<=k):
  ∃I,I.w=R.w/\I.m=R.m/\(∀i,i≠q->I.hv i=R.hv i/\I.hw i=R.hw i)/\HR G I ((h.set k .dead).set q (.fam z s (λ_=>N ()+1) (ZbO N m n1) (Ja N g f1)))/\Xj R h I ((h.set k .dead).set q (.fam z s (λ_=>N ()+1) (ZbO N m n1) (Ja N g f1)))/\R.le I/\
   ∃(S:Array Value) (i:Nat),I.hv q= .tuple S/\S[i]? =some (R.hv k)/\N ()=(i:Int):=by
 have a9:k≠q:=λe=>by subst e;rw[hq]at U;cases U
 obtain⟨bg,bk,S,ah,hN,bm,bo⟩:=H.blk q _ hq;obtain⟨cf,au⟩:=H.blk k _ U;have au:Zv0 R s n1 f1 (R.hv k):=au;have cg:q<R.m:=H.len▸(aE.1 hq).1;have ce:k<R.m:=H.len▸(aE.1 U).1;let F:Zh:=.fam z s (λ_=>N ()+1) (ZbO N m n1) (Ja N g f1);let h':=(h.set k .dead).set q F;let I:=ZlE R.cx G R.n0 R.w R.m R.α (λi=>if i=q then N ()+1 else R.hw i) (λi=>if i=q then .tuple (S.push (R.hv k))else R.hv i) h';have Y:I.hv q= .tuple (S.push (R.hv k)):=iP rfl;have ab:∀i,i≠q->I.hv i=R.hv i:=λi hi=>iN hi;have aq:∀i,i≠q->I.hw i=R.hw i:=λi hi=>iN hi;have ai:∀ {i x},h'[i]? =some x->(i=q/\x=F)\/(i=k/\x= .dead)\/(i≠q/\i≠k/\h[i]? =some x):=λ{i x} A=>by
  rcases set_get A with⟨h1,h2⟩|⟨h1,A⟩
  ·exact .inl ⟨h1,h2⟩
  rcases set_get A with⟨h2,h3⟩|⟨h2,h3⟩
  ·exact .inr (.inl ⟨h2,h3⟩)
  exact .inr (.inr ⟨h1,h2,h3⟩)
 have aa:∀ {i v},(S.push (R.hv k))[i]? =some v->S[i]? =some v\/(i=S.size/\v=R.hv k):=λ{i v} hv=>by
  rw[bK]at hv;split at hv
  ·rename_i e;simp only[aC]at hv;exact .inr ⟨e,hv.symm⟩
  exact .inl hv
 have ao:∀b,ZC I q F b↔(ZC R q (.fam z s N m g) b\/ZC R k (.gar s n1 f1) b):=λb=>by
  constructor
  ·rintro⟨ba,h1,i,v,h2,h3⟩;rw[Y]at h1;cases h1;rcases aa h2 with h2|⟨_,rfl⟩
   ·exact .inl ⟨S,ah,i,v,h2,h3⟩
   exact .inr h3
  rintro(⟨ba,h1,i,v,h2,h3⟩|h3)
  ·rw[ah]at h1;cases h1;refine⟨_,Y,i,v,?_,h3⟩;rw[bK,iN (by have:=(aM.1 h2).1;omega)];exact h2
  exact⟨_,Y,S.size,R.hv k,by simp,h3⟩
 have bq:∀b o n,Zdh I h' b o n↔Zdh R h b o n:=λb o n=>by
  constructor
  ·intro ha i x A;by_cases e:i=q
   ·subst e;rw[hq]at A;cases A;intro J;have:=ha i F (by simp[h',(aE.1 hq).1]);exact this ((ao b).2 (.inl J))
   by_cases e':i=k
   ·subst e';rw[U]at A;cases A;intro J;have:=ha q F (by simp[h',(aE.1 hq).1]);exact this ((ao b).2 (.inr J))
   have aj:h'[i]? =some x:=by
    simp only[h'];rw[bR,iN (Ne.symm e),bR,iN (Ne.symm e')];exact A
   exact(Qj.congr (R:=R) (R':=I) rfl (ab i e)).1 (ha i x aj)
  intro ha i x A;rcases ai A with⟨rfl,rfl⟩|⟨rfl,rfl⟩|⟨e,e',A⟩
  ·intro J;rcases(ao b).1 J with J|J
   ·exact ha _ _ hq J
   exact ha _ _ U J
  ·exact λJ=>J
  exact(Qj.congr (R:=R) (R':=I) rfl (ab i e)).2 (ha i x A)
 have aw:∀b o n,I.ok b o n↔R.ok b o n:=λb o n=>by
  rw[H.okd,<-bq];exact Iff.rfl
 have Z:R.le I:=⟨aI _,λ_ _=>rfl,λi hi=>by
  by_cases e:i=q
  ·subst e;refine⟨by show R.hw i<=(if i=i then _ else _);rw[iP rfl,bk];omega,λe=>?_⟩;have e:R.hw i=(if i=i then N ()+1 else R.hw i):=e;rw[iP rfl,bk]at e;omega
  ·rw[ab i e,aq i e];exact⟨bS _,λ_=>rfl⟩,λi hi=>by
  by_cases e:i=q
  ·subst e;rw[Y,ah];intro ba h1;cases h1;exact⟨_,rfl,λj x hj=>by rw[bK,iN (by have:=(aM.1 hj).1;omega)];exact hj⟩
  rw[ab i e]
  exact .refl _,λb o n U=>(aw b o n).2 U,λ_ _ _ _ _ _=>rfl,λ_ _ _ _ h=>h,rfl⟩
 have bl:h'.length=I.m:=by simp only[h',bP];exact H.len
 have am:∀ {i x b},h'[i]? =some x->ZC I i x b->(i=q/\(ZC R q (.fam z s N m g) b\/ZC R k (.gar s n1 f1) b))\/(i≠q/\i≠k/\h[i]? =some x/\ZC R i x b):=λ{i x b} A J=>by
  rcases ai A with⟨rfl,rfl⟩|⟨rfl,rfl⟩|⟨e,e',A⟩
  ·exact .inl ⟨rfl,(ao b).1 J⟩
  ·exact J.elim
  exact .inr ⟨e,e',A,(ZC.congr (R:=R) (R':=I) rfl (ab i e)).1 J⟩
 refine⟨I,rfl,rfl,λi hi=>⟨ab i hi,aq i hi⟩,⟨bl,λ_ _ _=>Iff.rfl,λi x A=>?_,λi j bi bj b bc hi hj J ae=>?_,H.cl,H.fresh,λi x b A bt J o n=>?_,H.n0m⟩,?_,Z,S.push (R.hv k),S.size,Y,by simp,hN⟩
 ·rcases ai A with⟨rfl,rfl⟩|⟨rfl,rfl⟩|⟨e,e',A⟩
  ·refine⟨bg,iP rfl,S.push (R.hv k),Y,by simp;omega,λj v hj=>?_,λa c v v' b az hv ak=>?_⟩
   ·rcases aa hj with hj|⟨rfl,rfl⟩
    ·have ca:=(aM.1 hj).1;have e1:Ja N g f1 (λ_=>(j:Int))=g λ_=>(j:Int):=iP (by show(j:Int)<N ();omega);rw[e1];exact((bm j v hj).mono (Q':=PR I.w I.ok) (λ_ _ h=>h.mono Z.ok Z.keep Z.keepM) λ_ _=>rfl).cong (by show(bif decide ((j:Int)<N ())then _ else _)=_;rw[iZ (by omega)];rfl) (λ_ _=>rfl) λ_ _ _ c hc=>⟨c,hc,λ_ h=>h⟩
    have e1:Ja N g f1 (λ_=>(S.size:Int))=f1:=iN (by show¬(S.size:Int)<N ();omega);rw[e1];exact(au.mono (Q':=PR I.w I.ok) (λ_ _ h=>h.mono Z.ok Z.keep Z.keepM) λ_ _=>rfl).cong (by show(bif decide ((S.size:Int)<N ())then _ else _)=_;rw[iY (by omega)];rfl) (λ_ _=>rfl) λ_ _ _ c hc=>⟨c,hc,λ_ h=>h⟩
   rcases aa hv with hv|⟨rfl,rfl⟩<;>rcases aa ak with ak|⟨rfl,rfl⟩
   ·exact bo a c v v' b az hv ak
   ·exact λJ ae=>H.dis _ k _ _ b (Ne.symm a9) hq U ⟨S,ah,a,v,hv,J⟩ ae
   ·exact λJ ae=>H.dis _ k _ _ b (Ne.symm a9) hq U ⟨S,ah,c,v',ak,ae⟩ J
   exact absurd rfl az
  ·trivial
  exact(H.blk i x A).mono Z rfl rfl (aq i e) (ab i e) λ_ _=>rfl
 ·have bh:∀ {i x},i≠q->i≠k->h[i]? =some x->ZC R i x b->(ZC R q (.fam z s N m g) b\/ZC R k (.gar s n1 f1) b)->False:=λbu bw A J V=>by
   rcases V with V|V
   ·exact H.dis _ _ _ _ b bu A hq J V
   exact H.dis _ _ _ _ b bw A U J V
  rcases am hi J with⟨rfl,V⟩|⟨e1,e2,A,ac⟩<;>rcases am hj ae with⟨rfl,bz⟩|⟨b9,bp,aj,ar⟩
  ·exact bc rfl
  ·exact bh b9 bp aj ar V
  ·exact bh e1 e2 A ac bz
  exact H.dis i j bi bj b bc A aj ac ar
 ·rcases am A J with⟨rfl,V|V⟩|⟨e1,e2,A,ac⟩
  ·exact H.tokG _ _ b hq rfl V o n
  ·exact H.tokG _ _ b U rfl V o n
  exact H.tokG i x b A bt ac o n
 refine⟨rfl,rfl,rfl,rfl,aI _,aI _,λ_ _=>rfl,λb o n U=>(aw b o n).2 U,λ_ _ _ _ _ _=>rfl,λ_ _ _=>rfl,λi x b A J=>.inr ?_⟩;rcases am A J with⟨rfl,V|V⟩|⟨e1,e2,A,ac⟩
 ·exact⟨_,_,hq,V,.inl rfl⟩
 ·exact⟨_,_,U,V,.inr (cD bg bx)⟩
 exact⟨_,x,A,ac,.inl rfl⟩
theorem HR.gar (H:HR G R h) {id s:Nat} {n0:Unit->Int} {f:(Unit->Int)->List AV} (hi:h[id]? =some (.gar s n0 f)) (I:Unit->Int) (f':(Unit->Int)->List AV) (S:Value) (w':World)
  (a9:n0 ()<=I ()) (ao:n0 ()=I ()->S=R.hv id)
  (az:w'.os=R.w.os) (aw:w'.tape=R.w.tape) (am:w'.output=R.w.output) (ar:R.w.heap.size<=w'.heap.size)
  (hh:∀b,b<R.w.heap.size->¬ZC R id (.gar s n0 f) b->w'.heap[b]? =R.w.heap[b]?)
  (au:∀A:RC,R.le A->A.w=w'->(I ()=0/\∃a:Option Addr,S= .slice a 0 0)\/
   ∃(b o len Y:Nat) (arr:Array Value) (ty:TypeId),I ()=(len:Int)/\len<=Y/\S= .slice (some ⟨b,o,none⟩) len Y/\w'.heap[b]? =some (.cells arr ty (0,0))/\o+Y*s<=arr.size/\
    ∀i:Nat,i<len->(f' (λ_=>(i:Int))).length=s/\∀j c,(f' (λ_=>(i:Int)))[j]? =some c->PR A.w A.ok c (arr.getD (o+i*s+j) undef))
  (ac:∀a n c,S= .slice (some a) n c->0<c->R.w.heap.size<=a.block\/ZC R id (.gar s n0 f) a.block):
  ∃A,A.w=w'/\A.hv id=S/\A.hw id=I ()/\A.m=R.m/\HR G A (h.set id (.gar s I f'))/\Xj R h A (h.set id (.gar s I f'))/\R.le A:=by
 have ai:id<R.m:=H.len▸(aE.1 hi).1;obtain⟨ah,_⟩:=H.blk id _ hi;have aq:∀b,ZC R id (.gar s n0 f) b↔(id<R.m/\∃V,h[id]? =some V/\ZaJ V=true/\ZC R id V b):=λb=>
  ⟨λhp=>⟨ai,_,hi,rfl,hp⟩,λ⟨_,V,J,_,U⟩=>by rw[hi]at J;cases J;exact U⟩
 have ae:∀b o n,R.ok b o n->¬ZC R id (.gar s n0 f) b:=λb o n Z=>((H.okd _ _ _).1 Z).2.2 id _ hi;obtain⟨A,a1,a2,a3,a4,a5,a6,a7,_⟩:=H.room id R.m (.gar s I f') (I ()) S w' (h.set id (.gar s I f')) (by rw[bP];exact H.len) (aI _) (λi x=>set_get)
  (λ_=>⟨_,hi,rfl,by rw[ah];exact a9,λe=>ao (ah.symm.trans e),.of (H.blk id _ hi).garNo⟩) (λb=>ZC R id (.gar s n0 f) b) aq az aw am ar hh
  (λb o n Z j _=>by
   simp only[bX]
   rw[hh b ((H.okd _ _ _).1 Z).1 (ae b o n Z)])
  (λA aj aa ak ab _=>by
   refine⟨ak,?_⟩;rcases au A aj aa with⟨J,a,U⟩|⟨b,o,len,Y,arr,ty,J,U,h3,h4,h5,h6⟩
   ·exact .inl ⟨J,a,ab.trans U⟩
   exact .inr ⟨b,o,len,Y,arr,ty,J,U,ab.trans h3,by rw[aa];exact h4,h5,h6⟩)
  (λA hv _ b ⟨a,n,c,J,hc,U⟩=>U▸ac a n c (hv.symm.trans J) hc)
  (λA hv b o n Z ⟨a,l,c,J,hc,U⟩=>by
   rcases ac a l c (hv.symm.trans J) hc with h3|h3
   ·have:=((H.okd _ _ _).1 Z).1;omega
   exact ae b o n Z (U▸h3)) rfl
 exact⟨A,a1,a3,a4,a2,a5,a6,a7⟩
theorem ZeN {s:Nat} {n0 m:Unit->Int} {f g:(Unit->Int)->List AV} {id:Nat} {x:Value} {at_:Array TypeId} {t t' e e' ty:TypeId} {j:TypeInfo} {z:Value}
  (H:HR G R h) (hi:h[id]? =some (.gar s n0 f)) (cq:Src P R s m g x)
  (h0:at_[0]? =some t) (h1:at_[1]? =some t') (hu:P.underlying t=some (.slice e)) (bg:P.underlying t'=some (.slice e')) (hj:P.info? e=some j) (hz:j.zero=some z) (cr:z.cells.size=s) (cz:j.size=s) (hb:j.bytes<=1000000)
  (dg:n0 ()+m ()<=1000000):
  ∃u I,(Builtin.append_ at_ ty #[R.hv id,x]).run P R.w= .ok u I.w/\HR G I (h.set id (.gar s (λ_=>n0 ()+m ()) (Z0 n0 f g)))/\Xj R h I (h.set id (.gar s (λ_=>n0 ()+m ()) (Z0 n0 f g)))/\R.le I/\VR I (.gsl id λ_=>n0 ()+m ()) u:=by
 have aw:id<R.m:=H.len▸(aE.1 hi).1;obtain⟨xa,nn,xc,dh,new,rfl,hm,di,dc,aj,az,bc,ah,a9⟩:=cq;subst cz;obtain⟨dk,ck⟩:=H.blk id _ hi;have ce:∀k,k<nn*j.size->k/j.size<nn/\k%j.size<j.size/\k/j.size*j.size+k%j.size=k:=λk J=>by
  have hs:0<j.size:=ep (λe=>by rw[e]at J;simp at J);exact⟨(dM hs).2 J,eJ _ hs,ff k j.size⟩
 have ac:∀ {i k c len:Nat},k<c->i<len->i*c+k<len*c:=λ{i k c len} J hi=>by
  have:(i+1)*c<=len*c:=aL _ hi;rw[bI]at this;omega
 have bk:∀(base:Option Addr) (S vc:Nat) (old:List Value),R.hv id= .slice base S vc->n0 ()=(S:Int)->(base=none->vc=0)->S<=vc->old.length=S*j.size->(∀w':World,w'.heap=R.w.heap->(Builtin.firstCells j.size S (.slice base S vc)).run P w'= .ok old.toArray w')->
   (∀i:Nat,i<S->(f (λ_=>(i:Int))).length=j.size/\∀k c,(f (λ_=>(i:Int)))[k]? =some c->PR R.w R.ok c (old.getD (i*j.size+k) undef))->¬S+nn<=vc->
   ∃u I,(Builtin.append_ at_ ty #[R.hv id,.slice xa nn xc]).run P R.w= .ok u I.w/\HR G I (h.set id (.gar j.size (λ_=>n0 ()+m ()) (Z0 n0 f g)))/\Xj R h I (h.set id (.gar j.size (λ_=>n0 ()+m ()) (Z0 n0 f g)))/\R.le I/\VR I (.gsl id λ_=>n0 ()+m ()) u:=by
  intro base S vc old hv hn dj bh bx cj bm bq;obtain⟨Z,d,aa,b9,c6,cg⟩:=JL (P:=P) (ty:=ty) h0 h1 hu bg hj hz hb base xa S vc xc nn old.toArray new.toArray R.w (λw' hw=>az w' hw) cj bq (by omega);have cn:(old.toArray++new.toArray++aa).size=Z*j.size:=by
   rw[eW,eW,c6,cr];simp only[dX,bx,aj];rw[<-dI,<-dI];congr 1;omega
  have bu:∀b,b<R.w.heap.size->(R.w.heap.push (.cells (old.toArray++new.toArray++aa) e))[b]? =R.w.heap[b]? :=λb hb=>by rw[bK,iN (by omega)]
  have bp:(R.w.heap.push (.cells (old.toArray++new.toArray++aa) e))[R.w.heap.size]? =some (.cells (old.toArray++new.toArray++aa) e (0,0)):=by simp
  have ai:∀k,(old.toArray++new.toArray++aa).getD k undef=if k<old.length then old.getD k undef else if k<old.length+new.length then new.getD (k-old.length) undef else aa.getD (k-old.length-new.length) undef:=λk=>by
   simp only[aJ,aA];by_cases h1:k<old.length
   ·rw[iP h1,dE,dG (by simpa using h1)];simp
   rw[iN h1];by_cases h2:k<old.length+new.length
   ·rw[iP h2,dG (by simpa using h2),dZ (by simpa using fC h1)];simp
   rw[iN h2,dZ (by simpa using fC h2)];simp[iR]
  have bo:∀I:RC,R.le I->∀i:Nat,i<S+nn->(Z0 n0 f g (λ_=>(i:Int))).length=j.size/\∀k c,(Z0 n0 f g (λ_=>(i:Int)))[k]? =some c->PR I.w I.ok c ((old.toArray++new.toArray++aa).getD (0+i*j.size+k) undef):=λI A i Y=>by
   by_cases hil:i<S
   ·rw[QW hn hil];refine⟨(bm i hil).1,λk c J=>?_⟩;have U:k<j.size:=by rw[<-(bm i hil).1];exact(aE.1 J).1
    have:=ac U hil;rw[dD,ai,iP (by omega)];exact((bm i hil).2 k c J).mono A.ok A.keep A.keepM
   rw[Qu hn (by omega)];refine⟨ah _ (by omega),λk c J=>?_⟩;have U:k<j.size:=by rw[<-ah (i-S) (by omega)];exact(aE.1 J).1
   have e1:=ac (i:=i) (len:=S+nn) U Y;have e2:=ac (i:=i-S) (len:=nn) U (by omega);have e3:S*j.size<=i*j.size:=aL _ (by omega);have e4:(i-S)*j.size=i*j.size-S*j.size:=gp ..;rw[dD,ai,iN (by omega),iP (by omega),bx,show i*j.size+k-S*j.size=(i-S)*j.size+k from by omega,aA,bc (i-S) k (by omega) U];exact(a9 (i-S) k c (by omega) J).mono A.ok A.keep A.keepM
  obtain⟨I,hw,am,aq,ar,H',hx,A⟩:=H.gar hi (λ_=>n0 ()+m ()) (Z0 n0 f g) (.slice (some ⟨R.w.heap.size,0,none⟩) (S+nn) Z) {R.w with drawn:=d,heap:=R.w.heap.push (.cells (old.toArray++new.toArray++aa) e)}
   (by show n0 ()<=n0 ()+m ();omega) (λe=>by have e:n0 ()=n0 ()+m ():=e;omega) rfl rfl rfl (by show _<=(R.w.heap.push _).size;simp) (λb hb _=>bu b hb)
   (λI A ct=>.inr ⟨R.w.heap.size,0,S+nn,Z,_,e,by show n0 ()+m ()=_;omega,b9,rfl,bp,by rw[cn];omega,λi Y=>bo I A i Y⟩)
   (λa k c he _=>by cases he;exact .inl (aI _))
  exact⟨_,I,by rw[hv,cg,hw],H',hx,A,.gsl _ _ _ _ _ (by rw[ar];exact aw) (by rw[aq];exact bS _) (λ_=>am.symm) ⟨by show n0 ()+m ()=_;omega,.inr ⟨_,_,rfl⟩⟩⟩
 have zero:∀a0:Option Addr,n0 ()=0->R.hv id= .slice a0 0 0->∃u I,(Builtin.append_ at_ ty #[R.hv id,.slice xa nn xc]).run P R.w= .ok u I.w/\HR G I (h.set id (.gar j.size (λ_=>n0 ()+m ()) (Z0 n0 f g)))/\Xj R h I (h.set id (.gar j.size (λ_=>n0 ()+m ()) (Z0 n0 f g)))/\R.le I/\VR I (.gsl id λ_=>n0 ()+m ()) u:=by
  intro a0 bw ab;by_cases hnn:nn=0
  ·subst hnn;obtain⟨I,hw,am,aq,ar,H',hx,A⟩:=H.gar hi (λ_=>n0 ()+m ()) (Z0 n0 f g) (.slice a0 0 0) R.w
    (by show n0 ()<=n0 ()+m ();omega) (λ_=>ab.symm) rfl rfl rfl (aI _) (λ_ _ _=>rfl) (λI _ _=>.inl ⟨by show n0 ()+m ()=0;omega,a0,rfl⟩) (λa k c he h0=>by cases he;omega)
   refine⟨.slice a0 0 0,I,?_,H',hx,A,.gsl _ _ _ _ _ (by rw[ar];exact aw) (by rw[aq];exact bS _) (λ_=>am.symm) ⟨by show n0 ()+m ()=_;omega,.inl rfl⟩⟩;rw[ab,hw];have bz:new=[]:=cT (by rw[aj,eA]);exact Qo h0 h1 hu bg hj a0 xa 0 0 xc 0 new.toArray R.w R.w (az _ rfl) (aI _) (λa ha=>by rw[bz];rfl) (λ_=>rfl)
  exact bk a0 0 0 [] ab (by omega) (λ_=>rfl) (aI _) (by simp) (λw' _=>by
   cases a0 with
   |none=>rfl
   |some a0=>exact Zaa w' a0 _ 0 0) (λi hi=>by omega) (by omega)
 rcases ck with⟨bw,a0,ab⟩|⟨b,o,len,Z,arr,ao,hn,bh,ab,au,cf,ae⟩
 ·exact zero a0 bw ab
 rcases cK Z with ak|ak
 ·exact zero (some ⟨b,o,none⟩) (by omega) (by rw[ab,ak,show len=0 by omega])
 have ba:ZC R id (.gar j.size n0 f) b:=⟨_,_,_,ab,ak,rfl⟩;have da:len*j.size<=Z*j.size:=aL _ bh;by_cases hrm:len+nn<=Z
 ·have db:(len+nn)*j.size<=Z*j.size:=aL _ hrm;have c9:(len+nn)*j.size=len*j.size+nn*j.size:=dI ..;have ca:∀v∈new,v.oneCell'=true:=λv cw=>by
   obtain⟨k,J,rfl⟩:=ei cw;obtain⟨f1,f2,f3⟩:=ce k (aj▸J);have e1:=bc _ _ f1 f2;rw[f3,aD J,aC]at e1;rw[e1];exact(a9 _ _ _ f1 (aD (by rw[ah _ f1];exact f2))).one
  let V:=(arr.toList.take (o+len*j.size+0)++new++arr.toList.drop (o+len*j.size+0+new.length)).toArray;have cu:=run_storeCells_at P b (o+len*j.size) ao new 0 arr R.w au (by rw[aj];omega) ca;have bl:∀b',b'≠b->(R.w.setRow b V).heap[b']? =R.w.heap[b']? :=λb' hb=>setRow_other R.w b b' _ hb;have bt:(R.w.setRow b V).heap[b]? =some (.cells V ao (0,0)):=setRow_heap R.w b arr _ ao _ au;have ci:V.size=arr.size:=by
   simp only[V,dX,bA,bW,dL,cX,aj];omega
  have ai:∀k,V.getD k undef=if o+len*j.size<=k/\k<o+len*j.size+new.length then new.getD (k-(o+len*j.size)) undef else arr.getD k undef:=λk=>
   XR arr new (o+len*j.size+0) k (by rw[aj];omega)
  have bo:∀I:RC,R.le I->∀i:Nat,i<len+nn->(Z0 n0 f g (λ_=>(i:Int))).length=j.size/\∀k c,(Z0 n0 f g (λ_=>(i:Int)))[k]? =some c->PR I.w I.ok c (V.getD (o+i*j.size+k) undef):=λI A i Y=>by
   by_cases hil:i<len
   ·rw[QW hn hil];refine⟨(ae i hil).1,λk c J=>?_⟩;have U:k<j.size:=by rw[<-(ae i hil).1];exact(aE.1 J).1
    have:=ac U hil;rw[ai,iN (by omega)];exact((ae i hil).2 k c J).mono A.ok A.keep A.keepM
   rw[Qu hn (by omega)];refine⟨ah _ (by omega),λk c J=>?_⟩;have U:k<j.size:=by rw[<-ah (i-len) (by omega)];exact(aE.1 J).1
   have e1:=ac (i:=i) (len:=len+nn) U Y;have e2:=ac (i:=i-len) (len:=nn) U (by omega);have e3:len*j.size<=i*j.size:=aL _ (by omega);have e4:(i-len)*j.size=i*j.size-len*j.size:=gp ..;rw[ai,iP (by rw[aj];omega),show o+i*j.size+k-(o+len*j.size)=(i-len)*j.size+k from by omega,aA,bc (i-len) k (by omega) U];exact(a9 (i-len) k c (by omega) J).mono A.ok A.keep A.keepM
  obtain⟨I,hw,am,aq,ar,H',hx,A⟩:=H.gar hi (λ_=>n0 ()+m ()) (Z0 n0 f g) (.slice (some ⟨b,o,none⟩) (len+nn) Z) (R.w.setRow b V)
   (by show n0 ()<=n0 ()+m ();omega) (λe=>by have e:n0 ()=n0 ()+m ():=e;rw[ab,show nn=0 from by omega,dS]) rfl rfl rfl (by simp[World.setRow]) (λb' _ cy=>bl b' (λe=>cy (e▸ba)))
   (λI A ct=>.inr ⟨b,o,len+nn,Z,V,ao,by show n0 ()+m ()=_;omega,hrm,rfl,bt,by rw[ci];exact cf,λi Y=>bo I A i Y⟩)
   (λa k c he _=>by cases he;exact .inr ba)
  refine⟨_,I,?_,H',hx,A,.gsl _ _ _ _ _ (by rw[ar];exact aw) (by rw[aq];exact bS _) (λ_=>am.symm) ⟨by show n0 ()+m ()=_;omega,.inr ⟨_,_,rfl⟩⟩⟩;rw[ab,hw]
  exact Qo h0 h1 hu bg hj _ xa len Z xc nn new.toArray R.w _ (az _ rfl) hrm (λa ha=>by
   cases ha;rw[QL]
   exact cu) (λh=>by cases h)
 have c8:∀k,k<len*j.size->o+k<arr.size:=λk J=>by omega
 refine bk (some ⟨b,o,none⟩) len Z ((aP (len*j.size)).map λk=>arr.getD (o+k) undef) ab hn (λh=>by cases h) bh (by simp) (λw' hw=>?_) (λi Y=>⟨(ae i Y).1,λk c J=>?_⟩) hrm
 ·have:=run_loadCells (P:=P) w' ⟨b,o,none⟩ (len*j.size) (λk=>arr.getD (o+k) undef) (λk J=>by
   rw[QL];have:w'.heap[b]? =some (.cells arr ao (0,0)):=by rw[hw];exact au
   exact Z1 this (c8 k J))
  simpa [Builtin.firstCells]using this
 have U:k<j.size:=by rw[<-(ae i Y).1];exact(aE.1 J).1
 have:=ac U Y;rw[aA,aQ,cQ (by omega)];show PR R.w R.ok c (arr.getD (o+(i*j.size+k)) undef);rw[<-dH];exact(ae i Y).2 k c J
end
end Vm
namespace Vm
open Go
def ZlG (lt:Unit->Bool):AV->AV->Option AV
 |.int k a,.int k' c=>if Zaj k k' then some (.int k λ_=>bif lt ()then a ()else c ())else none
 |.bool a,.bool c=>some (.bool λ_=>bif lt ()then a ()else c ())
 |.isl s n f .none,.isl s' m g .none=>if ZI s s' then some (.isl s (λ_=>bif lt ()then n ()else m ()) (λe=>bif lt ()then f e else g e) .none)else none
 |.isl _ _ _ .nil,.isl s' m g .none=>some (.isl s' (λ_=>bif lt ()then 0 else m ()) g .none)
 |_,_=>none
def QA (lt:Unit->Bool):List AV->List AV->Option (List AV)
 |[],[]=>some []
 |a::r,b::s=>(match ZlG lt a b,QA lt r s with
  |some x,some l=>some (x::l)
  |_,_=>none)
 |_,_=>none
instance decRow (m:Int) (f:Nat->Bool):Decidable (∀i:Nat,(i:Int)<m->f i=true):=decidable_of_iff ((aP m.toNat).all f=true) (by
 rw[bL]
 exact⟨λh i hi=>h i (bV.2 (by omega)),λh i hi=>h i (by have:=bV.1 hi;omega)⟩)
def Zqo (e v:Unit->Int):Nat->List (Unit->Int)->List AV
 |_,[]=>[]
 |i,a::r=>.int .i64 (λ_=>bif decide (e ()=(i:Int))then v ()else a ())::Zqo e v (i+1) r
def Zqp (e:Unit->Int) (v:Unit->Bool):Nat->List (Unit->Bool)->List AV
 |_,[]=>[]
 |i,a::r=>.bool (λ_=>bif decide (e ()=(i:Int))then v ()else a ())::Zqp e v (i+1) r
def Zvc (cs:List AV) (e:Unit->Int) (x:AV):Option (List AV):=match x with
 |.int .i64 v=>(match Zh7 cs with
  |some l=>some (Zqo e v 0 l)
  |none=>none)
 |.bool v=>(match ZeX cs with
  |some l=>some (Zqp e v 0 l)
  |none=>none)
 |_=>none
theorem Zj5 (e v:Unit->Int) (q:Nat) (A:e ()=(q:Int)):∀(l:List (Unit->Int)) (k:Nat),Zqo e v k l=if k<=q then((l.map (AV.int .i64)).set (q-k) (.int .i64 v))else l.map (AV.int .i64)
 |[],k=>by split<;>simp[Zqo]
 |a::r,k=>by
  have G:=Zj5 e v q A r (k+1);simp only[Zqo,G,A];by_cases hk:k<=q
  ·by_cases hq:q=k
   ·subst hq;rw[iP (aI _),iN (by omega),fb];simp
   rw[iP hk,iP (by omega),show q-k=(q-(k+1))+1 by omega];have:¬((q:Int)=(k:Int)):=by omega
   simp[this]
  rw[iN hk,iN (by omega)];have:¬((q:Int)=(k:Int)):=by omega
  simp[this]
theorem Zj6 (e:Unit->Int) (v:Unit->Bool) (q:Nat) (A:e ()=(q:Int)):∀(l:List (Unit->Bool)) (k:Nat),Zqp e v k l=if k<=q then((l.map AV.bool).set (q-k) (.bool v))else l.map AV.bool
 |[],k=>by split<;>simp[Zqp]
 |a::r,k=>by
  have G:=Zj6 e v q A r (k+1);simp only[Zqp,G,A];by_cases hk:k<=q
  ·by_cases hq:q=k
   ·subst hq;rw[iP (aI _),iN (by omega),fb];simp
   rw[iP hk,iP (by omega),show q-k=(q-(k+1))+1 by omega];have:¬((q:Int)=(k:Int)):=by omega
   simp[this]
  rw[iN hk,iN (by omega)];have:¬((q:Int)=(k:Int)):=by omega
  simp[this]
theorem ZsJ {cs A:List AV} {e:Unit->Int} {x:AV} (h:Zvc cs e x=some A) {q:Nat} (I:e ()=(q:Int)):A=cs.set q x/\ZlZ x=true/\x.cellsOf=[x]:=by
 unfold Zvc at h;split at h
 ·split at h
  ·rename_i v _ l G;cases h;obtain⟨J,H⟩:=ZeF G;have:cs=l.map (AV.int .i64):=eB λi=>by
    rw[aQ];by_cases hi:i<l.length
    ·rw[H i hi,aD hi];rfl
    rw[cE (by omega),cE (by omega)];rfl
   rw[Zj5 e v q I,iP (aT _),this];exact⟨rfl,rfl,rfl⟩
  cases h
 ·split at h
  ·rename_i v _ l G;cases h;obtain⟨J,H⟩:=ZdB G;have:cs=l.map AV.bool:=eB λi=>by
    rw[aQ];by_cases hi:i<l.length
    ·rw[H i hi,aD hi];rfl
    rw[cE (by omega),cE (by omega)];rfl
   rw[Zj6 e v q I,iP (aT _),this];exact⟨rfl,rfl,rfl⟩
  cases h
 cases h
def ZcX (T:TI) (id s:Nat) (e:Unit->Int) (off:Nat) (x:AV) (h:List Zh):Option (AV×List Zh×Cd):=match h[id]? with
 |some (.arr s' m f)=>if ZI s s'&&plain x&&ZI x.cellsOf.length T.size&&ZI (f e).length s&&Qb (off+T.size) s&&(x.cellsOf.map purify).all XT then
   some (.undef,h.set id (.arr s m λG=>(QA (λ_=>decide (G ()=e ())) (putC (f e) off (x.cellsOf.map purify)) (f G)).getD []),
    [dd λ_=>0<=e ()/\e ()<m (),dd λ_=>∀i:Nat,(i:Int)<m ()->(QA (λ_=>decide ((i:Int)=e ())) (putC (f e) off (x.cellsOf.map purify)) (f λ_=>(i:Int))).isSome=true])else none
 |some (.cells cs)=>if ZI s 1&&ZI off 0&&ZI T.size 1 then(match Zvc cs e x with
  |some A=>some (.undef,h.set id (.cells A),bnd e cs.length)
  |none=>none)else none
 |_=>none
def ZcS (T:TI) (id s:Nat) (n e:Unit->Int) (off:Nat) (x:AV) (h:List Zh):Option (AV×List Zh×Cd):=match h[id]? with
 |some (.gar s' m f)=>if ZI s s'&&plain x&&ZI x.cellsOf.length T.size&&Qb (off+T.size) s&&(x.cellsOf.map purify).all XT then
   some (.undef,h.set id (.gar s m λA=>putC (f A) off ((QA (λ_=>decide (A ()=e ())) (x.cellsOf.map purify) (((f A).drop off).take T.size)).getD [])),
    [dd λ_=>n ()=m ()/\0<=e ()/\e ()<m (),dd λ_=>∀i:Nat,(i:Int)<m ()->(QA (λ_=>decide ((i:Int)=e ())) (x.cellsOf.map purify) (((f λ_=>(i:Int)).drop off).take T.size)).isSome=true])else none
 |_=>none
def Jl (T:TI) (z:Option Value) (n c:AV) (h:List Zh):Option (AV×List Zh×Cd):=match T.k,n,c,z with
 |.slice _ s b,.int _ x,.int _ y,some z=>if ZI z.cells.size s&&Qb b 1000000&&((XK z).cellsOf.map purify).all XT then
   some (.msl h.length s (λ_=>0) x x,h++[.arr s x λ_=>(XK z).cellsOf.map purify],[dd λ_=>0<=x ()/\x ()=y ()/\x ()<=1000000])else none
 |_,_,_,_=>none
def Zg8 (z:Option Value) (s0:Nat) (x:AV) (h:List Zh):Option (AV×List Zh×Cd):=match x,z with
 |.msl id s o n _,some z=>if ZI s s0 then(match h[id]? with
  |some (.arr s' m f)=>if ZI s s'&&ZI z.cells.size s&&((XK z).cellsOf.map purify).all XT then
    some (.undef,h.set id (.arr s m λe=>(QA (λ_=>decide (o ()<=e ()/\e ()<o ()+n ())) ((XK z).cellsOf.map purify) (f e)).getD []),
    [dd λ_=>0<=o ()/\o ()+n ()<=m (),dd λ_=>∀i:Nat,(i:Int)<m ()->(QA (λ_=>decide (o ()<=(i:Int)/\(i:Int)<o ()+n ())) ((XK z).cellsOf.map purify) (f λ_=>(i:Int))).isSome=true])else none
  |_=>none)else none
 |_,_=>none
section
variable {P:Program} {R:RC} {G:Nat->Nat->Nat->Prop} {h:List Zh}
structure Mx (lt:Unit->Bool) (a c x:AV):Prop where
 t:lt ()=true->∀ {w:World} {ok:Nat->Nat->Nat->Prop} {u:Value},PR w ok a u->PR w ok x u
 f:lt ()=false->∀ {w:World} {ok:Nat->Nat->Nat->Prop} {u:Value},PR w ok c u->PR w ok x u
 vt:lt ()=true->∀ {R:RC} {u:Value},VR R a u->VR R x u
 vf:lt ()=false->∀ {R:RC} {u:Value},VR R c u->VR R x u
theorem ZsR {lt:Unit->Bool} {a c x:AV} (h:ZlG lt a c=some x):Mx lt a c x:=by
 unfold ZlG at h;split at h
 ·rename_i k p k' q;split at h
  ·rename_i H;have H:=ZeE H;subst H;cases h;refine⟨λA=>?_,λA=>?_,λA=>?_,λA=>?_⟩
   ·have:(λ_:Unit=>bif lt ()then p ()else q ())=p:=funext λ_=>by rw[A];rfl
    rw[this];intros;assumption
   ·have:(λ_:Unit=>bif lt ()then p ()else q ())=q:=funext λ_=>by rw[A];rfl
    rw[this];intros;assumption
   ·have:(λ_:Unit=>bif lt ()then p ()else q ())=p:=funext λ_=>by rw[A];rfl
    rw[this];intros;assumption
   have:(λ_:Unit=>bif lt ()then p ()else q ())=q:=funext λ_=>by rw[A];rfl
   rw[this];intros;assumption
  cases h
 ·rename_i p q;cases h;refine⟨λA=>?_,λA=>?_,λA=>?_,λA=>?_⟩
  ·have:(λ_:Unit=>bif lt ()then p ()else q ())=p:=funext λ_=>by rw[A];rfl
   rw[this];intros;assumption
  ·have:(λ_:Unit=>bif lt ()then p ()else q ())=q:=funext λ_=>by rw[A];rfl
   rw[this];intros;assumption
  ·have:(λ_:Unit=>bif lt ()then p ()else q ())=p:=funext λ_=>by rw[A];rfl
   rw[this];intros;assumption
  have:(λ_:Unit=>bif lt ()then p ()else q ())=q:=funext λ_=>by rw[A];rfl
  rw[this];intros;assumption
 ·rename_i s n f V m g;split at h
  ·rename_i H;have H:=ZD H;subst H;cases h;refine⟨λA=>?_,λA=>?_,λA=>?_,λA=>?_⟩
   ·have G:(λ_:Unit=>bif lt ()then n ()else m ())=n:=funext λ_=>by rw[A];rfl
    have I:(λe:Unit->Int=>bif lt ()then f e else g e)=f:=funext λ_=>by rw[A];rfl
    rw[G,I];intros;assumption
   ·have G:(λ_:Unit=>bif lt ()then n ()else m ())=m:=funext λ_=>by rw[A];rfl
    have I:(λe:Unit->Int=>bif lt ()then f e else g e)=g:=funext λ_=>by rw[A];rfl
    rw[G,I];intros;assumption
   ·have G:(λ_:Unit=>bif lt ()then n ()else m ())=n:=funext λ_=>by rw[A];rfl
    have I:(λe:Unit->Int=>bif lt ()then f e else g e)=f:=funext λ_=>by rw[A];rfl
    rw[G,I];intros;assumption
   have G:(λ_:Unit=>bif lt ()then n ()else m ())=m:=funext λ_=>by rw[A];rfl
   have I:(λe:Unit->Int=>bif lt ()then f e else g e)=g:=funext λ_=>by rw[A];rfl
   rw[G,I];intros;assumption
  cases h
 ·rename_i Z n f V m g;cases h;have J:lt ()=true->∀ {w:World} {ok:Nat->Nat->Nat->Prop} {u:Value},PR w ok (.isl Z n f .nil) u->PR w ok (.isl V (λ_=>bif lt ()then 0 else m ()) g .none) u:=λA w ok u U=>by
   have Y:(λ_:Unit=>bif lt ()then(0:Int)else m ()) ()=0:=by
    show(bif lt ()then(0:Int)else m ())=0;rw[A];rfl
   cases U with
   |isl0 _ _ _ _ hz S=>exact .isl0 _ _ _ _ Y rfl
   |islE _ _ _ _ a hz S=>exact .islE _ _ _ _ a Y (.inl rfl)
   |isl _ _ _ _ b o len aa us hn hc S=>rcases S with h|h<;>cases h
  have G:lt ()=false->(λ_:Unit=>bif lt ()then(0:Int)else m ())=m:=λA=>funext λ_=>by rw[A];rfl
  refine⟨λA=>J A,λA=>?_,λA R u hv=>?_,λA=>?_⟩
  ·rw[G A];intros;assumption
  ·cases hv with
   |pure _ _ U=>exact .pure _ _ (J A U)
  rw[G A];intros;assumption
 cases h
theorem Yh {lt:Unit->Bool}:∀ {new old l:List AV},QA lt new old=some l->new.length=l.length/\old.length=l.length/\
  ∀(j:Nat) (x:AV),l[j]? =some x->∃a c,new[j]? =some a/\old[j]? =some c/\Mx lt a c x
 |[],[],l,h=>by
  simp only[QA,aC]at h;subst h;exact⟨rfl,rfl,λj x A=>by simp at A⟩
 |[],_::_,l,h=>by simp[QA]at h
 |_::_,[],l,h=>by simp[QA]at h
 |a::r,b::s,l,h=>by
  simp only[QA]at h;split at h;case h_2=>cases h
  rename_i x U S G;simp only[aC]at h;subst h;obtain⟨I,H,J⟩:=Yh G;refine⟨by simp[I],by simp[H],λj y A=>?_⟩;cases j with
  |zero=>
   simp only[bJ,aC]at A;subst A;exact⟨a,b,rfl,rfl,ZsR S⟩
  |succ j=>exact J j y (by simpa using A)
theorem HR.arrPut (H:HR G R h) {id s:Nat} {m:Unit->Int} {f:(Unit->Int)->List AV} (hi:h[id]? =some (.arr s m f)) (A:Nat) (vs:List Value) (Y:(Unit->Int)->List AV)
  (ab:(A+vs.length:Nat)<=(m ()).toNat*s) (ac:∀v∈vs,v.oneCell'=true) (V:∀i:Nat,(i:Int)<m ()->(Y (λ_=>(i:Int))).length=s)
  (hf:∀i:Nat,(i:Int)<m ()->∀j c,(Y (λ_=>(i:Int)))[j]? =some c->if A<=i*s+j/\i*s+j<A+vs.length then PR R.w R.ok c (vs.getD (i*s+j-A) undef)else∃Z,(f (λ_=>(i:Int)))[j]? =some Z/\∀v,PR R.w R.ok Z v->PR R.w R.ok c v):
  ∃S,(storeCells ⟨(R.α id).b,(R.α id).o+A,none⟩ vs).run P R.w= .ok () S.w/\HR G S (h.set id (.arr s m Y))/\Xj R h S (h.set id (.arr s m Y))/\R.le S:=by
 obtain⟨arr,ty,len,h1,hn,h2,h3⟩:=H.blk id _ hi;have ah:(m ()).toNat=len:=by omega
 rw[ah]at ab;have ae:=run_storeCells_at P (R.α id).b ((R.α id).o+A) ty vs 0 arr R.w h1 (by omega) ac;let J:=(arr.toList.take ((R.α id).o+A+0)++vs++arr.toList.drop ((R.α id).o+A+0+vs.length)).toArray
 obtain⟨S,hw,hm,U,H',hx,I⟩:=H.upd hi rfl (blk':=.arr s m Y) rfl (R.w.setRow (R.α id).b J) rfl rfl rfl (by simp[World.setRow]) (λb hb=>setRow_other R.w (R.α id).b b _ hb) (λS I U hw=>by
  refine⟨J,ty,len,by rw[hw,U];exact setRow_heap R.w _ arr _ ty _ h1,hn,?_,λi aa=>⟨V i (by omega),λj c hj=>?_⟩⟩
  ·rw[U];simp only[J,dX,bA,bW,dL,cX];omega
  have aj:j<s:=by rw[<-V i (by omega)];exact(aE.1 hj).1
  have ai:i*s+s<=len*s:=by
   have:(i+1)*s<=len*s:=aL s aa;rwa [bI]at this
  rw[U,XR arr vs ((R.α id).o+A+0) _ (by omega)];have:=hf i (by omega) j c hj;by_cases hc:A<=i*s+j/\i*s+j<A+vs.length
  ·rw[iP hc]at this;rw[iP (by omega),show(R.α id).o+i*s+j-((R.α id).o+A+0)=i*s+j-A from by omega];exact this.mono I.ok I.keep I.keepM
  rw[iN hc]at this;rw[iN (by omega)];obtain⟨Z,t1,t2⟩:=this
  exact(t2 _ ((h3 i aa).2 j Z t1)).mono I.ok I.keep I.keepM)
 exact⟨S,by rw[ae,hw],H',hx,I⟩
theorem Zdw {x:AV} {u:Value} (J:VR R x u) (A:plain x=true) (G:(x.cellsOf.map purify).all XT=true):
  x.cellsOf.length=u.cells.toList.length/\∀j c,(x.cellsOf.map purify)[j]? =some c->PR R.w R.ok c (u.cells.toList.getD j undef):=by
 have hr:=Jr J (λg y e=>by rw[e]at A;cases A) (λe=>by rw[e]at A;cases A);refine⟨by rw[hr.1];simp,λj c H=>?_⟩;rw[aQ,aG]at H;obtain⟨y,I,rfl⟩:=H;have hv:=hr.2 j y I;rw[bL]at G;have:=hv.purify (G _ (bC.2 ⟨y,bf I,rfl⟩));simpa using this
theorem Zgq {l:List AV} {vs:List Value} (G:l.length=vs.length) (h:∀j c,l[j]? =some c->PR R.w R.ok c (vs.getD j undef)):∀v∈vs,v.oneCell'=true:=λv hv=>by
 obtain⟨j,A,rfl⟩:=ei hv;have:=h j l[j] (aD (by omega));rw[aA,aD A]at this;exact this.one
theorem ZkZ {t:TypeId} {T:TI} (hT:ZF P t=some T) (H:HR G R h) {id s off:Nat} {e:Unit->Int} {a x:Value} {I v:AV} {h':List Zh} {c:Cd} (ha:VR R (.aptr id s e off) a) (hx:VR R I x)
  (hv:ZcX T id s e off I h=some (v,h',c)) (hc:ZW c):v= .undef/\∃S,(ez t a x).run P R.w= .ok () S.w/\HR G S h'/\Xj R h S h'/\R.le S:=by
 unfold ZcX at hv;split at hv;case h_3=>cases hv
 case h_2=>
  rename_i cs hi;split at hv;case isFalse=>cases hv
  rename_i J;simp only[aU]at J;obtain⟨⟨U,e2⟩,V⟩:=J;have U:=ZD U;have e2:=ZD e2;have V:=ZD V;subst U e2;split at hv;case h_2=>cases hv
  rename_i bh ak;cases hv;obtain⟨r1,r2⟩:=(Cn.out (hc _ (aN.2 rfl)));cases ha with
  |pure _ _ Y=>cases Y
  |aptr _ _ _ _ i az he=>
   have bg:i<cs.length:=by omega
   obtain⟨rfl,A,a9⟩:=ZsJ ak he;have hr:=Jr hx (λg y e=>by rw[e]at A;cases A) (λe=>by rw[e]at A;cases A);rw[a9]at hr;obtain⟨ti,d,ab,_,ah,_,_,_⟩:=XE hT;obtain⟨S,aa,hm,bl,H',am,ae⟩:=H.store (P:=P) (off:=i) hi [I] x.cells.toList (by rw[hr.1];simp) (by simp;omega) (λa ha=>by simp at ha;subst ha;exact A) (λj c hj=>by simpa using hr.2 j c hj);refine⟨rfl,S,?_,H',am,ae⟩;simp only[ez,cR,aR,bD,aH,storeVar,Z3 ab];rw[iN (by have:=hr.1;simp only[List.length_singleton]at this;omega)];rw[Nat.mul_one,dS];exact aa
 rename_i s' m f hi;split at hv;case isFalse=>cases hv
 rename_i J;simp only[aU]at J;obtain⟨⟨⟨⟨⟨U,e2⟩,V⟩,e4⟩,e5⟩,e6⟩:=J;have U:=ZD U;subst U;have V:=ZD V;have e4:=ZD e4;have e5:=Q8 e5;simp only[aC,aK]at hv;obtain⟨rfl,rfl,rfl⟩:=hv;obtain⟨bm,bk⟩:=(Cn.out (hc _ (aW ..)));have ai:=(Cn.out (hc _ (aS _ (aN.2 rfl))));obtain⟨hl,Y⟩:=Zdw hx e2 e6;obtain⟨i0,d,ab,_,ah,_,_,_⟩:=XE hT;cases ha with
 |pure _ _ Y=>cases Y
 |aptr _ _ _ _ i az he=>
 obtain⟨arr,ty,len,h1,hn,h2,h3⟩:=H.blk id _ hi;have aw:i<len:=by omega
 have au:f e=f (λ_=>(i:Int)):=congrArg f (funext λ_=>he);have ba:i*s+s<=len*s:=by
  have:(i+1)*s<=len*s:=aL s aw;rwa [bI]at this
 have ao:(I.cellsOf.map purify).length=x.cells.toList.length:=by rw[aX];exact hl
 refine⟨rfl,?_⟩;have ac:∀k:Nat,(k:Int)<m ()->∃row,QA (λ_=>decide ((k:Int)=e ())) (putC (f e) off (I.cellsOf.map purify)) (f λ_=>(k:Int))=some row:=λk hk=>dY.1 (ai k hk);obtain⟨S,aa,H',ar,ae⟩:=H.arrPut (P:=P) hi (i*s+off) x.cells.toList (λe'=>(QA (λ_=>decide (e' ()=e ())) (putC (f e) off (I.cellsOf.map purify)) (f e')).getD [])
  (by rw[show(m ()).toNat=len from by omega];omega) (Zgq ao Y) (λk hk=>by
   obtain⟨row,hr⟩:=ac k hk;simp only[hr,cA];obtain⟨g1,_,_⟩:=Yh hr;rw[<-g1,Ye]
   exact e4) (λk hk j c hj=>by
   obtain⟨row,hr⟩:=ac k hk;simp only[hr,cA]at hj;obtain⟨g1,g2,g3⟩:=Yh hr;obtain⟨a1,c1,Z,n2,mx⟩:=g3 j c hj;have bc:j<s:=by rw[<-e4,<-Ye (I.cellsOf.map purify) (f e) off];exact(aE.1 Z).1
   by_cases hki:k=i
   ·subst hki;have hd:decide ((k:Int)=e ())=true:=iZ he.symm;rw[Za3 _ _ _ _ (by rw[aX,V,e4];exact e5)]at Z;by_cases hin:off<=j/\j<off+(I.cellsOf.map purify).length
    ·rw[iP hin]at Z;rw[iP (by omega),show k*s+j-(k*s+off)=j-off from by omega];exact mx.t hd (Y _ _ Z)
    rw[iN hin]at Z;rw[iN (by omega)];exact⟨a1,by rw[<-au];exact Z,λv h=>mx.t hd h⟩
   have hd:decide ((k:Int)=e ())=false:=iY (by omega)
   rw[iN (by
    rcases eO hki with aj|aq
    ·have:(k+1)*s<=i*s:=aL s aj;rw[bI]at this;omega
    have:(i+1)*s<=k*s:=aL s aq;rw[bI]at this
    omega)]
   exact⟨c1,n2,λv h=>mx.f hd h⟩)
 refine⟨S,?_,H',ar,ae⟩;simp only[ez,cR,aR,bD,aH,storeVar,Z3 ab];rw[iN (by rw[<-ah,<-V,hl];simp),dH];exact aa
theorem HR.garPut (H:HR G R h) {id s:Nat} {m:Unit->Int} {f:(Unit->Int)->List AV} (hi:h[id]? =some (.gar s m f)) {b o len cap:Nat} {arr:Array Value} {ty:TypeId} (aj:0<len) (hn:m ()=(len:Int)) (ac:len<=cap) (aa:R.hv id= .slice (some ⟨b,o,none⟩) len cap) (h1:R.w.heap[b]? =some (.cells arr ty (0,0))) (h2:o+cap*s<=arr.size)
  (h3:∀i:Nat,i<len->(f (λ_=>(i:Int))).length=s/\∀j c,(f (λ_=>(i:Int)))[j]? =some c->PR R.w R.ok c (arr.getD (o+i*s+j) undef)) (A:Nat) (vs:List Value) (V:(Unit->Int)->List AV)
  (am:A+vs.length<=len*s) (ae:∀v∈vs,v.oneCell'=true) (U:∀i:Nat,(i:Int)<m ()->(V (λ_=>(i:Int))).length=s)
  (hf:∀i:Nat,(i:Int)<m ()->∀j c,(V (λ_=>(i:Int)))[j]? =some c->if A<=i*s+j/\i*s+j<A+vs.length then PR R.w R.ok c (vs.getD (i*s+j-A) undef)else∃Z,(f (λ_=>(i:Int)))[j]? =some Z/\∀v,PR R.w R.ok Z v->PR R.w R.ok c v):
  ∃S,(storeCells ⟨b,o+A,none⟩ vs).run P R.w= .ok () S.w/\HR G S (h.set id (.gar s m V))/\Xj R h S (h.set id (.gar s m V))/\R.le S:=by
 have ak:len*s<=cap*s:=aL s ac;have ah:=run_storeCells_at P b (o+A) ty vs 0 arr R.w h1 (by omega) ae;have Y:ZC R id (.gar s m f) b:=⟨_,_,_,aa,by omega,rfl⟩;let J:=(arr.toList.take (o+A+0)++vs++arr.toList.drop (o+A+0+vs.length)).toArray
 obtain⟨S,hw,au,aq,ar,H',hx,I⟩:=H.gar hi m V (R.hv id) (R.w.setRow b J) (bS _) (λ_=>rfl) rfl rfl rfl (by simp[World.setRow]) (λb' _ ai=>setRow_other R.w b b' _ (λe=>ai (e▸Y))) (λS I hw=>by
  refine .inr ⟨b,o,len,cap,J,ty,hn,ac,aa,setRow_heap R.w _ arr _ ty _ h1,?_,λi ab=>⟨U i (by omega),λj c hj=>?_⟩⟩
  ·simp only[J,dX,bA,bW,dL,cX];omega
  ·have aw:j<s:=by rw[<-U i (by omega)];exact(aE.1 hj).1
   have ao:i*s+s<=len*s:=by
    have:(i+1)*s<=len*s:=aL s ab;rwa [bI]at this
   rw[XR arr vs (o+A+0) _ (by omega)];have:=hf i (by omega) j c hj;by_cases hc:A<=i*s+j/\i*s+j<A+vs.length
   ·rw[iP hc]at this;rw[iP (by omega),show o+i*s+j-(o+A+0)=i*s+j-A from by omega];exact this.mono I.ok I.keep I.keepM
   rw[iN hc]at this;rw[iN (by omega)];obtain⟨Z,t1,t2⟩:=this
   exact(t2 _ ((h3 i ab).2 j Z t1)).mono I.ok I.keep I.keepM)
  (λa n c e h0=>.inr ⟨a,n,c,e,h0,rfl⟩)
 exact⟨S,by rw[ah,hw],H',hx,I⟩
theorem Zkz {t:TypeId} {T:TI} (hT:ZF P t=some T) (H:HR G R h) {id s off:Nat} {n e:Unit->Int} {a x:Value} {V v:AV} {h':List Zh} {c:Cd} (ha:VR R (.gptr id s n e off) a) (hx:VR R V x)
  (hv:ZcS T id s n e off V h=some (v,h',c)) (hc:ZW c):v= .undef/\∃S,(ez t a x).run P R.w= .ok () S.w/\HR G S h'/\Xj R h S h'/\R.le S:=by
 unfold ZcS at hv;split at hv;case h_2=>cases hv
 rename_i s' m f hi;split at hv;case isFalse=>cases hv
 rename_i ac;simp only[aU]at ac;obtain⟨⟨⟨⟨e1,e2⟩,Y⟩,e5⟩,e6⟩:=ac;have e1:=ZD e1;subst e1;have Y:=ZD Y;have e5:=Q8 e5;simp only[aC,aK]at hv;obtain⟨rfl,rfl,rfl⟩:=hv;obtain⟨az,bt,bp⟩:=(Cn.out (hc _ (aW ..)));have ah:=(Cn.out (hc _ (aS _ (aN.2 rfl))));obtain⟨hl,hp⟩:=Zdw hx e2 e6;obtain⟨i0,d,ar,_,ao,_,_,_⟩:=XE hT;cases ha with
 |pure _ _ hp=>cases hp
 |gptr _ _ _ _ _ a bq bo he=>
 obtain⟨aj,am⟩:=H.blk id _ hi;obtain⟨b,o,i,len,bm,g0,a9,rfl⟩:=he (by rw[az,aj]);rcases am with⟨bk,_⟩|⟨b',o',bg,bc,arr,ty,hn,aw,g3,h1,h2,h3⟩
 ·omega
 rw[g0]at g3;cases g3;have au:i<len:=by omega
 have bh:i*s+s<=len*s:=by
  have:(i+1)*s<=len*s:=aL s au;rwa [bI]at this
 have ae:(V.cellsOf.map purify).length=T.size:=by rw[aX];exact Y
 have J:x.cells.toList.length=T.size:=by rw[<-hl];exact Y
 refine⟨rfl,?_⟩;have ai:∀k:Nat,(k:Int)<m ()->∃row,QA (λ_=>decide ((k:Int)=e ())) (V.cellsOf.map purify) (((f λ_=>(k:Int)).drop off).take T.size)=some row:=λk Z=>dY.1 (ah k Z);obtain⟨S,ak,H',aq,ba⟩:=H.garPut (P:=P) hi (by omega) hn aw g0 h1 h2 h3 (i*s+off) x.cells.toList (λe'=>putC (f e') off ((QA (λ_=>decide (e' ()=e ())) (V.cellsOf.map purify) (((f e').drop off).take T.size)).getD []))
  (by omega) (Zgq (by rw[ae,J]) hp) (λk Z=>by
   rw[Ye]
   exact(h3 k (by omega)).1) (λk Z j c I=>by
   obtain⟨row,hr⟩:=ai k Z;have aa:=(h3 k (by omega)).1;obtain⟨g1,g2,g3⟩:=Yh hr;simp only[hr,cA]at I;have ab:row.length=T.size:=by rw[<-g1];exact ae
   rw[Za3 _ _ _ _ (by rw[ab,aa];exact e5),ab]at I;by_cases hin:off<=j/\j<off+T.size
   ·rw[iP hin]at I;obtain⟨a1,c1,n1,n2,mx⟩:=g3 _ c I;by_cases hki:k=i
    ·subst hki;have hd:decide ((k:Int)=e ())=true:=iZ a9.symm;rw[iP (by rw[J];omega),show k*s+j-(k*s+off)=j-off from by omega];exact mx.t hd (hp _ _ n1)
    have hd:decide ((k:Int)=e ())=false:=iY (by omega)
    rw[iN (by
     rw[J];rcases eO hki with A|U
     ·have:(k+1)*s<=i*s:=aL s A;rw[bI]at this;omega
     have:(i+1)*s<=k*s:=aL s U;rw[bI]at this
     omega)]
    rw[cO,iP (by omega),dC,show off+(j-off)=j from by omega]at n2;exact⟨c1,n2,λv h=>mx.f hd h⟩
   rw[iN hin]at I;have bl:j<s:=by rw[<-aa];exact(aE.1 I).1
   rw[iN (by
    rw[J];by_cases hki:k=i
    ·subst hki;omega
    rcases eO hki with A|U
    ·have:(k+1)*s<=i*s:=aL s A;rw[bI]at this;omega
    have:(i+1)*s<=k*s:=aL s U;rw[bI]at this
    omega)]
   exact⟨c,I,λv h=>h⟩)
 refine⟨S,?_,H',aq,ba⟩;simp only[ez,cR,aR,bD,aH,storeVar,Z3 ar];rw[iN (by rw[<-ao,<-Y,hl];simp),dH];exact ak
theorem Zi7 {t:TypeId} {T:TI} (hT:ZF P t=some T) {z:Option Value} (hz:∀e s b,T.k= .slice e s b->z=(ZF P e).bind (·.zero)) (H:HR G R h) {n c v:AV} {un uc:Value} {h':List Zh} {cd:Cd} (hn:VR R n un) (ai:VR R c uc)
  (hv:Jl T z n c h=some (v,h',cd)) (hc:ZW cd):∃u I,(Instr.makeSlice t un uc).run P R.w= .ok u I.w/\HR G I h'/\Xj R h I h'/\R.le I/\VR I v u:=by
 unfold Jl at hv;split at hv;case h_2=>cases hv
 rename_i el s b k x k' y z hk;split at hv;case isFalse=>cases hv
 rename_i ae;simp only[aU]at ae;obtain⟨⟨Y,Z⟩,e3⟩:=ae;have Y:=ZD Y;have Z:=Q8 Z;simp only[aC,aK]at hv;obtain⟨rfl,rfl,rfl⟩:=hv;obtain⟨a9,bc,ba⟩:=(Cn.out (hc _ (aN.2 rfl)));obtain rfl:=hn.int_inv;obtain rfl:=ai.int_inv;obtain⟨j,hu,A,hs,hb⟩:=JC hT hk;have az:=hz _ _ _ hk;obtain⟨TE,ao,aw⟩:=ey.1 az.symm;obtain⟨i0,d0,ab,_,_,_,ak,_⟩:=XE ao;have:i0=j:=by rw[A]at ab;simpa using ab.symm
 subst this;have aq:i0.zero=some z:=ak▸aw;obtain⟨l,hl⟩:=bU a9;have au:y ()=(l:Int):=by omega
 have w1:IntKind.i64.wrap (l:Int)=(l:Int):=Zb2 _ (by omega);let arr:Array Value:=(fq (l*s)).map ((if l*s=0 then(#[]:Array Value)else z.cells)[· %(if l*s=0 then(#[]:Array Value)else z.cells).size]!);have ar:arr.size=l*s:=by simp[arr]
 have ac:=JF (R:=R) z;have ah:∀i j,i<l->j<s->arr.getD (i*s+j) undef=z.cells.getD j undef:=λi j hi A=>by
  have aj:i*s+j<l*s:=by
   have:(i+1)*s<=l*s:=aL s hi;rw[bI]at this;omega
  have U:¬l*s=0:=by omega
  simp only[arr,iN U,aJ,cB];rw[show(fq (l*s))[i*s+j]? =some (i*s+j)from by simp[aj],cL,Y];have Z:(i*s+j)%s=j:=by rw[eg,eP,eF A]
  rw[Z];simp[Y,A]
 obtain⟨I,hw,hm,S,H',hx,J⟩:=H.alloc (.arr s x λ_=>(XK z).cellsOf.map purify) (.cells arr el) (λI=>⟨rfl,λb hp=>hp.symm,λb o n=>Iff.rfl⟩) (λI J S hh=>by
  refine⟨arr,el,l,by rw[S];exact hh,hl,by rw[S,ar];simp,λi hi=>?_⟩;have V:((XK z).cellsOf.map purify).length=s:=by rw[aX,ac.1,Y]
  refine⟨V,λj c A=>?_⟩;have am:j<s:=by rw[<-V];exact(aE.1 A).1
  rw[S,dD,ah i j hi am];rw[aQ,aG]at A;obtain⟨c0,aa,rfl⟩:=A;rw[bL]at e3
  exact((ac.2 j c0 aa).purify (e3 _ (bC.2 ⟨c0,bf aa,rfl⟩))).mono J.ok J.keep J.keepM)
 refine⟨.slice (some ⟨R.w.heap.size,0,none⟩) l l,I,?_,H',hx,J,?_⟩
 ·rw[hw];have t1:¬((i0.bytes:Int)*(l:Int)>2^ 48):=by
   have:(i0.bytes:Int)*(l:Int)<=1000000*1000000:=gY (by omega) (by omega) (by omega) (by omega);omega
  have ha:∀(k:IntKind) (n:Int) (w:World),(asInt (.int k n)).run P w= .ok n w:=λk n w=>by simp[asInt,asIntOf]
  unfold Instr.makeSlice
  simp only[aR,Zw hu,aH,ha,Xo A,hl,au,w1,aV,run_askRoom,Z3 A,hs,t1,decide_false,eC,bZ,
   show¬((l:Int)<0)from by omega,show¬((l:Int)>(l:Int))from by omega,aY,if_false,zeroValue]
  by_cases U:l*s=0
  ·simp[U,newRow,arr]
  simp[U,newRow,arr,Xo A,aq]
 have:=VR.msl (R:=I) h.length s (λ_=>0) x x 0 l l (by rw[hm,H.len];omega) rfl hl hl (aI _);rw[H.len,S]at this;rw[H.len];simpa using this
theorem Zrc {t el ty:TypeId} {at_:Array TypeId} {j:TypeInfo} (h0:at_[0]? =some t) (hu:P.underlying t=some (.slice el)) (I:P.info? el=some j) {z:Option Value} (hz:z=j.zero) (H:HR G R h) {x v:AV} {u:Value} {h':List Zh} {c:Cd} (hx:VR R x u)
  (hv:Zg8 z j.size x h=some (v,h',c)) (hc:ZW c):v= .undef/\∃u' S,(Builtin.clear_ at_ ty #[u]).run P R.w= .ok u' S.w/\HR G S h'/\Xj R h S h'/\R.le S:=by
 unfold Zg8 at hv;split at hv;case h_2=>cases hv
 rename_i id s o n cc z;split at hv;case isFalse=>cases hv
 rename_i ae;have ae:=ZD ae;split at hv;case h_2=>cases hv
 rename_i s' m f hi;split at hv;case isFalse=>cases hv
 rename_i aj;simp only[aU]at aj;obtain⟨⟨e1,Z⟩,e3⟩:=aj;have e1:=ZD e1;subst e1;have Z:=ZD Z;simp only[aC,aK]at hv;obtain⟨rfl,rfl,rfl⟩:=hv;obtain⟨bt,bm⟩:=(Cn.out (hc _ (aW ..)));have ak:=(Cn.out (hc _ (aS _ (aN.2 rfl))));refine⟨rfl,?_⟩;cases hx with
 |pure _ _ hp=>cases hp
 |msl _ _ _ _ _ i len bl bq bo hn bh bp=>
 obtain⟨arr,bk,ln,h1,hm,h2,h3⟩:=H.blk id _ hi;have ah:=JF (R:=R) z;have J:((XK z).cellsOf.map purify).length=s:=by rw[aX,ah.1,Z]
 let Y:=(Builtin.zeroCells z.cells len).toList;have U:Y.length=len*s:=by simp[Y,Builtin.zeroCells,Z]
 have ac:∀j c,((XK z).cellsOf.map purify)[j]? =some c->PR R.w R.ok c (z.cells.getD j undef):=λj c I=>by
  rw[aQ,aG]at I;obtain⟨c0,ab,rfl⟩:=I;rw[bL]at e3;exact(ah.2 j c0 ab).purify (e3 _ (bC.2 ⟨c0,bf ab,rfl⟩))
 have ai:∀k j,k<len->j<s->Y.getD (k*s+j) undef=z.cells.getD j undef:=λk j A I=>by
  have aq:k*s+j<len*s:=by
   have:(k+1)*s<=len*s:=aL s A;rw[bI]at this;omega
  have em:(k*s+j)%s=j:=by rw[eg,eP,eF I]
  simp only[Y,Builtin.zeroCells,Z,aA,bN,cB];rw[show(fq (len*s))[k*s+j]? =some (k*s+j)from by simp[aq],cL,em];simp[aJ,Z,I]
 have am:i*s+len*s<=ln*s:=by
  rw[<-dI];exact aL s (by omega)
 have aa:∀k:Nat,(k:Int)<m ()->∃row,QA (λ_=>decide (o ()<=(k:Int)/\(k:Int)<o ()+n ())) ((XK z).cellsOf.map purify) (f λ_=>(k:Int))=some row:=λk A=>dY.1 (ak k A);obtain⟨S,V,H',a9,ao⟩:=H.arrPut (P:=P) hi (i*s) Y (λe=>(QA (λ_=>decide (o ()<=e ()/\e ()<o ()+n ())) ((XK z).cellsOf.map purify) (f e)).getD [])
  (by rw[show(m ()).toNat=ln from by omega,U];exact am)
  (λv hv=>by
   obtain⟨k,A,rfl⟩:=ei hv;have hs:0<s:=ep (λe=>by rw[U,e]at A;simp at A);have aw:k/s<len:=(dM hs).2 (U▸A);have:=ai (k/s) (k%s) aw (eJ _ hs);rw[ff,aA,aD A]at this;rw[cA]at this;rw[this]
   exact(ac (k%s) _ (aD (by rw[J];exact eJ _ hs))).one)
  (λk A=>by
   obtain⟨row,hr⟩:=aa k A;simp only[hr,cA];obtain⟨g1,_,_⟩:=Yh hr;rw[<-g1]
   exact J)
  (λk A j c I=>by
   obtain⟨row,hr⟩:=aa k A;simp only[hr,cA]at I;obtain⟨g1,g2,g3⟩:=Yh hr;obtain⟨a1,c1,n1,n2,mx⟩:=g3 j c I;have au:j<s:=by rw[<-J];exact(aE.1 n1).1
   by_cases hin:o ()<=(k:Int)/\(k:Int)<o ()+n ()
   ·have ar:i<=k:=by omega
    have e4:(k-i)*s=k*s-i*s:=gp ..;have e5:i*s<=k*s:=aL _ ar;have e6:(k-i)*s+s<=len*s:=by
     have:(k-i+1)*s<=len*s:=aL s (by omega);rwa [bI]at this
    rw[iP (by omega),show k*s+j-i*s=(k-i)*s+j from by omega,ai (k-i) j (by omega) au];exact mx.t (iZ hin) (ac j _ n1)
   rw[iN (by
    rcases Int.lt_or_le (k:Int) (o ())with bc|bg
    ·have:(k+1)*s<=i*s:=aL s (by omega);rw[bI]at this;omega
    have:(i+len)*s<=k*s:=aL s (by omega);rw[dI]at this
    omega)]
   exact⟨c1,n2,λv h=>mx.f (iY hin) h⟩)
 have az:j.zero=some z:=hz.symm;refine⟨.tuple #[],S,?_,H',a9,ao⟩;unfold Builtin.clear_;simp only[h0,aR,Zw hu,aH,eo,bJ];cases len with
 |zero=>
  have ba:Y=[]:=cT (by rw[U];simp);rw[ba]at V;simp only[storeCells,bD,Result.ok.injEq]at V;simp[bD,V.2]
 |succ len=>
  simp only[zeroValue,Xo I,aH,az,aR,bD];have:(storeCells ⟨(R.α id).b,(R.α id).o+i*s,none⟩ (Builtin.zeroCells z.cells (len+1)).toList).run P R.w= .ok () S.w:=V;simp only[this,aH]
end
end Vm
namespace Vm
open Go
instance decRow2 (n:Int) (m:Nat->Int) (f:Nat->Nat->Bool):Decidable (∀i:Nat,(i:Int)<n->∀j:Nat,(j:Int)<m i->f i j=true):=
 decidable_of_iff ((aP n.toNat).all λi=>(aP (m i).toNat).all λj=>f i j) (by
  simp only[bL,bV]
  exact⟨λh i hi j hj=>h i (by omega) j (by omega),λh i hi j hj=>h i (by omega) j (by omega)⟩)
def ZcT (T:TI) (id s:Nat) (e k:Unit->Int) (off:Nat) (x:AV) (h:List Zh):Option (AV×List Zh×Cd):=match h[id]? with
 |some (.fam z s' n m g)=>if ZI s s'&&plain x&&ZI x.cellsOf.length T.size&&Qb (off+T.size) s&&(x.cellsOf.map purify).all XT then
   some (.undef,h.set id (.fam z s n m λG A=>putC (g G A) off ((QA (λ_=>decide (G ()=e ())&&decide (A ()=k ())) (x.cellsOf.map purify) (((g G A).drop off).take T.size)).getD [])),
    [dd λ_=>0<=e ()/\e ()<n ()/\0<=k ()/\k ()<m e (),dd λ_=>∀i:Nat,(i:Int)<n ()->∀j:Nat,(j:Int)<m (λ_=>(i:Int)) ()->(QA (λ_=>decide ((i:Int)=e ())&&decide ((j:Int)=k ())) (x.cellsOf.map purify) (((g (λ_=>(i:Int)) λ_=>(j:Int)).drop off).take T.size)).isSome=true])else none
 |_=>none
section
variable {P:Program} {R:RC} {G:Nat->Nat->Nat->Prop} {h:List Zh}
theorem ZlF {lt:Unit->Bool} {A old:List AV} {off sz:Nat} (hs:(QA lt A ((old.drop off).take sz)).isSome=true) (hv:A.length=sz) (S:off+sz<=old.length):
  (putC old off ((QA lt A ((old.drop off).take sz)).getD [])).length=old.length/\∀j c,(putC old off ((QA lt A ((old.drop off).take sz)).getD []))[j]? =some c->
   (off<=j/\j<off+sz/\∃H I,A[j-off]? =some H/\old[j]? =some I/\Mx lt H I c)\/(¬(off<=j/\j<off+sz)/\old[j]? =some c):=by
 obtain⟨row,hr⟩:=dY.1 hs;obtain⟨V,g2,g3⟩:=Yh hr;have J:row.length=sz:=by rw[<-V];exact hv
 rw[hr,cA];refine⟨Ye _ _ _,λj c G=>?_⟩;rw[Za3 _ _ _ _ (by rw[J];exact S),J]at G;by_cases hin:off<=j/\j<off+sz
 ·rw[iP hin]at G;obtain⟨H,I,Z,U,Y⟩:=g3 _ c G;rw[cO,iP (by omega),dC,show off+(j-off)=j from by omega]at U;exact .inl ⟨hin.1,hin.2,H,I,Z,U,Y⟩
 rw[iN hin]at G;exact .inr ⟨hin,G⟩
theorem ZkF {t:TypeId} {T:TI} (hT:ZF P t=some T) (H:HR G R h) {id s off:Nat} {e k:Unit->Int} {a x:Value} {ax v:AV} {h':List Zh} {c:Cd} (ha:VR R (.nptr id s e k off) a) (hx:VR R ax x)
  (hv:ZcT T id s e k off ax h=some (v,h',c)) (hc:ZW c):v= .undef/\∃V,(ez t a x).run P R.w= .ok () V.w/\HR G V h'/\Xj R h V h'/\R.le V:=by
 unfold ZcT at hv;split at hv;case h_2=>cases hv
 rename_i z s' n m g hi;split at hv;case isFalse=>cases hv
 rename_i ar;simp only[aU]at ar;obtain⟨⟨⟨⟨e1,e2⟩,e3⟩,e5⟩,e6⟩:=ar;have e1:=ZD e1;subst e1;have e3:=ZD e3;have e5:=Q8 e5;simp only[aC,aK]at hv;obtain⟨rfl,rfl,rfl⟩:=hv;obtain⟨r1,r2,r3,r4⟩:=(Cn.out (hc _ (aW ..)));have bc:=(Cn.out (hc _ (aS _ (aN.2 rfl))));obtain⟨hl,hp⟩:=Zdw hx e2 e6;obtain⟨i0,d,cg,_,bm,_,_,_⟩:=XE hT;cases ha with
 |pure _ _ hp=>cases hp
 |nptr _ _ _ _ _ us i b o l cp j cu am he hu hk=>
 obtain⟨hz,cj,cq,aj,ci,ae,ai⟩:=H.blk id _ hi;rw[am]at aj;cases aj;have ca:e=λ_=>(i:Int):=funext λ_=>he;have bh:k=λ_=>(j:Int):=funext λ_=>hk;subst ca bh;simp only at r4 r3 r2 r1;obtain⟨len,Z,arr,ty,g1,g2,g3,g4,g5,g6⟩:∃(len Z:Nat) (arr:Array Value) (ty:TypeId),m (λ_=>(i:Int)) ()=(len:Int)/\len<=Z/\(l=len/\cp=Z)/\R.w.heap[b]? =some (.cells arr ty (0,0))/\o+Z*s<=arr.size/\
   ∀q:Nat,q<len->(g (λ_=>(i:Int)) λ_=>(q:Int)).length=s/\∀A c,(g (λ_=>(i:Int)) λ_=>(q:Int))[A]? =some c->PR R.w R.ok c (arr.getD (o+q*s+A) undef):=by
  rcases ae i _ hu with⟨bo,_⟩|⟨b',o',len,Z,arr,ty,g1,g2,g3,g4,g5,g6⟩
  ·exfalso;omega
  cases g3;exact⟨_,_,arr,ty,g1,g2,⟨rfl,rfl⟩,g4,g5,g6⟩
 obtain⟨rfl,rfl⟩:=g3;have bl:j<l:=by omega
 have cr:j*s+s<=l*s:=by
  have:(j+1)*s<=l*s:=aL s bl;rwa [bI]at this
 have ct:l*s<=cp*s:=aL s g2;have az:(ax.cellsOf.map purify).length=T.size:=by rw[aX];exact e3
 have aq:x.cells.toList.length=T.size:=by rw[<-hl];exact e3
 let Y:=x.cells.toList;let J:=j*s+off;let U:=(arr.toList.take (o+J+0)++Y++arr.toList.drop (o+J+0+Y.length)).toArray;have ak:Y.length=T.size:=aq;have bq:=run_storeCells_at P b (o+J) ty Y 0 arr R.w g4 (by rw[ak];show o+(j*s+off)+0+T.size<=arr.size;omega) (Zgq (by rw[az,aq]) hp);have aw:Zeh (.slice (some ⟨b,o,none⟩) l cp) b:=⟨_,_,_,rfl,by omega,rfl⟩;have ao:ZC R id (.fam z s n m g) b:=⟨us,am,i,_,hu,aw⟩;have a9:U.size=arr.size:=by
  simp only[U,dX,bA,bW,dL,cX];show min (o+(j*s+off)+0) arr.size+Y.length+(arr.size-(o+(j*s+off)+0+Y.length))=_;omega
 let g':(Unit->Int)->(Unit->Int)->List AV:=λe' k'=>putC (g e' k') off ((QA (λ_=>decide (e' ()=(i:Int))&&decide (k' ()=(j:Int))) (ax.cellsOf.map purify) (((g e' k').drop off).take T.size)).getD []);obtain⟨V,w1,w2,w3,w4,H',bz,I⟩:=H.room1 (blk':=.fam z s n m g') hi rfl rfl (R.hw id) (R.hv id) (R.w.setRow b U) (λ_ _ _ h=>h) (λ_ _ _ _ h=>h) (bS _) (λ_=>rfl) (.refl _) rfl rfl rfl (by simp[World.setRow])
  (λb' _ bu=>setRow_other R.w b b' _ (λe=>bu (e▸ao)))
  (λV I hw b9 bp bx=>by
   refine⟨by rw[bx];exact hz,b9.trans cj,us,bp.trans am,ci,λa v ha=>?_,ai⟩;have bg:(a:Int)<n ():=by have:=(aM.1 ha).1;omega
   have ab:∀q:Nat,(q:Int)<m (λ_=>(a:Int)) ()->(g (λ_=>(a:Int)) λ_=>(q:Int)).length=s->(g' (λ_=>(a:Int)) λ_=>(q:Int)).length=s/\∀A c,(g' (λ_=>(a:Int)) λ_=>(q:Int))[A]? =some c->
     (off<=A/\A<off+T.size/\∃a1 c1,(ax.cellsOf.map purify)[A-off]? =some a1/\(g (λ_=>(a:Int)) λ_=>(q:Int))[A]? =some c1/\Mx (λ_=>decide ((a:Int)=(i:Int))&&decide ((q:Int)=(j:Int))) a1 c1 c)\/(¬(off<=A/\A<off+T.size)/\(g (λ_=>(a:Int)) λ_=>(q:Int))[A]? =some c):=λq S au=>by
    obtain⟨t1,t2⟩:=ZlF (bc a bg q S) az (by rw[au];exact e5);exact⟨t1.trans au,t2⟩
   by_cases hai:a=i
   ·subst hai;rw[hu]at ha;cases ha;refine .inr ⟨b,o,l,cp,U,ty,g1,g2,rfl,?_,by rw[a9];exact g5,λq S=>?_⟩
    ·rw[hw];exact setRow_heap R.w _ arr _ ty _ g4
    obtain⟨f1,f2⟩:=g6 q S;obtain⟨t1,t2⟩:=ab q (by omega) f1;refine⟨t1,λA c hj=>?_⟩;have cw:A<s:=by rw[<-t1];exact(aE.1 hj).1
    have cn:q*s+s<=l*s:=by
     have:(q+1)*s<=l*s:=aL s S;rwa [bI]at this
    have ba:U.getD (o+q*s+A) undef=if o+J+0<=o+q*s+A/\o+q*s+A<o+J+0+Y.length then Y.getD (o+q*s+A-(o+J+0)) undef else arr.getD (o+q*s+A) undef:=
     XR arr Y (o+J+0) _ (by rw[ak];show o+(j*s+off)+0+T.size<=arr.size;omega)
    rw[ba,ak];rcases t2 A c hj with⟨u1,u2,a1,c1,u3,u4,mx⟩|⟨u1,u2⟩
    ·by_cases hqj:q=j
     ·subst hqj;rw[iP (by show o+(q*s+off)+0<=_/\_<o+(q*s+off)+0+T.size;omega),show o+q*s+A-(o+J+0)=A-off from by show o+q*s+A-(o+(q*s+off)+0)=_;omega];exact(mx.t (by simp) (hp _ _ u3)).mono I.ok I.keep I.keepM
     rw[iN (by
      show¬(o+(j*s+off)+0<=_/\_<o+(j*s+off)+0+T.size);rcases eO hqj with ac|ah
      ·have:(q+1)*s<=j*s:=aL s ac;rw[bI]at this;omega
      have:(j+1)*s<=q*s:=aL s ah;rw[bI]at this
      omega)]
     exact(mx.f (by show(decide ((a:Int)=(a:Int))&&decide ((q:Int)=(j:Int)))=false;rw[iY (by omega:¬((q:Int)=(j:Int))),Bool.and_false]) (f2 _ _ u4)).mono I.ok I.keep I.keepM
    rw[iN (by
     show¬(o+(j*s+off)+0<=_/\_<o+(j*s+off)+0+T.size);by_cases hqj:q=j
     ·subst hqj;omega
     rcases eO hqj with ac|ah
     ·have:(q+1)*s<=j*s:=aL s ac;rw[bI]at this;omega
     have:(j+1)*s<=q*s:=aL s ah;rw[bI]at this
     omega)]
    exact(f2 _ _ u2).mono I.ok I.keep I.keepM
   have h0:=ae a v ha;have h1:J4 (PR V.w V.ok) V.w s (m λ_=>(a:Int)) (g λ_=>(a:Int)) v:=h0.mono (λ_ _ h=>h.mono I.ok I.keep I.keepM) λb' bw=>by
    rw[hw];exact setRow_other R.w b b' _ (λe=>ai a i v _ b hai ha hu (e▸bw) aw)
   have aa:∀q:Nat,(q:Int)<m (λ_=>(a:Int)) ()->(g (λ_=>(a:Int)) λ_=>(q:Int)).length=s:=λq S=>by
    rcases h0 with⟨bo,_⟩|⟨_,_,ck,_,_,_,k1,_,_,_,_,k6⟩
    ·omega
    exact(k6 q (by omega)).1
   refine h1.cong rfl (λq S=>?_) λq S A c hj=>?_
   ·rw[(ab q S (aa q S)).1,aa q S]
   rcases(ab q S (aa q S)).2 A c hj with⟨_,_,a1,c1,_,u4,mx⟩|⟨_,u2⟩
   ·exact⟨_,u4,λu bt=>mx.f (by show(decide ((a:Int)=(i:Int))&&decide ((q:Int)=(j:Int)))=false;rw[iY (by omega:¬((a:Int)=(i:Int))),Bool.false_and]) bt⟩
   exact⟨_,u2,λ_ h=>h⟩)
  (λV cf b' bk=>.inr (by
   obtain⟨ce,q1,q2⟩:=bk
   exact⟨ce,cf.symm.trans q1,q2⟩))
 refine⟨rfl,V,?_,H',bz,I⟩;simp only[ez,cR,aR,bD,aH,storeVar,Z3 cg];rw[iN (by rw[<-bm,<-e3,hl];simp),w1,dH];exact bq
end
end Vm
namespace Vm
open Go
section
variable {P:Program} {R:RC} {G:Nat->Nat->Nat->Prop} {h:List Zh}
theorem HR.vgar (H:HR G R h) {id s:Nat} {n0:Unit->Int} {f:(Unit->Int)->List AV} (hi:h[id]? =some (.vgar s n0 f)) (I:Unit->Int) (U:(Unit->Int)->List AV) (J:Value) (w':World)
  (S:n0 ()<=I ()) (ac:n0 ()=I ()->J=R.hv id)
  (ak:w'.os=R.w.os) (aj:w'.tape=R.w.tape) (aa:w'.output=R.w.output) (ah:R.w.heap.size<=w'.heap.size)
  (hh:∀b,b<R.w.heap.size->¬ZC R id (.vgar s n0 f) b->w'.heap[b]? =R.w.heap[b]?)
  (ai:∀A:RC,R.le A->A.w=w'->ZvZ A s I U J)
  (ae:∀b,Zeh J b->R.w.heap.size<=b\/ZC R id (.vgar s n0 f) b):
  ∃A,A.w=w'/\A.hv id=J/\A.hw id=I ()/\A.m=R.m/\HR G A (h.set id (.vgar s I U))/\Xj R h A (h.set id (.vgar s I U))/\R.le A:=by
 obtain⟨V,Y⟩:=H.blk id _ hi;exact H.room1 (blk':=.vgar s I U) hi rfl rfl (I ()) J w' (λ_ _ _ h=>h) (λ_ _ _ _ h=>h) (by rw[V];exact S) (λe=>ac (V.symm.trans e)) (.of (J4.no Y)) ak aj aa ah hh
  (λA S hw Z ab _=>⟨Z,by rw[ab];exact ai A S hw⟩)
  (λA hv b ⟨a,n,c,h1,h2,h3⟩=>ae b ⟨a,n,c,hv.symm.trans h1,h2,h3⟩)
theorem Zlo {s:Nat} {n0:Unit->Int} {f:(Unit->Int)->List AV} {row:List AV} {id:Nat} {at_:Array TypeId} {t t' e e' ty:TypeId} {j:TypeInfo} {z:Value} {b0 o0:Nat} {us:Nat->Value}
  (H:HR G R h) (hi:h[id]? =some (.vgar s n0 f)) (ao:row.length=s) (bw:∀k c,row[k]? =some c->R.w.cell? ⟨b0,o0+k,none⟩=some (us k)) (au:∀k c,row[k]? =some c->VR R c (us k)) (ct:row.all ZlZ=true)
  (h0:at_[0]? =some t) (h1:at_[1]? =some t') (hu:P.underlying t=some (.slice e)) (cf:P.underlying t'=some (.slice e')) (hj:P.info? e=some j) (hz:j.zero=some z) (cw:z.cells.size=s) (c8:j.size=s) (hb:j.bytes<=1000000)
  (di:n0 ()+1<=1000000):
  ∃u A,(Builtin.append_ at_ ty #[R.hv id,.slice (some ⟨b0,o0,none⟩) 1 1]).run P R.w= .ok u A.w/\HR G A (h.set id (.vgar s (λ_=>n0 ()+1) (Z0 n0 f λ_=>row)))/\Xj R h A (h.set id (.vgar s (λ_=>n0 ()+1) (Z0 n0 f λ_=>row)))/\R.le A/\VR A (.gsl id λ_=>n0 ()+1) u:=by
 have ba:id<R.m:=H.len▸(aE.1 hi).1;subst c8;obtain⟨dk,cr⟩:=H.blk id _ hi;let new:List Value:=(aP j.size).map us;have aq:new.length=j.size:=by simp[new]
 have bt:∀k,k<j.size->new.getD k undef=us k:=λk J=>by
  rw[aA];simp[new,J]
 have db:∀k,k<j.size->R.w.cell? ⟨b0,o0+k,none⟩=some (us k):=λk J=>bw k _ (aD (by omega));have bc:∀Z:World,Z.heap=R.w.heap->(Builtin.firstCells j.size 1 (.slice (some ⟨b0,o0,none⟩) 1 1)).run P Z= .ok new.toArray Z:=λZ hw=>by
  have:=run_loadCells (P:=P) Z ⟨b0,o0,none⟩ (1*j.size) us (λk J=>by
   rw[QL];rw[<-db k (by omega)]
   simp only[bX,hw])
  simpa [Builtin.firstCells,new]using this
 have ci:∀v∈new,v.oneCell'=true:=λv cz=>by
  obtain⟨k,J,rfl⟩:=bC.1 cz;have J:=bV.1 J;have hg:row[k]? =some row[k]:=aD (by omega);exact Zkr ((bL.1 ct) _ (bf hg)) (au k _ hg)
 have am:∀ {i k c len:Nat},k<c->i<len->i*c+k<len*c:=λ{i k c len} J hi=>by
  have:(i+1)*c<=len*c:=aL _ hi;rw[bI]at this;omega
 have bh:∀(base:Option Addr) (Y vc:Nat) (old:List Value),R.hv id= .slice base Y vc->n0 ()=(Y:Int)->(base=none->vc=0)->Y<=vc->old.length=Y*j.size->(∀Z:World,Z.heap=R.w.heap->(Builtin.firstCells j.size Y (.slice base Y vc)).run P Z= .ok old.toArray Z)->
   (∀i:Nat,i<Y->(f (λ_=>(i:Int))).length=j.size/\∀k c,(f (λ_=>(i:Int)))[k]? =some c->VR R c (old.getD (i*j.size+k) undef))->¬Y+1<=vc->
   ∃u A,(Builtin.append_ at_ ty #[R.hv id,.slice (some ⟨b0,o0,none⟩) 1 1]).run P R.w= .ok u A.w/\HR G A (h.set id (.vgar j.size (λ_=>n0 ()+1) (Z0 n0 f λ_=>row)))/\Xj R h A (h.set id (.vgar j.size (λ_=>n0 ()+1) (Z0 n0 f λ_=>row)))/\R.le A/\VR A (.gsl id λ_=>n0 ()+1) u:=by
  intro base Y vc old hv hn dj bg ce cq bm bx;obtain⟨U,d,V,cg,c9,ck⟩:=JL (P:=P) (ty:=ty) h0 h1 hu cf hj hz hb base (some ⟨b0,o0,none⟩) Y vc 1 1 old.toArray new.toArray R.w (λZ hw=>bc Z hw) cq bx (by omega);have cu:(old.toArray++new.toArray++V).size=U*j.size:=by
   rw[eW,eW,c9,cw];simp only[dX,ce,aq];have:Y*j.size+j.size=(Y+1)*j.size:=by rw[bI]
   rw[this,<-dI];congr 1;omega
  have b9:∀b,b<R.w.heap.size->(R.w.heap.push (.cells (old.toArray++new.toArray++V) e))[b]? =R.w.heap[b]? :=λb hb=>by rw[bK,iN (by omega)]
  have bu:(R.w.heap.push (.cells (old.toArray++new.toArray++V) e))[R.w.heap.size]? =some (.cells (old.toArray++new.toArray++V) e (0,0)):=by simp
  have ah:∀k,(old.toArray++new.toArray++V).getD k undef=if k<old.length then old.getD k undef else if k<old.length+new.length then new.getD (k-old.length) undef else V.getD (k-old.length-new.length) undef:=λk=>by
   simp only[aJ,aA];by_cases h1:k<old.length
   ·rw[iP h1,dE,dG (by simpa using h1)];simp
   rw[iN h1];by_cases h2:k<old.length+new.length
   ·rw[iP h2,dG (by simpa using h2),dZ (by simpa using fC h1)];simp
   rw[iN h2,dZ (by simpa using fC h2)];simp[iR]
  have bq:∀A:RC,R.le A->∀i:Nat,i<Y+1->(Z0 n0 f (λ_=>row) (λ_=>(i:Int))).length=j.size/\∀k c,(Z0 n0 f (λ_=>row) (λ_=>(i:Int)))[k]? =some c->VR A c ((old.toArray++new.toArray++V).getD (0+i*j.size+k) undef):=λA I i aa=>by
   by_cases hil:i<Y
   ·rw[QW hn hil];refine⟨(bm i hil).1,λk c J=>?_⟩;have ab:k<j.size:=by rw[<-(bm i hil).1];exact(aE.1 J).1
    have:=am ab hil;rw[dD,ah,iP (by omega)];exact((bm i hil).2 k c J).mono I
   rw[Qu hn (by omega)];have aw:i=Y:=by omega
   subst aw;refine⟨ao,λk c J=>?_⟩;have ab:k<j.size:=by rw[<-ao];exact(aE.1 J).1
   rw[dD,ah,iN (by omega),iP (by omega),ce,show i*j.size+k-i*j.size=k from by omega,bt k ab];exact(au k c J).mono I
  obtain⟨A,hw,a9,bk,bp,H',hx,I⟩:=H.vgar hi (λ_=>n0 ()+1) (Z0 n0 f λ_=>row) (.slice (some ⟨R.w.heap.size,0,none⟩) (Y+1) U) {R.w with drawn:=d,heap:=R.w.heap.push (.cells (old.toArray++new.toArray++V) e)}
   (by show n0 ()<=n0 ()+1;omega) (λe=>by have e:n0 ()=n0 ()+1:=e;omega) rfl rfl rfl (by show _<=(R.w.heap.push _).size;simp) (λb hb _=>b9 b hb)
   (λA I az=>.inr ⟨R.w.heap.size,0,Y+1,U,_,e,by show n0 ()+1=_;omega,cg,rfl,by rw[az];exact bu,by rw[cu];omega,λi aa=>bq A I i aa⟩)
   (λb ⟨a,k,c,he,_,bo⟩=>by cases he;exact .inl (by rw[<-bo];exact aI _))
  exact⟨_,A,by rw[hv,ck,hw],H',hx,I,.gsl _ _ _ _ _ (by rw[bp];exact ba) (by rw[bk];exact bS _) (λ_=>a9.symm) ⟨by show n0 ()+1=_;omega,.inr ⟨_,_,rfl⟩⟩⟩
 have zero:∀a0:Option Addr,n0 ()=0->R.hv id= .slice a0 0 0->∃u A,(Builtin.append_ at_ ty #[R.hv id,.slice (some ⟨b0,o0,none⟩) 1 1]).run P R.w= .ok u A.w/\HR G A (h.set id (.vgar j.size (λ_=>n0 ()+1) (Z0 n0 f λ_=>row)))/\Xj R h A (h.set id (.vgar j.size (λ_=>n0 ()+1) (Z0 n0 f λ_=>row)))/\R.le A/\VR A (.gsl id λ_=>n0 ()+1) u:=by
  intro a0 ca ae
  exact bh a0 0 0 [] ae (by omega) (λ_=>rfl) (aI _) (by simp) (λZ _=>by
   cases a0 with
   |none=>rfl
   |some a0=>exact Zaa Z a0 _ 0 0) (λi hi=>by omega) (by omega)
 rcases cr with⟨ca,a0,ae⟩|⟨b,o,len,U,arr,aj,hn,bg,ae,ak,cj,ac⟩
 ·exact zero a0 ca ae
 rcases cK U with ai|ai
 ·exact zero (some ⟨b,o,none⟩) (by omega) (by rw[ae,ai,show len=0 by omega])
 have ar:ZC R id (.vgar j.size n0 f) b:=⟨_,_,_,ae,ai,rfl⟩;have dg:len*j.size<=U*j.size:=aL _ bg;by_cases hrm:len+1<=U
 ·have dh:(len+1)*j.size<=U*j.size:=aL _ hrm;have dc:(len+1)*j.size=len*j.size+j.size:=by rw[bI]
  let S:=(arr.toList.take (o+len*j.size+0)++new++arr.toList.drop (o+len*j.size+0+new.length)).toArray;have cy:=run_storeCells_at P b (o+len*j.size) aj new 0 arr R.w ak (by rw[aq];omega) ci;have bl:∀b',b'≠b->(R.w.setRow b S).heap[b']? =R.w.heap[b']? :=λb' hb=>setRow_other R.w b b' _ hb;have bz:(R.w.setRow b S).heap[b]? =some (.cells S aj (0,0)):=setRow_heap R.w b arr _ aj _ ak;have cn:S.size=arr.size:=by
   simp only[S,dX,bA,bW,dL,cX,aq];omega
  have ah:∀k,S.getD k undef=if o+len*j.size<=k/\k<o+len*j.size+new.length then new.getD (k-(o+len*j.size)) undef else arr.getD k undef:=λk=>
   XR arr new (o+len*j.size+0) k (by rw[aq];omega)
  have bq:∀A:RC,R.le A->∀i:Nat,i<len+1->(Z0 n0 f (λ_=>row) (λ_=>(i:Int))).length=j.size/\∀k c,(Z0 n0 f (λ_=>row) (λ_=>(i:Int)))[k]? =some c->VR A c (S.getD (o+i*j.size+k) undef):=λA I i aa=>by
   by_cases hil:i<len
   ·rw[QW hn hil];refine⟨(ac i hil).1,λk c J=>?_⟩;have ab:k<j.size:=by rw[<-(ac i hil).1];exact(aE.1 J).1
    have:=am ab hil;rw[ah,iN (by omega)];exact((ac i hil).2 k c J).mono I
   rw[Qu hn (by omega)];have aw:i=len:=by omega
   subst aw;refine⟨ao,λk c J=>?_⟩;have ab:k<j.size:=by rw[<-ao];exact(aE.1 J).1
   rw[ah,iP (by omega),show o+i*j.size+k-(o+i*j.size)=k from by omega,bt k ab];exact(au k c J).mono I
  obtain⟨A,hw,a9,bk,bp,H',hx,I⟩:=H.vgar hi (λ_=>n0 ()+1) (Z0 n0 f λ_=>row) (.slice (some ⟨b,o,none⟩) (len+1) U) (R.w.setRow b S)
   (by show n0 ()<=n0 ()+1;omega) (λe=>by have e:n0 ()=n0 ()+1:=e;omega) rfl rfl rfl (by simp[World.setRow]) (λb' _ c6=>bl b' (λe=>c6 (e▸ar)))
   (λA I az=>.inr ⟨b,o,len+1,U,S,aj,by show n0 ()+1=_;omega,hrm,rfl,by rw[az];exact bz,by rw[cn];exact cj,λi aa=>bq A I i aa⟩)
   (λb' ⟨a,k,c,he,_,bo⟩=>by cases he;exact .inr (bo▸ar))
  refine⟨_,A,?_,H',hx,I,.gsl _ _ _ _ _ (by rw[bp];exact ba) (by rw[bk];exact bS _) (λ_=>a9.symm) ⟨by show n0 ()+1=_;omega,.inr ⟨_,_,rfl⟩⟩⟩;rw[ae,hw]
  exact Qo h0 h1 hu cf hj _ (some ⟨b0,o0,none⟩) len U 1 1 new.toArray R.w _ (bc _ rfl) hrm (λa ha=>by
   cases ha;rw[QL]
   exact cy) (λh=>by cases h)
 have da:∀k,k<len*j.size->o+k<arr.size:=λk J=>by omega
 refine bh (some ⟨b,o,none⟩) len U ((aP (len*j.size)).map λk=>arr.getD (o+k) undef) ae hn (λh=>by cases h) bg (by simp) (λZ hw=>?_) (λi aa=>⟨(ac i aa).1,λk c J=>?_⟩) hrm
 ·have:=run_loadCells (P:=P) Z ⟨b,o,none⟩ (len*j.size) (λk=>arr.getD (o+k) undef) (λk J=>by
   rw[QL];have:Z.heap[b]? =some (.cells arr aj (0,0)):=by rw[hw];exact ak
   exact Z1 this (da k J))
  simpa [Builtin.firstCells]using this
 have ab:k<j.size:=by rw[<-(ac i aa).1];exact(aE.1 J).1
 have:=am ab aa;rw[aA,aQ,cQ (by omega)];show VR R c (arr.getD (o+(i*j.size+k)) undef);rw[<-dH];exact(ac i aa).2 k c J
theorem ZgN:∀ {l:List AV} {j k:Nat} {n:Unit->Int},Zjd l=some (j,k,n)->l[j]? =some (.gsl k n)
 |[],j,k,n,h=>by cases h
 |a::r,j,k,n,h=>by
  unfold Zjd at h;split at h
  ·rename_i e;cases e
  ·rename_i e;cases e;simp only[aC,aK]at h;obtain⟨rfl,rfl,rfl⟩:=h;rfl
  rename_i e;cases e;split at h
  ·rename_i A;simp only[aC,aK]at h;obtain⟨rfl,rfl,rfl⟩:=h;simpa using ZgN A
  cases h
theorem Zj7 {a:AV} (h:XT a=true):ZlZ a=true:=by cases a<;>first|rfl|cases h
theorem ZjA (H:HR G R h) {t t' e e' ty:TypeId} {at_:Array TypeId} {q s:Nat} {n:Unit->Int} {cs:List AV} {v:AV} {h':List Zh} {c:Cd} {u x:Value} (hd:VR R (.gsl q n) u) (hs:VR R (.lit s cs) x) (h0:at_[0]? =some t) (h1:at_[1]? =some t')
  (hu:P.underlying t=some (.slice e)) (aw:P.underlying t'=some (.slice e')) (hv:Zbl (ZaH P e s) q n s cs h=some (v,h',c)) (hc:ZW c):∃r U,(Builtin.append_ at_ ty #[u,x]).run P R.w= .ok r U.w/\HR G U h'/\Xj R h U h'/\R.le U/\VR U v r:=by
 unfold Zbl at hv;split at hv;case isFalse=>cases hv
 rename_i bp;obtain⟨j,z,hj,hz,ao,bo,bc⟩:=YT bp;split at hv;case h_2=>cases hv
 rename_i s' n0 f zf sf N m g Z k nk Y ae ai;split at hv;case h_2=>cases hv
 rename_i sk V f1 hk;split at hv;case isFalse=>cases hv
 rename_i ac;simp only[aU]at ac;obtain⟨⟨⟨⟨e1,e2⟩,e3⟩,e4⟩,e5⟩:=ac;have e1:=ZD e1;have e2:=ZD e2;have e3:=Q8 e3;have e4:=ZD e4;subst e1 e2;simp only[aC,aK]at hv;obtain⟨rfl,rfl,rfl⟩:=hv;obtain⟨c1,c2,c3⟩:=(Cn.out (hc _ (aW ..)));have c4:=(Cn.out (hc _ (aS _ (aN.2 rfl))));obtain⟨ak,w1,m1,ar,H1,x1,l1,aa,i,am,aq,bw⟩:=H.adopt ae hk e3;have bq:q<R.m:=H.len▸(aE.1 Y).1;have bm:q≠k:=λe=>by rw[e,hk]at Y;cases Y
 have ba:q≠q+1:=by omega
 have bh:((h.set k .dead).set (q+1) (.fam zf sf (λ_=>N ()+1) (ZbO N m V) (Ja N g f1)))[q]? =some (.vgar s n0 f):=by
  rw[bR,iN (by omega),bR,iN (Ne.symm bm)];exact Y
 have a9:u=R.hv q:=by
  cases hd with
  |pure _ _ hp=>cases hp
  |gsl _ _ a l I bk hn he _=>exact he (by rw[(H.blk q _ Y).1,c1])
 have bg:ak.hv q=R.hv q:=(ar q ba).1;cases hs with
 |pure _ _ hp=>cases hp
 |lit _ _ b0 o0 us bt g1 g2 g3=>
 have ab:=ZgN ai;have ah:=g2 _ _ ab;have aj:(cs.set Z (.nsub (q+1) n0 V)).length=s:=by rw[bP];exact e4
 have J:∀(A:Nat) (I:AV),(cs.set Z (.nsub (q+1) n0 V))[A]? =some I->(A=Z/\I= .nsub (q+1) n0 V)\/(A≠Z/\cs[A]? =some I/\XT I=true):=λA I h'=>by
  rw[bR]at h';split at h'
  ·rename_i e;split at h'
   ·simp only[aC]at h';exact .inl ⟨e.symm,h'.symm⟩
   cases h'
  rename_i e;refine .inr ⟨λh=>e h.symm,h',?_⟩;exact bL.1 e5 I (bf (i:=A) (by rw[bR,iN e];exact h'))
 obtain⟨r,U,q1,q2,q3,q4,q5⟩:=Zlo (P:=P) (at_:=at_) (ty:=ty) (row:=cs.set Z (.nsub (q+1) n0 V)) (b0:=b0) (o0:=o0) (us:=us) H1 bh aj (λA I S=>by
   rw[w1];rcases J A I S with⟨rfl,rfl⟩|⟨_,h2,_⟩
   ·exact g1 _ _ ab
   ·exact g1 _ _ h2) (λA I S=>by
   rcases J A I S with⟨rfl,rfl⟩|⟨_,h2,_⟩
   ·
    generalize bu:us A=ux at ah;cases ah with
    |pure _ _ hp=>cases hp
    |gsl _ _ a l cc bk hn he bl=>
     have az: .slice a l cc=R.hv k:=he (by rw[(H.blk k _ hk).1,c3]);refine .nsub (q+1) n0 V a l cc aa i ?_ am (by omega) (by rw[aq,az]) ⟨by omega,bl.2⟩;have:=(aE.1 ae).1;rw[m1,<-H.len];exact this
   ·exact(g2 _ _ h2).mono l1) (bL.2 λI au=>by
   obtain⟨A,S⟩:=en.1 au;rcases J A I S with⟨_,rfl⟩|⟨_,_,h3⟩
   ·rfl
   exact Zj7 h3) h0 h1 hu aw hj hz ao bo bc c4
 refine⟨r,U,?_,q2,x1.trans q3,l1.trans q4,q5⟩;rw[a9,<-bg,<-w1];exact q1
end
end Vm
namespace Vm
open Go
def Zba (T:TI) (z:Option Value) (n c:AV) (h:List Zh):Option (AV×List Zh×Cd):=match T.k,n,c,z with
 |.slice _ s b,.int _ x,.int _ y,some z=>if ZI z.cells.size s&&Qb b 1000000&&((XK z).cellsOf.map purify).all XT then
   some (.gsl h.length x,h++[.gar s x λ_=>(XK z).cellsOf.map purify],[dd λ_=>0<=x ()/\x ()=y ()/\x ()<=1000000])else none
 |_,_,_,_=>none
section
variable {P:Program} {R:RC} {G:Nat->Nat->Nat->Prop} {h:List Zh}
theorem HR.garFresh (H:HR G R h) (s:Nat) (x:Unit->Int) (f:(Unit->Int)->List AV) (l:Nat) (hl:x ()=(l:Int)) (arr:Array Value) (el:TypeId) (ae:arr.size=l*s)
  (I:∀A:RC,R.le A->∀i:Nat,i<l->(f (λ_=>(i:Int))).length=s/\∀j c,(f (λ_=>(i:Int)))[j]? =some c->PR A.w A.ok c (arr.getD (i*s+j) undef)):
  ∃A,A.w={R.w with heap:=R.w.heap.push (.cells arr el)}/\HR G A (h++[.gar s x f])/\Xj R h A (h++[.gar s x f])/\R.le A/\A.m=R.m+1/\A.hw R.m=x ()/\A.hv R.m= .slice (some ⟨R.w.heap.size,0,none⟩) l l:=by
 have aa:∀i y,(h++[Zh.gar s x f])[i]? =some y->(i=R.m/\y= .gar s x f)\/(i≠R.m/\h[i]? =some y):=λi y S=>by
  rcases QB S with S|⟨rfl,rfl⟩
  ·exact .inr ⟨λe=>by have:=(aE.1 S).1;rw[H.len]at this;omega,S⟩
  exact .inl ⟨H.len,rfl⟩
 obtain⟨A,a1,a2,a3,a4,a5,a6,a7,_⟩:=H.room R.m (R.m+1) (.gar s x f) (x ()) (.slice (some ⟨R.w.heap.size,0,none⟩) l l) {R.w with heap:=R.w.heap.push (.cells arr el)} (h++[.gar s x f]) (by rw[bA,H.len];rfl) (eK _) aa (λU=>absurd U (dJ _)) (λ_=>False)
  (λb=>⟨λh=>h.elim,λh=>absurd h.1 (dJ _)⟩) rfl rfl rfl (by simp) (λb hb _=>by show(R.w.heap.push _)[b]? =_;rw[bK,iN (by omega)])
  (λb o n Z j _=>by
   have hb:=((H.okd _ _ _).1 Z).1;simp only[bX]
   rw[bK,iN (by omega)])
  (λA V hw ab ac _=>⟨ab,.inr ⟨R.w.heap.size,0,l,l,arr,el,hl,aI _,ac,by rw[hw];simp,by omega,λi U=>⟨(I A V i U).1,λj c hj=>by rw[dD];exact(I A V i U).2 j c hj⟩⟩⟩)
  (λA hv _ b ⟨a,n,c,J,_,Y⟩=>.inl (by rw[hv]at J;cases J;rw[<-Y];exact aI _))
  (λA hv b o n Z ⟨a,n',c,J,_,Y⟩=>by
   have hb:=((H.okd _ _ _).1 Z).1;rw[hv]at J;cases J;simp only at Y
   omega) rfl
 exact⟨A,a1,a5,a6,a7,a2,a4,a3⟩
theorem ZlT {t:TypeId} {T:TI} (hT:ZF P t=some T) {z:Option Value} (hz:∀e s b,T.k= .slice e s b->z=(ZF P e).bind (·.zero)) (H:HR G R h) {n c v:AV} {un uc:Value} {h':List Zh} {cd:Cd} (hn:VR R n un) (ai:VR R c uc)
  (hv:Zba T z n c h=some (v,h',cd)) (hc:ZW cd):∃u I,(Instr.makeSlice t un uc).run P R.w= .ok u I.w/\HR G I h'/\Xj R h I h'/\R.le I/\VR I v u:=by
 unfold Zba at hv;split at hv;case h_2=>cases hv
 rename_i el s b k x k' y z hk;split at hv;case isFalse=>cases hv
 rename_i ae;simp only[aU]at ae;obtain⟨⟨V,Y⟩,e3⟩:=ae;have V:=ZD V;have Y:=Q8 Y;simp only[aC,aK]at hv;obtain⟨rfl,rfl,rfl⟩:=hv;obtain⟨bc,bh,bg⟩:=(Cn.out (hc _ (aN.2 rfl)));obtain rfl:=hn.int_inv;obtain rfl:=ai.int_inv;obtain⟨j,hu,A,hs,hb⟩:=JC hT hk;have ba:=hz _ _ _ hk;obtain⟨TE,aq,az⟩:=ey.1 ba.symm;obtain⟨Z,d0,ab,_,_,_,am,_⟩:=XE aq;have:Z=j:=by rw[A]at ab;simpa using ab.symm
 subst this;have ar:Z.zero=some z:=am▸az;obtain⟨l,hl⟩:=bU bc;have aw:y ()=(l:Int):=by omega
 have w1:IntKind.i64.wrap (l:Int)=(l:Int):=Zb2 _ (by omega);let arr:Array Value:=(fq (l*s)).map ((if l*s=0 then(#[]:Array Value)else z.cells)[· %(if l*s=0 then(#[]:Array Value)else z.cells).size]!);have au:arr.size=l*s:=by simp[arr]
 have ac:=JF (R:=R) z;have ah:∀i j,i<l->j<s->arr.getD (i*s+j) undef=z.cells.getD j undef:=λi j hi A=>by
  have aj:i*s+j<l*s:=by
   have:(i+1)*s<=l*s:=aL s hi;rw[bI]at this;omega
  have S:¬l*s=0:=by omega
  simp only[arr,iN S,aJ,cB];rw[show(fq (l*s))[i*s+j]? =some (i*s+j)from by simp[aj],cL,V];have Y:(i*s+j)%s=j:=by rw[eg,eP,eF A]
  rw[Y];simp[V,A]
 obtain⟨I,hw,H',hx,J,hm,ak,a9⟩:=H.garFresh s x (λ_=>(XK z).cellsOf.map purify) l hl arr el au (λI J i hi=>by
  have U:((XK z).cellsOf.map purify).length=s:=by rw[aX,ac.1,V]
  refine⟨U,λj c A=>?_⟩;have ao:j<s:=by rw[<-U];exact(aE.1 A).1
  rw[ah i j hi ao];rw[aQ,aG]at A;obtain⟨c0,aa,rfl⟩:=A;rw[bL]at e3
  exact((ac.2 j c0 aa).purify (e3 _ (bC.2 ⟨c0,bf aa,rfl⟩))).mono J.ok J.keep J.keepM)
 refine⟨.slice (some ⟨R.w.heap.size,0,none⟩) l l,I,?_,H',hx,J,?_⟩
 ·rw[hw];have t1:¬((Z.bytes:Int)*(l:Int)>2^ 48):=by
   have:(Z.bytes:Int)*(l:Int)<=1000000*1000000:=gY (by omega) (by omega) (by omega) (by omega);omega
  have ha:∀(k:IntKind) (n:Int) (w:World),(asInt (.int k n)).run P w= .ok n w:=λk n w=>by simp[asInt,asIntOf]
  unfold Instr.makeSlice
  simp only[aR,Zw hu,aH,ha,Xo A,hl,aw,w1,aV,run_askRoom,Z3 A,hs,t1,decide_false,eC,bZ,
   show¬((l:Int)<0)from by omega,show¬((l:Int)>(l:Int))from by omega,aY,if_false,zeroValue]
  by_cases S:l*s=0
  ·simp[S,newRow,arr]
  simp[S,newRow,arr,Xo A,ar]
 rw[H.len];exact .gsl R.m x _ l l (by rw[hm];omega) (by rw[ak];exact bS _) (λ_=>a9.symm) ⟨hl,.inr ⟨_,_,rfl⟩⟩
end
end Vm
namespace Vm
open Go
def ZdT (s:Nat) (m:Unit->Int) (f:(Unit->Int)->List AV):Nat->Nat->List AV->Option (List AV)
 |_,0,_=>some []
 |i,k+1,old=>(match QA (λ_=>decide ((i:Int)<m ())) (f λ_=>(i:Int)) (old.take s),ZdT s m f (i+1) k (old.drop s)with
  |some a,some b=>some (a++b)
  |_,_=>none)
def Znc (s0:Nat) (dst A:AV) (h:List Zh):Option (AV×List Zh×Cd):=match dst,A with
 |.msl id s lo n _,.isl s' m f _=>if ZI s s0&&ZI s s' then(match JA h id with
  |some cs=>if Qb ((lo ()).toNat*s+(n ()).toNat*s) cs.length then(match ZdT s m f 0 (n ()).toNat ((cs.drop ((lo ()).toNat*s)).take ((n ()).toNat*s))with
   |some l=>some (.int .i64 λ_=>min (n ()) (m ()),h.set id (.cells (putC cs ((lo ()).toNat*s) l)),[])
   |none=>none)else none
  |none=>none)else none
 |_,_=>none
section
variable {P:Program} {R:RC} {G:Nat->Nat->Nat->Prop} {h:List Zh}
theorem Zfn {s:Nat} {m:Unit->Int} {f:(Unit->Int)->List AV}:∀ {k i:Nat} {old l:List AV},ZdT s m f i k old=some l->old.length=k*s->l.length=k*s/\
  ∀(r j:Nat) (x:AV),r<k->j<s->l[r*s+j]? =some x->∃a c,(f λ_=>((i+r:Nat):Int))[j]? =some a/\old[r*s+j]? =some c/\Mx (λ_=>decide (((i+r:Nat):Int)<m ())) a c x
 |0,_,_,l,h,_=>by
  simp only[ZdT,aC]at h;subst h;exact⟨by simp,λr j x hr=>by omega⟩
 |k+1,i,old,l,h,ho=>by
  simp only[ZdT]at h;split at h;case h_2=>cases h
  rename_i a b U hb;simp only[aC]at h;subst h;rw[bI]at ho;obtain⟨h1,V,h3⟩:=Yh U;obtain⟨Y,Z⟩:=Zfn hb (by rw[dL];omega);have J:a.length=s:=by rw[<-V,bW];omega
  refine⟨by rw[bA,J,Y,bI];omega,λr j x hr S A=>?_⟩;cases r with
  |zero=>
   rw[eA,dD]at A|-;rw[bO (by omega)]at A;obtain⟨p,q,H,G,I⟩:=h3 j x A;rw[cO,iP S]at G;exact⟨p,q,H,G,I⟩
  |succ r=>
   rw[bI]at A|-;rw[dF (by omega),J,show r*s+s+j-s=r*s+j from by omega]at A;obtain⟨p,q,H,G,I⟩:=Z r j x (by omega) S A;rw[dC]at G;rw[show i+1+r=i+(r+1)from by omega]at H I;exact⟨p,q,H,by rw[show r*s+s+j=s+(r*s+j)from by omega];exact G,I⟩
theorem Zth {t el ty:TypeId} {at_:Array TypeId} {j:TypeInfo} (h0:at_[0]? =some t) (hu:P.underlying t=some (.slice el)) (hj:P.info? el=some j) (H:HR G R h) {dst aq v:AV} {ud ac:Value} {h':List Zh} {c:Cd} (hd:VR R dst ud) (I:VR R aq ac)
  (hv:Znc j.size dst aq h=some (v,h',c)):∃u' U,(Builtin.copy_ at_ ty #[ud,ac]).run P R.w= .ok u' U.w/\HR G U h'/\Xj R h U h'/\R.le U/\VR U v u':=by
 unfold Znc at hv;split at hv;case h_2=>cases hv
 rename_i id s lo n cc s' m f tk;split at hv;case isFalse=>cases hv
 rename_i ai;simp only[aU]at ai;have e1:=ZD ai.1;have e2:=ZD ai.2;subst e2;split at hv;case h_2=>cases hv
 rename_i cs ao;split at hv;case isFalse=>cases hv
 rename_i ah;have ah:=Q8 ah;split at hv;case h_2=>cases hv
 rename_i l hl;simp only[aC,aK]at hv;obtain⟨rfl,rfl,rfl⟩:=hv;cases hd with
 |pure _ _ hp=>cases hp
 |msl _ _ _ _ _ i len az b9 bu hn bt bz=>
 have aa:(lo ()).toNat=i:=by omega
 have am:(n ()).toNat=len:=by omega
 rw[aa,am]at ah;rw[aa,am]at hl;rw[aa];obtain⟨bp,bk⟩:=Zfn hl (by rw[bW,dL];omega);obtain⟨arr,ae,h1,h2,h3⟩:=H.blk id _ (Js ao);have hp:=I.isl_inv;obtain⟨nn,V,xa,xc,rfl,hm,ak,ar⟩:∃(nn:Nat) (V:Nat->Nat->Value) (xa:Option Addr) (xc:Nat),ac= .slice xa nn xc/\m ()=(nn:Int)/\
   (∀k,k<=nn->(Builtin.firstCells s k (.slice xa nn xc)).run P R.w= .ok ((aP (k*s)).map λq=>V (q/s) (q%s)).toArray R.w)/\
   (∀i j c,i<nn->(f (λ_=>(i:Int)))[j]? =some c->PR R.w R.ok c (V i j)):=by
  cases hp with
  |isl0 _ _ _ _ hz _=>
   exact⟨0,λ_ _=>undef,none,0,rfl,by omega,λk hk=>by
    have:k=0:=by omega
    subst this
    simp[Builtin.firstCells],λi j c hi=>by omega⟩
  |islE _ _ _ _ a hz _=>
   exact⟨0,λ_ _=>undef,some a,0,rfl,by omega,λk hk=>by
    have:k=0:=by omega
    subst this;rw[eA]
    exact Zaa R.w a s 0 0,λi j c hi=>by omega⟩
  |isl _ _ _ _ b o ln az V hn hc ht he hl h1 h2 h3=>
   refine⟨ln,V,some ⟨b,o,none⟩,az,rfl,hn,λk hk=>?_,h2⟩
   have:=run_loadCells (P:=P) R.w ⟨b,o,none⟩ (k*s) (λq=>V (q/s) (q%s)) (λq A=>by
    have I:0<s:=ep (λe=>by subst e;simp at A);have h4:q/s<k:=(dM I).2 A;have h5:=eJ q I;have h6:=ff q s;rw[QL];have:=h1 (q/s) (q%s) _ (by omega) (aD (by rw[hl _ (by omega)];exact h5));rw[show o+q/s*s+q%s=o+q from by omega]at this
    exact this)
   simpa [Builtin.firstCells]using this
 let k:=g8 nn len;have bq:k<=nn:=iE _ _;have bg:k<=len:=Nat.min_le_right _ _;let S:=(aP (k*s)).map λq=>V (q/s) (q%s);have ca:S.length=k*s:=by simp[S]
 have ce:k*s<=len*s:=aL s bg;have aj:∀r Z,r<len->Z<s->∃a c x,(f λ_=>(r:Int))[Z]? =some a/\((cs.drop (i*s)).take (len*s))[r*s+Z]? =some c/\l[r*s+Z]? =some x/\Mx (λ_=>decide ((r:Int)<m ())) a c x:=λr Z hr bm=>by
  have bw:r*s+Z<len*s:=by
   have:(r+1)*s<=len*s:=aL s hr;rw[bI]at this;omega
  obtain⟨a,c,g1,g2,g3⟩:=bk r Z _ hr bm (aD (by omega));rw[dD]at g1 g3;exact⟨a,c,_,g1,g2,aD (by omega),g3⟩
 have a9:∀v∈S,v.oneCell'=true:=λv hv=>by
  obtain⟨q,A,rfl⟩:=bC.1 hv;rw[bV]at A;have I:0<s:=ep (λe=>by rw[e]at A;simp at A);have h4:q/s<k:=(dM I).2 A;obtain⟨a,c,_,g1,_,_⟩:=aj (q/s) (q%s) (by omega) (eJ q I);exact(ar _ _ _ (by omega) g1).one
 have bh:=run_storeCells_at P (R.α id).b ((R.α id).o+i*s) ae S 0 arr R.w h1 (by omega) a9;let Y:=(arr.toList.take ((R.α id).o+i*s+0)++S++arr.toList.drop ((R.α id).o+i*s+0+S.length)).toArray
 obtain⟨U,hw,bx,ab,H',hx,J⟩:=H.upd (Js ao) rfl (blk':=.cells (putC cs (i*s) l)) rfl (R.w.setRow (R.α id).b Y) rfl rfl rfl (by simp[World.setRow]) (λb hb=>setRow_other R.w (R.α id).b b _ hb) (λU J ab hw=>by
  refine⟨Y,ae,by rw[hw,ab];exact setRow_heap R.w _ arr _ ae _ h1,?_,λq c A=>?_⟩
  ·rw[Ye,ab];simp only[Y,dX,bA,bW,dL,cX];omega
  rw[ab,XR arr S ((R.α id).o+i*s+0) _ (by omega)];rw[Za3 l cs (i*s) q (by omega)]at A;by_cases hin:i*s<=q/\q<i*s+l.length
  ·rw[iP hin]at A;have I:0<s:=ep (λe=>by rw[e,Nat.mul_zero]at bp;omega);have au:q-i*s<len*s:=by omega
   have h4:(q-i*s)/s<len:=(dM I).2 au;have h5:=eJ (q-i*s) I;have h6:=ff (q-i*s) s;obtain⟨a,c0,x0,g1,g2,g3,mx⟩:=aj _ _ h4 h5;rw[h6]at g2 g3;rw[A]at g3;simp only[aC]at g3;subst g3;by_cases hr:(q-i*s)/s<nn
   ·have aw:q-i*s<k*s:=by
     rw[<-dM I];show _<g8 nn len;exact Nat.lt_min.2 ⟨hr,h4⟩
    rw[iP (by omega),show(R.α id).o+q-((R.α id).o+i*s+0)=q-i*s from by omega];have bo:S.getD (q-i*s) undef=V ((q-i*s)/s) ((q-i*s)%s):=by
     simp only[S,aA,aQ];rw[cQ aw];rfl
    rw[bo];exact(mx.vt (iZ (show((((q-i*s)/s:Nat):Int)<m ()) by omega)) (VR.pure _ _ (ar _ _ _ hr g1):VR R _ _)).mono J
   have aw:¬q-i*s<k*s:=by
    rw[<-dM I];show¬_<g8 nn len;intro h;exact hr (Nat.lt_of_lt_of_le h (iE _ _))
   rw[iN (by omega)];have bl:cs[q]? =some c0:=by
    rw[cO,iP au,dC,show i*s+(q-i*s)=q from by omega]at g2;exact g2
   exact(mx.vf (iY (show¬((((q-i*s)/s:Nat):Int)<m ()) by omega)) (h3 q _ bl)).mono J
  rw[iN hin]at A;rw[iN (by omega)]
  exact(h3 q c A).mono J)
 refine⟨.int .i64 (k:Int),U,?_,H',hx,J,VR.mkInt (by show min (n ()) (m ())=((g8 nn len:Nat):Int);rw[hn,hm,show g8 nn len=min nn len from rfl];omega)⟩;unfold Builtin.copy_;have ba:(storeCells ⟨(R.α id).b,(R.α id).o+i*s,none⟩ S).run P R.w= .ok () U.w:=by rw[bh,hw]
 have bc:=ak k bq;simp only[h0,aR,Zw hu,aH,eo,bJ,cN,Builtin.lenOf,bD,Z3 hj,<-e1];rw[show g8 nn len=k from rfl,bc];simp only[aH];rw[ba];rfl
end
end Vm
namespace Vm
open Go
def ZcP (E:Operand->AV) (s:Nat):Nat->List (Nat×Operand)->Option (List (List AV))
 |_,[]=>some []
 |k,(i,x)::r=>if ZI i k&&plain (E x)&&ZI (E x).cellsOf.length s&&((E x).cellsOf.map purify).all XT then(ZcP E s (k+1) r).map (((E x).cellsOf.map purify)::·)else none
def ZuG:AV->Bool
 |.gsl _ _=>true
 |c=>XT c
def Zjc (E:Operand->AV) (s:Nat):List (Nat×Operand)->Option AV
 |[(i,x)]=>if ZI i 0&&plain (E x)&&ZI (E x).cellsOf.length s&&((E x).cellsOf.map purify).all ZuG then some (.lit s ((E x).cellsOf.map purify))else none
 |_=>none
def ZgR (s:Nat) (A:List (List AV)):AV:=.isl s (λ_=>(A.length:Int)) (λe=>A.getD (e ()).toNat (A.headD [])) .exact
def Yj (P:Program) (E:Operand->AV) (t:TypeId) (n:Nat) (ps:List (Nat×Operand)):Option AV:=
 match ZF P t with
 |some T=>(match T.k with
  |.slice e s _=>if ZaH P e s&&ZI ps.length n&&Qb (n*s) 16777216 then(match ZcP E s 0 ps with
   |some A=>some (ZgR s A)
   |none=>Zjc E s ps)else none
  |_=>none)
 |none=>none
def Zkt (A:TyF) (G:TypeId):Option Nat:=zN ((A.ti G).bind (·.zero))
def Za9 (A:TyF) (t:TypeId):Option Zh:=match A.un t with
 |some (.map kt et)=>(match(A.ti et).bind (·.zero)with
  |some (.bool _)=>some (.mapB λ_ _=>false)
  |some (.map none)=>(match A.un et with
   |some (.map kt2 et2)=>(match Zkt A kt,Zkt A kt2,zN ((A.ti et2).bind (·.zero))with
    |some ka,some kb,some n=>some (.gob (.mapM ka kb n λ_=>[]))
    |_,_,_=>none)
   |_=>none)
  |z=>(match Zkt A kt,zN z with
   |some ka,some n=>some (.gob (.mapL ka n λ_=>[]))
   |_,_=>none))
 |_=>none
def JD {α:Type} (L:List (List Int×α)) (k:List Int) (d:α):List (List Int×α):=if L.any (λp=>p.1==k)then L.map (λp=>if p.1==k then(k,d)else p)else L++[(k,d)]
def ZuV (n:Nat):AV->Option (Unit->List Int)
 |.int .i64 a=>if ZI n 0 then some λ_=>[a ()]else none
 |.agg cs=>if ZI n cs.length&&ltN 0 cs.length then ZeH cs else none
 |_=>none
def XV (A:TyF) (t:TypeId) (m k x:AV) (h:List Zh):Option (AV×List Zh×Cd):=match A.un t,m with
 |some (.map kt et),.map id=>(match h[id]? with
  |some (.mapB f)=>(match k,x,A.un kt with
   |.int .i64 n,.bool b,some (.int .i64)=>some (.undef,h.set id (.mapB λe u=>if e ()=n ()then b u else f e u),[])
   |_,_,_=>none)
  |some (.gob (.mapL ka n L))=>(match ZhE A kt ka k,ZuV n x with
   |some g,some d=>some (.undef,h.set id (.gob (.mapL ka n λ_=>JD (L ()) (g ()) (d ()))),[])
   |_,_=>none)
  |some (.gob (.mapM ka kb n L))=>(match ZhE A kt ka k,x with
   |some g,.imap kb' n' L2=>if ZI kb kb'&&ZI n n' then some (.undef,h.set id (.gob (.mapM ka kb n λ_=>JD (L ()) (g ()) (L2 ()))),[])else none
   |_,_=>none)
  |_=>none)
 |_,_=>none
def evE (gr:Bool) (P:Program) (E:Operand->AV) (h:List Zh):Op->Option (AV×List Zh×Cd)
 |.alloc t=>(match ZF P t with
  |some T=>(match T.zero with
   |some z=>some (.ptr h.length 0,h++[.cells (XK z).cellsOf],[])
   |none=>none)
  |none=>none)
 |.box _ x=>if plain (E x)then some (.ptr h.length 0,h++[.cells (E x).cellsOf],[])else none
 |.store t a x=>(match E a,ZF P t with
  |.ptr id off,some T=>(match JA h id with
   |some cs=>if plain (E x)&&ZI (E x).cellsOf.length T.size&&Qb (off+T.size) cs.length&&(E x).cellsOf.all ZlZ then some (.undef,h.set id (.cells (putC cs off (E x).cellsOf)),[])else none
   |none=>none)
  |.aptr id s e off,some T=>ZcX T id s e off (E x) h
  |.gptr id s n e off,some T=>ZcS T id s n e off (E x) h
  |.nptr id s e k off,some T=>ZcT T id s e k off (E x) h
  |_,_=>none)
 |.makeSlice t n c=>(match ZF P t with
  |some T=>(if gr then Zba else Jl) T (match T.k with
   |.slice e _ _=>(ZF P e).bind (·.zero)
   |_=>none) (E n) (E c) h
  |none=>none)
 |.buildSlice t n ps=>(Yj P E t n ps.toList).map λv=>(v,h,[])
 |.makeMap t none=>(match Za9 (tyP P) t with
  |some b=>some (.map h.length,h++[b],[])
  |none=>none)
 |.mapUpdate t m k x=>XV (tyP P) t (E m) (E k) (E x) h
 |.range t x=>(match E x,P.underlying t with
  |.imap ka n L,some (.map _ _)=>some (.mit h.length,h++[.gob (.mapIt ka n L (λ_=>[]) λ_=>([],[]))],[])
  |_,_=>none)
 |.call {callee:=.builtin .append,args,argTypes}=>(match args.toList,argTypes.toList with
  |[x,y],[t,t']=>Zeb gr P t t' (E x) (E y) h
  |_,_=>none)
 |.call {callee:=.builtin .copy,args,argTypes}=>(match args.toList,argTypes.toList with
  |[x,y],t::_=>(match P.underlying t with
   |some (.slice e)=>(match ZF P e with
    |some J=>Znc J.size (E x) (E y) h
    |none=>none)
   |_=>none)
  |_,_=>none)
 |.call {callee:=.builtin .clear,args,argTypes}=>(match args.toList,argTypes.toList with
  |[x],t::_=>(match P.underlying t with
   |some (.slice e)=>(match ZF P e with
    |some J=>Zg8 J.zero J.size (E x) h
    |none=>none)
   |_=>none)
  |_,_=>none)
 |_=>none
section
variable {P:Program} {R:RC} {G:Nat->Nat->Nat->Prop} {h:List Zh}
def J2 (R:RC) (G:Nat->Nat->Nat->Prop) (h:List Zh) (v:AV) (h':List Zh) (r:Result Next):Prop:=
 ∃H u A,r= .ok H A.w/\(H= .value u\/(H= .skip/\u=undef))/\HR G A h'/\Xj R h A h'/\R.le A/\VR A v u
theorem J2.ofValue {v:AV} {h':List Zh} {s:Sem Value} (V:∃u A,s.run P R.w= .ok u A.w/\HR G A h'/\Xj R h A h'/\R.le A/\VR A v u):
  J2 R G h v h' ((do let x<-s;pure (Next.value x):Sem Next).run P R.w):=by
 obtain⟨u,A,J,H,U,I,S⟩:=V;exact⟨.value u,u,A,by rw[aR,J];rfl,.inl rfl,H,U,I,S⟩
theorem J2.ofUnit {h':List Zh} {s:Sem Unit} (U:∃A,s.run P R.w= .ok () A.w/\HR G A h'/\Xj R h A h'/\R.le A):
  J2 R G h .undef h' ((do s;pure Next.skip:Sem Next).run P R.w):=by
 obtain⟨A,J,H,S,I⟩:=U;exact⟨.skip,undef,A,by rw[aR,J];rfl,.inr ⟨rfl,rfl⟩,H,S,I,.undef _⟩
theorem HR.garNew (H:HR G R h) (s:Nat) (n:Unit->Int) (f:(Unit->Int)->List AV) (S:Option Addr) (hn:n ()=0):
  ∃A,A.w=R.w/\HR G A (h++[.gar s n f])/\Xj R h A (h++[.gar s n f])/\R.le A/\A.hv h.length= .slice S 0 0:=by
 have V:∀i x,(h++[Zh.gar s n f])[i]? =some x->(i=R.m/\x= .gar s n f)\/(i≠R.m/\h[i]? =some x):=λi x J=>by
  rcases QB J with J|⟨rfl,rfl⟩
  ·exact .inr ⟨λe=>by have:=(aE.1 J).1;rw[H.len]at this;omega,J⟩
  exact .inl ⟨H.len,rfl⟩
 have I:∀A:RC,A.hv R.m= .slice S 0 0->∀b,¬ZC A R.m (.gar s n f) b:=λA hv b U=>by
  obtain⟨a,k,c,h1,h2,_⟩:=U;rw[hv]at h1;cases h1;omega
 obtain⟨A,a1,a2,a3,a4,a5,a6,a7,_⟩:=H.room R.m (R.m+1) (.gar s n f) 0 (.slice S 0 0) R.w (h++[.gar s n f]) (by rw[bA,H.len];rfl) (eK _) V (λhi=>absurd hi (dJ _)) (λ_=>False)
  (λb=>⟨λh=>h.elim,λh=>absurd h.1 (dJ _)⟩) rfl rfl rfl (aI _) (λ_ _ _=>rfl) (λ_ _ _ _ _ _=>rfl)
  (λA _ _ Y Z _=>⟨by rw[Y,hn],.inl ⟨hn,S,Z⟩⟩)
  (λA hv _ b U=>absurd U (I A hv b))
  (λA hv b o n _=>I A hv b) rfl
 exact⟨A,a1,a5,a6,a7,by rw[H.len];exact a3⟩
theorem Zmu {gr:Bool} (H:HR G R h) {t t' ty:TypeId} {at_:Array TypeId} {dst bt v:AV} {h':List Zh} {c:Cd} {u x:Value} (hd:VR R dst u) (hs:VR R bt x) (h0:at_[0]? =some t) (S:at_[1]? =some t')
  (hv:Zeb gr P t t' dst bt h=some (v,h',c)) (hc:ZW c):∃r J,(Builtin.append_ at_ ty #[u,x]).run P R.w= .ok r J.w/\HR G J h'/\Xj R h J h'/\R.le J/\VR J v r:=by
 unfold Zeb at hv;split at hv;case h_2=>cases hv
 rename_i e e' hu I;split at hv;case h_5=>cases hv
 case h_4=>
  rename_i s n f id a l;unfold ZcY at hv;split at hv;case isFalse=>cases hv
  rename_i am;simp only[aU]at am;obtain⟨j,z,Z,hz,ae,V,aj⟩:=YT am.2;split at hv;case h_2=>cases hv
  rename_i zf sf N m g hi;split at hv;case isFalse=>cases hv
  rename_i U;have U:=ZD U;subst U;simp only[aC,aK]at hv;obtain⟨rfl,rfl,rfl⟩:=hv;obtain⟨ai,cg⟩:=(Cn.out (hc _ (aW ..)));have ao:n ()+l ()<=1000000:=(Cn.out (hc _ (aS _ (aN.2 rfl))));obtain⟨a0,rfl⟩:∃a0:Option Addr,u= .slice a0 0 0:=by
   cases hd with
   |pure _ _ hp=>
    cases hp with
    |isl0 _ _ _ _ hz _=>exact⟨none,rfl⟩
    |islE _ _ _ _ a _ _=>exact⟨some a,rfl⟩
    |isl _ _ _ _ b o len A us cf _ ht he _ _ _ _=>
     have S:=he rfl;have h2:len=0:=by omega
     exact⟨some ⟨b,o,none⟩,by rw[S,h2]⟩
  obtain⟨bm,w1,H1,x1,l1,v1⟩:=H.garNew s n f a0 ai;have ce:Src P bm s l (g a) x:=by
   obtain⟨_,_,us,ck,_,bx,_⟩:=H1.blk id _ (by rw[bO (aE.1 hi).1];exact hi);have ab:=hs.mono l1;generalize x=x0 at ab;cases ab with
   |pure _ _ hp=>cases hp
   |nsub _ _ _ q ll cc ct i ak bu he I hl=>
    rw[ck]at bu;cases bu;have cj:a=λ_=>(i:Int):=funext λ_=>he;subst cj;exact .arr ((bx i _ I).cong cg (λ_ _=>rfl) λ_ _ _ c hc=>⟨c,hc,λ_ h=>h⟩)
  obtain⟨r,J,q1,q2,q3,q4,q5⟩:=ZeN (P:=P) (at_:=at_) (ty:=ty) (n0:=n) (f:=f) H1 (id:=h.length) (by simp) ce h0 S hu I Z hz ae V aj ao;have e:(h++[Zh.gar s n f]).set h.length (.gar s (λ_=>n ()+l ()) (Z0 n f (g a)))=h++[.gar s (λ_=>n ()+l ()) (Z0 n f (g a))]:=by simp
  rw[e]at q2 q3;rw[v1,w1]at q1;exact⟨r,J,q1,q2,x1.trans q3,l1.trans q4,q5⟩
 case h_3=>exact ZjA H hd hs h0 S hu I hv hc
 case h_2=>
  rename_i id n sz m g cn;split at hv;case isFalse=>cases hv
  rename_i am;obtain⟨j,z,Z,hz,ae,V,aj⟩:=YT am;split at hv;case h_2=>cases hv
  rename_i s n0 f hi;split at hv;case isFalse=>cases hv
  rename_i U;have U:=ZD U;subst U;simp only[aC,aK]at hv;obtain⟨rfl,rfl,rfl⟩:=hv;have ba:=(Cn.out (hc _ (aW ..)));have bl:=(Cn.out (hc _ (aS _ (aN.2 rfl))));cases hd with
  |pure _ _ hp=>cases hp
  |gsl _ _ a l c' ak hn he _=>
  rw[he (by rw[ba];exact(H.blk id _ hi).1.symm)];exact ZeN H hi (.of hs.isl_inv) h0 S hu I Z hz ae V aj bl
 rename_i b9 n f tk sz m g cn;split at hv;case isFalse=>cases hv
 rename_i am;obtain⟨j,z,Z,hz,ae,V,aj⟩:=YT am;have ac:=hs.isl_inv;have aa:=hd.isl_inv;have cy:0<=n ():=by cases aa<;>omega
 have cw:0<=m ():=by cases ac<;>omega
 have fresh:(b9=sz\/n ()=0)->n ()+m ()<=1000000->(∀a len A,u= .slice a len A->A=len)->
   ∃r J,(Builtin.append_ at_ ty #[u,x]).run P R.w= .ok r J.w/\HR G J (h++[.tok sz λ_=>n ()+m ()])/\Xj R h J (h++[.tok sz λ_=>n ()+m ()])/\R.le J/\VR J (.isl sz (λ_=>n ()+m ()) (Z0 n f g) (.own h.length)) r:=by
  intro U ao bw;have ah:∀i y,(h++[.tok sz λ_=>n ()+m ()])[i]? =some y->(i=h.length/\y= .tok sz λ_=>n ()+m ())\/(i≠h.length/\h[i]? =some y):=λi y hy=>by
   rcases QB hy with hy|⟨rfl,rfl⟩
   ·exact .inr ⟨λe=>by have:=(aE.1 hy).1;omega,hy⟩
   exact .inl ⟨rfl,rfl⟩
  have ak:(h++[.tok sz λ_=>n ()+m ()])[h.length]? =some (.tok sz λ_=>n ()+m ()):=by simp
  have au:¬h.length<R.m:=by rw[H.len];omega
  by_cases hm0:m ()=0
  ·obtain⟨J,hw,H',hx,aq,bk⟩:=Zfz H aa U hm0 (m':=R.m+1) (by rw[bA,H.len];rfl) (eK _) ah ak (λh=>absurd h au) (λ_=>by
     cases aa with
     |isl0 _ _ _ _ _ _=>exact .inl ⟨_,rfl⟩
     |islE _ _ _ _ _ _ _=>exact .inl ⟨_,rfl⟩
     |isl _ _ _ _ b o len A us _ _ _ _ _ _ _ _=>have:=bw _ _ _ rfl;subst this;exact .inr ⟨_,_,rfl⟩)
    (λh=>absurd h au) (λh=>absurd h au) (λs0 az h=>by rw[cE (aI _)]at h;cases h)
   obtain⟨xa,nn,xc,ci,new,rfl,hm,_,_,bo,Y,_⟩:=XI (P:=P) ac;have ai:nn=0:=by omega
   subst ai;have ar:new=[]:=cT (by simpa using bo);subst ar;subst V;refine⟨u,J,?_,H',hx,aq,bk⟩;rw[hw];cases aa with
   |isl0 _ _ _ _ _ _=>exact Qo h0 S hu I Z none xa 0 0 xc 0 #[] R.w R.w (Y _ rfl) (by omega) (λa h=>by cases h) (λ_=>rfl)
   |islE _ _ _ _ a _ _=>exact Qo h0 S hu I Z (some a) xa 0 0 xc 0 #[] R.w R.w (Y _ rfl) (by omega) (λa _=>rfl) (λh=>by cases h)
   |isl _ _ _ _ b o len A us _ bz _ _ _ _ _ _=>exact Qo h0 S hu I Z _ xa len A xc 0 #[] R.w R.w (Y _ rfl) (by omega) (λa _=>rfl) (λh=>by cases h)
  exact Zhj H aa U ac h0 S hu I Z hz ae V aj ao (λa len A hh=>by have:=bw _ _ _ hh;omega) (m':=R.m+1) (by rw[bA,H.len];rfl) (eK _) ah ak (λh=>absurd h au)
 split at hv
 ·simp only[aC,aK]at hv;obtain⟨rfl,rfl,rfl⟩:=hv;have bg:u= .slice none 0 0/\n ()=0:=by
   cases hd with
   |pure _ _ hp=>
    cases hp with
    |isl0 _ _ _ _ hz _=>exact⟨rfl,hz⟩
    |islE _ _ _ _ _ _ ht=>rcases ht with h|h<;>cases h
    |isl _ _ _ _ _ _ _ _ _ _ _ ht _ _ _ _ _=>rcases ht with h|h<;>cases h
  exact fresh (.inr bg.2) ((Cn.out (hc _ (aN.2 rfl)))) (λa len A hh=>by rw[bg.1]at hh;cases hh;rfl)
 ·split at hv;case isFalse=>cases hv
  rename_i ab;split at hv
  ·simp only[aC,aK]at hv;obtain⟨rfl,rfl,rfl⟩:=hv;have ai:n ()=0:=(Cn.out (hc _ (aW ..)));have ao:n ()+m ()<=1000000:=(Cn.out (hc _ (aS _ (aN.2 rfl))));obtain⟨a0,rfl⟩:∃a0:Option Addr,u= .slice a0 0 0:=by
    cases hd with
    |pure _ _ hp=>
     cases hp with
     |isl0 _ _ _ _ hz _=>exact⟨none,rfl⟩
     |islE _ _ _ _ a _ _=>exact⟨some a,rfl⟩
     |isl _ _ _ _ b o len A us cf _ ht he _ _ _ _=>
      have S:=he rfl;have h2:len=0:=by omega
      exact⟨some ⟨b,o,none⟩,by rw[S,h2]⟩
   obtain⟨bm,w1,H1,x1,l1,v1⟩:=H.garNew sz n f a0 ai;obtain⟨r,J,q1,q2,q3,q4,q5⟩:=ZeN (P:=P) (at_:=at_) (ty:=ty) (n0:=n) (f:=f) H1 (id:=h.length) (by simp) (.of (ac.mono l1.ok l1.keep l1.keepM)) h0 S hu I Z hz ae V aj ao;have e:(h++[Zh.gar sz n f]).set h.length (.gar sz (λ_=>n ()+m ()) (Z0 n f g))=h++[.gar sz (λ_=>n ()+m ()) (Z0 n f g)]:=by simp
   rw[e]at q2 q3;rw[v1,w1]at q1;exact⟨r,J,q1,q2,x1.trans q3,l1.trans q4,q5⟩
  simp only[aC,aK]at hv;obtain⟨rfl,rfl,rfl⟩:=hv;refine fresh (.inl (ZD ab)) ((Cn.out (hc _ (aN.2 rfl)))) (λa len A hh=>?_);cases hd with
  |pure _ _ hp=>
   cases hp with
   |isl0 _ _ _ _ hz _=>cases hh;rfl
   |islE _ _ _ _ _ _ _=>cases hh;rfl
   |isl _ _ _ _ _ _ _ _ _ _ _ ht he _ _ _ _=>cases hh;exact he rfl
 ·rename_i id;split at hv;case isFalse=>cases hv
  rename_i ab;have ab:=ZD ab;subst ab;split at hv;case h_2=>cases hv
  rename_i s az hi;split at hv;case isFalse=>cases hv
  rename_i bh;have bh:=ZD bh;subst bh;simp only[aC,aK]at hv;obtain⟨rfl,rfl,rfl⟩:=hv;have ba:n ()=az ():=(Cn.out (hc _ (aW ..)));have bl:n ()+m ()<=1000000:=(Cn.out (hc _ (aS _ (aW ..))));have ca:id<R.m:=H.len▸(aE.1 hi).1;obtain⟨aw,bp⟩:=H.blk id _ hi;have a9:R.hv id=u:=by
   cases hd with
   |pure _ _ hp=>
    cases hp with
    |isl0 _ _ _ _ _ ht=>cases ht
    |islE _ _ _ _ _ _ ht=>rcases ht with h|h<;>cases h
    |isl _ _ _ _ _ _ _ _ _ _ _ ht _ _ _ _ _=>rcases ht with h|h<;>cases h
   |own _ _ _ _ _ _ _ _ he=>exact(he (by rw[aw];exact ba)).symm
  have ah:∀i y,(h.set id (.tok s λ_=>n ()+m ()))[i]? =some y->(i=id/\y= .tok s λ_=>n ()+m ())\/(i≠id/\h[i]? =some y):=λi y hx=>by
   rw[bR]at hx;split at hx
   ·rename_i e;subst e;split at hx
    ·simp only[aC]at hx;exact .inl ⟨rfl,hx.symm⟩
    cases hx
   rename_i e;exact .inr ⟨λh=>e h.symm,hx⟩
  have ak:(h.set id (.tok s λ_=>n ()+m ()))[id]? =some (.tok s λ_=>n ()+m ()):=by rw[bR];simp[(aE.1 hi).1]
  have bc:(h.set id (.tok s λ_=>n ()+m ())).length=R.m:=by rw[bP];exact H.len
  by_cases hm0:m ()=0
  ·obtain⟨J,hw,H',hx,aq,bk⟩:=Zfz H aa (.inl rfl) hm0 bc (aI _) ah ak (λ_=>⟨s,az,hi,by rw[aw];omega,λ_=>a9.symm⟩) (λh=>absurd ca h)
    (λ_=>by
     rw[a9]at bp;rcases bp with⟨a1,a2⟩|⟨b,o,len,A,a1,a2,a3,a4⟩
     ·exact .inl ⟨by omega,a2⟩
     exact .inr ⟨b,o,len,A,by omega,a2,a3,a4⟩) (λ_=>a9.symm) (λs0 cu h=>by rw[hi]at h;cases h;rfl)
   obtain⟨xa,nn,xc,ci,new,rfl,hm,_,_,bo,Y,_⟩:=XI (P:=P) ac;have ai:nn=0:=by omega
   subst ai;have ar:new=[]:=cT (by simpa using bo);subst ar;subst V;refine⟨u,J,?_,H',hx,aq,bk⟩;rw[hw];cases aa with
   |isl0 _ _ _ _ _ _=>exact Qo h0 S hu I Z none xa 0 0 xc 0 #[] R.w R.w (Y _ rfl) (by omega) (λa h=>by cases h) (λ_=>rfl)
   |islE _ _ _ _ a _ _=>exact Qo h0 S hu I Z (some a) xa 0 0 xc 0 #[] R.w R.w (Y _ rfl) (by omega) (λa _=>rfl) (λh=>by cases h)
   |isl _ _ _ _ b o len A us _ bz _ _ _ _ _ _=>exact Qo h0 S hu I Z _ xa len A xc 0 #[] R.w R.w (Y _ rfl) (by omega) (λa _=>rfl) (λh=>by cases h)
  by_cases hroom:∀a len A,u= .slice a len A->(len:Int)+m ()<=A
  ·exact Zop H aa ac h0 S hu I Z V hi a9 (by rw[aw];exact ba.symm) (by omega) hroom
  refine Zhj H aa (.inl rfl) ac h0 S hu I Z hz ae V aj bl (λa len A hh hl=>hroom (λa' cq cr bq=>?_)) bc (aI _) ah ak (λ_=>⟨s,az,hi,by rw[aw];omega⟩);rw[hh]at bq;cases bq;exact hl
 ·cases hv
 cases hv
theorem ZqR (A:Nat):∀(H:List Value) (q:Nat) (G:Array Value),((H.zipIdx q).foldl (λcs (p:Value×Nat)=>cs.setIfInBounds (A+p.2) p.1) G).size=G.size/\
  ∀t,((H.zipIdx q).foldl (λcs (p:Value×Nat)=>cs.setIfInBounds (A+p.2) p.1) G)[t]? =if A+q<=t/\t<A+q+H.length/\t<G.size then H[t-(A+q)]? else G[t]? :=by
 intro H;induction H with
 |nil=>intro q G;exact⟨rfl,λt=>by simp;omega⟩
 |cons v H J=>
  intro q G;simp only[gL,dR];obtain⟨I,S⟩:=J (q+1) (G.setIfInBounds (A+q) v);refine⟨by rw[I];simp,λt=>?_⟩;rw[S];simp only[fe,bF];by_cases c1:A+(q+1)<=t/\t<A+(q+1)+H.length/\t<G.size
  ·rw[iP c1,iP (by omega),show t-(A+q)=(t-(A+(q+1)))+1 from by omega,cN]
  rw[iN c1,bT];by_cases c2:A+q=t
  ·subst c2;by_cases c3:A+q<G.size
   ·rw[iP rfl,iP c3,iP (by omega)];simp
   rw[iP rfl,iN c3,iN (by omega),eI (by omega)]
  rw[iN c2,iN (by omega)]
theorem ZqS {s:Nat} {v:Value} {cells:Array Value} (hv:v.cells.size=s) (H:cells.size=s):∃arr,Instr.fill (λi=>some (i*s,s)) cells [(0,v)]=some arr/\arr.size=s/\∀k,k<s->arr[k]? =v.cells[k]? :=by
 obtain⟨G,A⟩:=ZqR (0*s) v.cells.toList 0 cells;refine⟨(v.cells.toList.zipIdx 0).foldl (λcs (p:Value×Nat)=>cs.setIfInBounds (0*s+p.2) p.1) cells,?_,G.trans H,λk I=>?_⟩
 ·simp only[Instr.fill];rw[iN (by rw[hv];simp;omega)];rw[<-fI];have e:v.cells.zipIdx.toList=v.cells.toList.zipIdx:=by simp
  rw[e]
 rw[A,iP (by simp[hv];omega)];simp
theorem ZqF {c:AV} {u:Value} (hv:VR R c u) (G:ZuG (purify c)=true):VR R (purify c) u:=by
 by_cases hp:XT (purify c)=true
 ·exact .pure _ _ (hv.purify hp)
 have A:purify c=c:=by
  cases c with
  |isl s n f tk=>cases tk<;>first|rfl|exact absurd rfl hp
  |_=>rfl
 rw[A];exact hv
theorem ZeR {E:Operand->AV} {ρ:Operand->Value} {s:Nat}:∀(ps:List (Nat×Operand)) (k:Nat) (A:List (List AV)) (cells:Array Value),ZcP E s k ps=some A->(k+ps.length)*s=cells.size->(∀p∈ps,VR R (E p.2) (ρ p.2))->
  ∃arr,Instr.fill (λi=>some (i*s,s)) cells (ps.map λp=>(p.1,ρ p.2))=some arr/\arr.size=cells.size/\A.length=ps.length/\(∀i,i<k*s->arr[i]? =cells[i]?)/\
   ∀i r,A[i]? =some r->r.length=s/\∀j c,r[j]? =some c->PR R.w R.ok c (arr.getD ((k+i)*s+j) undef)
 |[],k,A,cells,hl,hsz,_=>by
  simp only[ZcP,aC]at hl;subst hl;exact⟨cells,rfl,rfl,rfl,λ_ _=>rfl,λi r h=>by simp at h⟩
 |(i,x)::ps,k,A,cells,hl,hsz,hE=>by
  simp only[ZcP]at hl;split at hl;case isFalse=>cases hl
  rename_i ab;simp only[aU]at ab;obtain⟨⟨⟨V,J⟩,I⟩,ae⟩:=ab;have V:=ZD V;have I:=ZD I;subst V;simp only[aG]at hl;obtain⟨Y,hr,rfl⟩:=hl;have U:=Jr (hE (i,x) (aW ..)) (λg y e=>by rw[e]at J;cases J) (λe=>by rw[e]at J;cases J);have ac:(ρ x).cells.size=s:=by rw[<-U.1,I]
  have ah:(i+1+ps.length)*s=cells.size:=by rw[<-hsz,bF];congr 1;omega
  have aa:∀(H:List Value) (q:Nat) (G:Array Value),((H.zipIdx q).foldl (λcs (p:Value×Nat)=>cs.setIfInBounds (i*s+p.2) p.1) G).size=G.size/\
    ∀t,((H.zipIdx q).foldl (λcs (p:Value×Nat)=>cs.setIfInBounds (i*s+p.2) p.1) G)[t]? =if i*s+q<=t/\t<i*s+q+H.length/\t<G.size then H[t-(i*s+q)]? else G[t]? :=by
   intro H;induction H with
   |nil=>intro q G;exact⟨rfl,λt=>by simp;omega⟩
   |cons v H ih=>
    intro q G;simp only[gL,dR];obtain⟨i1,i2⟩:=ih (q+1) (G.setIfInBounds (i*s+q) v);refine⟨by rw[i1];simp,λt=>?_⟩;rw[i2];simp only[fe,bF];by_cases c1:i*s+(q+1)<=t/\t<i*s+(q+1)+H.length/\t<G.size
    ·rw[iP c1,iP (by omega),show t-(i*s+q)=(t-(i*s+(q+1)))+1 from by omega,cN]
    rw[iN c1,bT];by_cases c2:i*s+q=t
    ·subst c2;by_cases c3:i*s+q<G.size
     ·rw[iP rfl,iP c3,iP (by omega)];simp
     rw[iP rfl,iN c3,iN (by omega),eI (by omega)]
    rw[iN c2,iN (by omega)]
  obtain⟨f1,f2⟩:=aa (ρ x).cells.toList 0 cells;have ak:i*s+s<=cells.size:=by
   have:(i+1)*s<=(i+1+ps.length)*s:=aL _ (by omega);rw[bI]at this;omega
  obtain⟨arr,a1,a2,a3,a4,a5⟩:=ZeR ps (i+1) Y _ hr (by rw[f1];exact ah) (λp hp=>hE p (aS _ hp));refine⟨arr,?_,by rw[a2,f1],by simp[a3],λt ht=>?_,λq r Z=>?_⟩
  ·simp only[bY,Instr.fill];rw[iN (by rw[ac];simp;omega)];rw[<-fI];have e:(ρ x).cells.zipIdx.toList=(ρ x).cells.toList.zipIdx:=by simp
   rw[e];exact a1
  ·rw[a4 t (by rw[bI];omega),f2,iN (by omega)]
  cases q with
  |zero=>
   simp only[bJ,aC]at Z;subst Z;refine⟨by simp[I],λj c hj=>?_⟩;rw[aQ,aG]at hj;obtain⟨c0,S,rfl⟩:=hj;have aj:j<s:=by rw[<-I];exact(aE.1 S).1
   have hv:=U.2 j c0 S;have ai:XT (purify c0)=true:=by
    rw[bL]at ae;exact ae _ (bC.2 ⟨c0,bf S,rfl⟩)
   have:=hv.purify ai;have e:arr.getD ((i+0)*s+j) undef=(ρ x).cells.getD j undef:=by
    rw[aJ,aJ,dS,a4 _ (by rw[bI];omega),f2,iP (by simp[ac];omega)];simp
   rw[e];exact this
  |succ q=>
   rw[cN]at Z;obtain⟨b1,b2⟩:=a5 q r Z;exact⟨b1,λj c hj=>by rw[show i+(q+1)=i+1+q from by omega];exact b2 j c hj⟩
theorem Zhf (H:HR G R h) {E:Operand->AV} {ρ:Operand->Value} {t:TypeId} {n:Nat} {ps:Array (Nat×Operand)} {v:AV} (hE:∀p∈ps.toList,VR R (E p.2) (ρ p.2)) (hv:Yj P E t n ps.toList=some v):
  ∃u J,(Instr.buildSlice t n (ps.map λ(i,x)=>(i,ρ x))).run P R.w= .ok u J.w/\HR G J h/\Xj R h J h/\R.le J/\VR J v u:=by
 unfold Yj at hv;split at hv;case h_2=>cases hv
 rename_i T hT;split at hv;case h_2=>cases hv
 rename_i e s eb I;split at hv;case isFalse=>cases hv
 rename_i Y;simp only[aU]at Y;obtain⟨⟨az,U⟩,ak⟩:=Y;have U:=ZD U;have ak:=Q8 ak;obtain⟨j,hu,hj,hs,_⟩:=JC hT I;obtain⟨j',z,au,hz,bp,bm,_⟩:=YT az;rw[hj]at au;cases au;split at hv;case h_2=>
  unfold Zjc at hv;split at hv;case h_2=>cases hv
  rename_i i x am;split at hv;case isFalse=>cases hv
  rename_i Y;simp only[aU]at Y;obtain⟨⟨⟨aq,ac⟩,ae⟩,ba⟩:=Y;have aq:=ZD aq;have ae:=ZD ae;simp only[aC]at hv;subst hv aq;have aw:n=1:=by rw[<-U,am];rfl
  subst aw;have ai:=Jr (hE (0,x) (by rw[am];exact aN.2 rfl)) (λg y e=>by rw[e]at ac;cases ac) (λe=>by rw[e]at ac;cases ac);have bc:(ρ x).cells.size=s:=by rw[<-ai.1,ae]
  obtain⟨arr,V,a2,a3⟩:=ZqS (s:=s) (cells:=(fq (1*s)).map λk=>(if 1*s=0 then #[]else z.cells)[k%(if 1*s=0 then #[]else z.cells).size]!) bc (by simp);obtain⟨J,hw,hm,bh,bg,bk,H',hx,S,aa⟩:=H.make (.cells arr e);refine⟨.slice (some ⟨R.w.heap.size,0,none⟩) 1 1,J,?_,H',hx,S,?_⟩
  ·have aj:(ps.map λ(i,x)=>(i,ρ x)).toList=[(0,ρ x)]:=by simp[am]
   unfold Instr.buildSlice;simp only[aR,Zw hu,aH,Z3 hj,hs,aj];rw[iN (by omega)];rw[hw];by_cases hns:1*s=0
   ·simp only[iP hns]at V|-;simp only[aR,bD,aH];rw[V];rfl
   simp only[iN hns]at V|-;simp only[aR,bD,aH,zeroValue,Xo hj,hz];rw[V];rfl
  have ab:J.w.heap[R.w.heap.size]? =some (.cells arr e (0,0)):=by rw[hw];simp
  have ao:((E x).cellsOf.map purify).length=s:=by rw[aX];exact ae
  refine .lit s _ R.w.heap.size 0 (λk=>arr.getD k undef) ao (λk c I=>?_) (λk c I=>?_) (aa _ _)
  ·have ah:k<s:=by rw[<-ao];exact(aE.1 I).1
   rw[dD];exact Z1 ab (by omega)
  have ah:k<s:=by rw[<-ao];exact(aE.1 I).1
  rw[aQ,aG]at I;obtain⟨c0,ar,rfl⟩:=I;have e1:arr.getD k undef=(ρ x).cells.getD k undef:=by
   rw[aJ,aJ,a3 k ah]
  rw[e1];exact(ZqF (ai.2 k c0 ar) (bL.1 ba _ (bC.2 ⟨c0,bf ar,rfl⟩))).mono S
 rename_i A hr;simp only[aC]at hv;subst hv;obtain⟨arr,V,a2,a3,a4,a5⟩:=ZeR (R:=R) (ρ:=ρ) ps.toList 0 A ((fq (n*s)).map λk=>(if n*s=0 then #[]else z.cells)[k%(if n*s=0 then #[]else z.cells).size]!) hr (by simp[U]) hE;obtain⟨J,hw,hm,bh,bg,bk,H',hx,S,aa⟩:=H.make (.cells arr e);refine⟨.slice (some ⟨R.w.heap.size,0,none⟩) n n,J,?_,H',hx,S,.pure _ _ ?_⟩
 ·have aj:(ps.map λ(i,x)=>(i,ρ x)).toList=ps.toList.map λp=>(p.1,ρ p.2):=by simp
  unfold Instr.buildSlice;simp only[aR,Zw hu,aH,Z3 hj,hs,aj];rw[iN (by omega)];rw[hw];by_cases hns:n*s=0
  ·simp only[iP hns]at V|-;simp only[aR,bD,aH];rw[V];rfl
  simp only[iN hns]at V|-;simp only[aR,bD,aH,zeroValue,Xo hj,hz];rw[V];rfl
 have a9:A.length=n:=by rw[a3,cX];rw[cX]at U;exact U
 have ab:J.w.heap[R.w.heap.size]? =some (.cells arr e (0,0)):=by rw[hw];simp
 have bo:arr.size=n*s:=by rw[a2];simp
 refine .isl _ _ _ _ R.w.heap.size 0 n n (λi k=>arr.getD (i*s+k) undef) (by show(A.length:Int)=n;rw[a9]) (aI _) (.inr rfl) (λ_=>rfl) (λi hi=>?_) (λi k c hi I=>?_) (λi k c hi I=>?_) (aa _ _)
 ·have:A[i]? =some A[i]:=aD (by omega);show(A.getD (i:Int).toNat (A.headD [])).length=s;rw[aV,aA,this];exact(a5 i _ this).1
 ·have Z:A[i]? =some A[i]:=aD (by omega);replace I:(A.getD (i:Int).toNat (A.headD []))[k]? =some c:=I;rw[aV,aA,Z]at I;have ah:k<s:=by rw[<-(a5 i _ Z).1];exact(aE.1 I).1
  have bl:i*s+s<=n*s:=by
   have:(i+1)*s<=n*s:=aL _ hi;rwa [bI]at this
  rw[dD];exact Z1 ab (by omega)
 have Z:A[i]? =some A[i]:=aD (by omega);replace I:(A.getD (i:Int).toNat (A.headD []))[k]? =some c:=I;rw[aV,aA,Z]at I;have:=(a5 i _ Z).2 k c I;rw[dD]at this;exact this.mono S.ok S.keep S.keepM
end
end Vm
namespace Vm
open Go
section
variable {P:Program} {R:RC} {G:Nat->Nat->Nat->Prop} {h:List Zh}
theorem Zhw (d n:Nat) (x:List Int):Instr.sameBits (d+2) (Xl n x) (Xl n x)=true:=by
 cases n with
 |zero=>simp[Xl,Instr.sameBits]
 |succ n=>
  have A:∀(m:Nat) (x:List Int),((QI m x).zip (QI m x)).all (λp=>Instr.sameBits (d+1) p.1 p.2)=true:=by
   intro m;induction m with
   |zero=>intro x;rfl
   |succ m G=>intro x;simp only[QI,List.zip_cons_cons,List.all_cons,G];simp[Instr.sameBits]
  simp only[Xl,Instr.sameBits,beq_self_eq_true,Bool.true_and];exact A (n+1) x
theorem Za0 {α A:Type} {f:A->A} {k:A->List Int} {x:List Int} {d:A}:∀(l:List (α×A)) (i:Nat) (p:α×A),l[i]? =some p->k p.2=x->(l.map λq=>k q.2).Nodup->(∀q,k q=x->f q=d)->(∀q,k q≠x->f q=q)->∀a:α,(l.set i (a,d)).map (·.2)=(l.map (·.2)).map f
 |[],i,p,h,_,_,_,_,a=>by simp at h
 |q::l,0,p,h,hp,hn,h1,h2,a=>by
  simp only[bJ,aC]at h;subst h;rw[bY,ek]at hn;simp only[List.set_cons_zero,bY,h1 _ hp,cC,true_and];rw[List.map_map];refine List.map_congr_left λr hr=>?_;exact(h2 r.2 λe=>hn.1 (bC.2 ⟨r,hr,e.trans hp.symm⟩)).symm
 |q::l,i+1,p,h,hp,hn,h1,h2,a=>by
  rw[bY,ek]at hn;have h:l[i]? =some p:=by simpa using h
  have G:k q.2≠x:=λe=>hn.1 (bC.2 ⟨p,bf h,hp.trans e.symm⟩);simp only[List.set_cons_succ,bY,h2 _ G,cC,true_and];exact Za0 l i p h hp hn.2 h1 h2 a
theorem Zgg {α:Type} {V:α->Value->Prop} {t kt et:TypeId} {A:Nat} (hu:P.underlying t=some (.map kt et)) (aa:keyT P kt A=true) {x:List Int} (hx:x.length=Zks A) (R:RC) {w:World} {b:Nat} {es:Array MapEntry} {clk:Nat} {L:List (List Int×α)} (S:w.heap[b]? =some (.map es clk))
  (hm:Ze6 A V es clk L) {v:Value} {d:α} (hd:V d v):∃ab Y,(Instr.mapUpdate t (.map (some b)) (Xl A x) v).run P w=(setObj b (.map ab Y)).run P w/\Ze6 A V ab Y (JD L x d):=by
 obtain⟨l,hm⟩:=hm;have ai:=λem=>Zdb (P:=P) em aa hx w;have ae:(getObj b).run P w= .ok (.map es clk) w:=by simp[getObj,Sem.run,S]
 have am:=hm.keys;unfold Instr.mapUpdate;rcases ZdO aa hx R w hm with⟨H,J⟩|⟨i,p,H,J,h3⟩
 ·refine⟨es.push {key:=Xl A x,val:=v,born:=clk},clk+1,?_,l++[({key:=Xl A x,val:=v,born:=clk},(x,d))],?_,?_,?_,?_,?_⟩
  ·simp only[aR,Zw hu,aH,ae,ai,H]
  ·simp[hm.es]
  ·have ak:L.any (λp=>p.1==x)=false:=by
    rw[List.any_eq_false];intro p I;have:p∈l.map (·.2):=hm.L.mem_iff.2 I;obtain⟨q,G,rfl⟩:=bC.1 this;simpa using J q G
   unfold JD;rw[ak];simp only[aY,if_false,cY,bY,List.map_nil];exact hm.L.append_right _
  ·rw[cY,fP];refine⟨hm.nd,by simp,λa ha b S=>?_⟩;simp at S;subst S;obtain⟨q,G,rfl⟩:=bC.1 ha;exact J q G
  ·rw[cY,fP];refine⟨hm.bn,by simp,λa ha b S=>?_⟩;simp at S;subst S;obtain⟨q,G,rfl⟩:=bC.1 ha;have:=(hm.e q G).2.2.2;omega
  intro p I;rcases cP.1 I with I|I
  ·obtain⟨a1,a2,a3,a4⟩:=hm.e p I;exact⟨a1,a2,a3,by omega⟩
  simp at I;subst I;exact⟨rfl,hd,hx,Nat.lt_succ_self _⟩
 have ac:=bf H;obtain⟨k1,k2,k3,k4⟩:=hm.e p ac;have U:i<l.length:=(aE.1 H).1;have ah:es[i]? =some p.1:=by
  rw[<-bN,<-hm.es,aQ,H];rfl
 have Z:(Instr.keyThatStays (((es[i]?).map (·.key)).getD (Xl A x)) (Xl A x)).run P w= .ok (Xl A x) w:=by
  rw[ah];simp only[cL,cA,k1,J];have:=Zhw 9998 A x;simp only[Instr.keyThatStays,this,if_true,bD]
 refine⟨es.modify i λe=>{e with key:=Xl A x,val:=v},clk,?_,l.set i ({p.1 with key:=Xl A x,val:=v},(x,d)),?_,?_,?_,?_,?_⟩
 ·simp only[aR,Zw hu,aH,ae,ai,h3,Z]
 ·rw[ik,hm.es];apply eB;intro j;simp only[bR,bN,cW];by_cases hj:i=j
  ·subst hj;have:i<es.toList.length:=by rw[<-hm.es];simpa using U
   rw[iP rfl,iP this,iP rfl,ah];rfl
  rw[iN hj,iN hj]
 ·have aj:L.any (λp=>p.1==x)=true:=by
   rw[List.any_eq_true];exact⟨p.2,hm.L.mem_iff.1 (bC.2 ⟨p,ac,rfl⟩),by simpa using J⟩
  unfold JD;rw[aj,iP rfl];rw[Za0 (k:=(·.1)) (x:=x) (f:=λp=>if p.1==x then(x,d)else p) l i p H J hm.nd (λq G=>by rw[iP (by simpa using G)]) (λq G=>by rw[iN (by simpa using G)])];exact hm.L.map _
 ·have:(l.set i ({p.1 with key:=Xl A x,val:=v},(x,d))).map (·.2.1)=l.map (·.2.1):=by
   rw[ik];refine eB λj=>?_;rw[bR];by_cases hj:i=j
   ·subst hj;rw[iP rfl,iP (by simpa using U),aQ,H];simp[J]
   rw[iN hj]
  rw[this];exact hm.nd
 ·have:(l.set i ({p.1 with key:=Xl A x,val:=v},(x,d))).map (·.1.born)=l.map (·.1.born):=by
   rw[ik];refine eB λj=>?_;rw[bR];by_cases hj:i=j
   ·subst hj;rw[iP rfl,iP (by simpa using U),aQ,H];rfl
   rw[iN hj]
  rw[this];exact hm.bn
 intro q G;rcases List.mem_or_eq_of_mem_set G with G|rfl
 ·exact hm.e q G
 exact⟨rfl,hd,hx,k4⟩
theorem ZrL {n:Nat} {x:AV} {d:Unit->List Int} {u:Value} (h:ZuV n x=some d) (I:VR R x u):u=Xl n (d ()):=by
 unfold ZuV at h;split at h
 ·split at h
  ·rename_i V;cases h;have e:=ZD V;subst e;rw[I.int_inv];rfl
  cases h
 ·rename_i cs;split at h
  ·rename_i A;simp only[aU]at A;have e:=ZD A.1;have Y:=ZaO A.2;obtain⟨G,rfl,S,hr⟩:=I.agg_inv;obtain⟨Z,U⟩:=ZeG (R:=R) h;have H:=U G.toList (by simpa using S) λj c J=>by simpa using hr j c J
   subst e;obtain⟨m,hm⟩:∃m,cs.length=m+1:=⟨cs.length-1,by omega⟩;rw[hm]at H|-;show Value.agg G= .agg (QI (m+1) (d ())).toArray;rw[<-H]
  cases h
 cases h
theorem Zi6 (H:HR G R h) {t kt et:TypeId} {id:Nat} {n:Unit->Int} {U:Unit->Bool} {f:(Unit->Int)->Unit->Bool} {m k x:Value} (hm:VR R (.map id) m) (Y:VR R (.int .i64 n) k) (hx:VR R (.bool U) x)
  (hu:P.underlying t=some (.map kt et)) (hi:h[id]? =some (.mapB f)) (ah:P.underlying kt=some (.int .i64)):
  ∃S,(Instr.mapUpdate t m k x).run P R.w= .ok () S.w/\HR G S (h.set id (.mapB λe u=>if e ()=n ()then U u else f e u))/\Xj R h S (h.set id (.mapB λe u=>if e ()=n ()then U u else f e u))/\R.le S:=by
 obtain⟨es,cl,h1,h2,h3⟩:=H.blk id _ hi;rw[hm.map_inv,Y.int_inv,hx.bool_inv];have ar:=ZdP (P:=P) ah false (n ()) R.w;have ak:=Zgh (P:=P) h1;have upd:∀(aa:Array MapEntry) (ac:Nat),ZxH aa.toList (λe u=>if e ()=n ()then U u else f e u)->
   ∃S,(setObj (R.α id).b (.map aa ac)).run P R.w= .ok () S.w/\HR G S (h.set id (.mapB λe u=>if e ()=n ()then U u else f e u))/\Xj R h S (h.set id (.mapB λe u=>if e ()=n ()then U u else f e u))/\R.le S:=by
  intro aa ac hM;obtain⟨S,hw,_,aq,H',au,am⟩:=H.upd hi rfl (blk':=.mapB λe u=>if e ()=n ()then U u else f e u) rfl {R.w with heap:=R.w.heap.setIfInBounds (R.α id).b (.map aa ac)} rfl rfl rfl (by simp)
   (λb hb=>by simp[aF (Ne.symm hb)]) (λS am aq hw=>⟨aa,ac,by rw[hw,aq];simp[(aM.1 h1).1],hM⟩)
  exact⟨S,by rw[hw];simp[setObj,Sem.run,h1],H',au,am⟩
 have ae:∀x:Int,(λ(e:Unit->Int) u=>if e ()=n ()then U u else f e u) (λ_=>x) ()=if x=n ()then U ()else f (λ_=>x) ():=λx=>rfl
 unfold Instr.mapUpdate;rcases Zcs (n ()) es.toList 0 h2 with⟨a1,a2⟩|⟨i,e,a1,a2,a3,a4⟩
 ·obtain⟨S,hr,ab⟩:=upd (es.push {key:=.int .i64 (n ()),val:=.bool (U ()),born:=cl}) (cl+1) ⟨λe I=>by
    rw[io,cP]at I;rcases I with I|I
    ·exact h2 e I
    ·simp only[aN]at I;subst I;exact⟨_,_,rfl,rfl⟩,λx=>by
    rw[ae,io];by_cases hxn:x=n ()
    ·subst hxn;refine .inr ⟨es.toList.length,{key:=.int .i64 (n ()),val:=.bool (U ()),born:=cl},by simp,rfl,by simp,λj J A V=>?_⟩;rw[bO A]at V;exact a2 J (bf V)
    rw[iN hxn];rcases h3 x with⟨b1,b2⟩|⟨i,e,b1,b2,b3,b4⟩
    ·refine .inl ⟨λe I=>?_,b2⟩;rw[cP]at I;rcases I with I|I
     ·exact b1 e I
     simp only[aN]at I;subst I;intro hh;injection hh with _ hh;exact hxn hh.symm
    have hl:=(aE.1 b1).1
    exact .inr ⟨i,e,by rw[bO hl];exact b1,b2,b3,λj J A V=>b4 j J A (by rwa [bO (by omega)]at V)⟩⟩
  refine⟨S,?_,ab⟩;simp only[aR,Zw hu,aH,ak,ar,dO,Zw ah,a1,bD];exact hr
 have az:i<es.size:=by have:=(aE.1 a1).1;simpa using this
 have ao:es[i]? =some e:=by rw[<-bN];exact a1
 have aj:(Instr.keyThatStays e.key (.int .i64 (n ()))).run P R.w= .ok (.int .i64 (n ())) R.w:=by
  rw[a2];have:∀d,Instr.sameBits d (.int .i64 (n ())) (.int .i64 (n ()))=true:=λd=>by cases d<;>simp[Instr.sameBits]
  simp only[Instr.keyThatStays,this,if_true,bD]
 have Z:∀j,(es.modify i λe=>{e with key:=.int .i64 (n ()),val:=.bool (U ())}).toList[j]? =if j=i then some {e with key:=.int .i64 (n ()),val:=.bool (U ())}else es.toList[j]? :=λj=>by
  rw[bN,cW];by_cases A:i=j
  ·subst A;simp[ao]
  rw[iN A,iN (λh=>A h.symm),bN]
 obtain⟨S,hr,ab⟩:=upd (es.modify i λe=>{e with key:=.int .i64 (n ()),val:=.bool (U ())}) cl ⟨λJ I=>by
   obtain⟨j,A⟩:=en.1 I;rw[Z]at A;split at A
   ·simp only[aC]at A;subst A;exact⟨_,_,rfl,rfl⟩
   ·exact h2 J (bf A),λx=>by
   rw[ae];by_cases hxn:x=n ()
   ·subst hxn;refine .inr ⟨i,{e with key:=.int .i64 (n ()),val:=.bool (U ())},by rw[Z,iP rfl],rfl,by simp,λj J A V=>?_⟩;rw[Z,iN (by omega)]at V;exact a3 j J A V
   rw[iN hxn];have ai:∀(j:Nat) (J:MapEntry),(es.modify i λe=>{e with key:=.int .i64 (n ()),val:=.bool (U ())}).toList[j]? =some J->J.key= .int .i64 x->es.toList[j]? =some J:=λj J A Y=>by
    rw[Z]at A;split at A
    ·simp only[aC]at A;subst A;injection Y with _ Y;exact absurd Y.symm hxn
    exact A
   rcases h3 x with⟨b1,b2⟩|⟨i',J,b1,b2,b3,b4⟩
   ·refine .inl ⟨λJ I Y=>?_,b2⟩;obtain⟨j,A⟩:=en.1 I;exact b1 J (bf (ai j J A Y)) Y
   have aw:i'≠i:=λhh=>by
    subst hh;rw[a1]at b1;cases b1;rw[a2]at b2;injection b2 with _ b2;exact hxn b2.symm
   exact .inr ⟨i',J,by rw[Z,iN aw];exact b1,b2,b3,λj e1 A V Y=>b4 j e1 A (ai j e1 V Y) Y⟩⟩
 refine⟨S,?_,ab⟩;simp only[aR,Zw hu,aH,ak,ar,dO,Zw ah,a4,bD,dD,ao,cL,cA,aj];exact hr
theorem ZhC (H:HR G R h) {t:TypeId} {a b q v:AV} {m k x:Value} {h':List Zh} {c:Cd} (hm:VR R a m) (hk:VR R b k) (hx:VR R q x) (hv:XV (tyP P) t a b q h=some (v,h',c)):
  v= .undef/\∃I,(Instr.mapUpdate t m k x).run P R.w= .ok () I.w/\HR G I h'/\Xj R h I h'/\R.le I:=by
 unfold XV at hv;split at hv;case h_2=>cases hv
 rename_i kt et id hu;have put:∀(g:Gob) (J:Array MapEntry) (A:Nat),(∃o,R.w.heap[(R.α id).b]? =some o/\Zs6 o=true)->(∃blk,h[id]? =some blk/\αk blk=true)->(Instr.mapUpdate t m k x).run P R.w=(setObj (R.α id).b (.map J A)).run P R.w->(∀I:RC,R.le I->ZjI I (R.α id).b (.map J A) g)->
   ∃I,(Instr.mapUpdate t m k x).run P R.w= .ok () I.w/\HR G I (h.set id (.gob g))/\Xj R h I (h.set id (.gob g))/\R.le I:=by
  rintro g J A ⟨o,V,Y⟩ ⟨blk,U,hk⟩ ae hg;obtain⟨I,hw,_,ab,H',ah,S⟩:=H.upd U hk (blk':=.gob g) rfl {R.w with heap:=R.w.heap.setIfInBounds (R.α id).b (.map J A)} rfl rfl rfl (by simp)
   (λb hb=>by simp[aF (Ne.symm hb)]) (λI S ab hw=>⟨.map J A,by rw[hw,ab];simp[(aM.1 V).1],rfl,by rw[ab];exact hg I S⟩)
  refine⟨I,?_,H',ah,S⟩;rw[ae,hw];cases o<;>first|(simp[Zs6]at Y;done)|simp[setObj,Sem.run,V]
 split at hv
 ·rename_i f U;split at hv;case h_2=>cases hv
  rename_i n bv ak;cases hv;exact⟨rfl,Zi6 H hm hk hx hu U ak⟩
 ·rename_i ka n L U;split at hv;case h_2=>cases hv
  rename_i g d hg hd;cases hv;obtain⟨o,V,Y,es,aj,rfl,ac⟩:=H.blk id _ U;obtain⟨rfl,h1,h2⟩:=Zd1 hg hk;rw[hm.map_inv]at put|-;obtain⟨J,A,r1,r2⟩:=Zgg (P:=P) hu h2 h1 R V ac (ZrL hd hx);exact⟨rfl,put (.mapL ka n λ_=>JD (L ()) (g ()) (d ())) J A ⟨_,V,Y⟩ ⟨_,U,rfl⟩ r1 λI S=>⟨J,A,rfl,r2⟩⟩
 ·rename_i ka kb n L U;split at hv;case h_2=>cases hv
  rename_i g am n' L2 hg;split at hv;case isFalse=>cases hv
  rename_i aa;simp only[aU]at aa;obtain rfl:=ZD aa.1;obtain rfl:=ZD aa.2;cases hv;obtain⟨o,V,Y,es,aj,rfl,ac⟩:=H.blk id _ U;obtain⟨rfl,h1,h2⟩:=Zd1 hg hk;rw[hm.map_inv]at put|-;have ai:PR R.w R.ok (.imap kb n λ_=>L2 ()) x:=by
   cases hx with
   |pure _ _ hp=>exact hp
  obtain⟨J,A,r1,r2⟩:=Zgg (P:=P) hu h2 h1 R V ac (v:=x) (d:=L2 ()) ai
  exact⟨rfl,put (.mapM ka kb n λ_=>JD (L ()) (g ()) (L2 ())) J A ⟨_,V,Y⟩ ⟨_,U,rfl⟩ r1 λI S=>by
   obtain⟨l,Z⟩:=r2
   exact⟨J,A,rfl,l,Z.es,Z.L,Z.nd,Z.bn,λp hp=>⟨(Z.e p hp).1,(Z.e p hp).2.1.mono S.ok S.keep S.keepM,(Z.e p hp).2.2⟩⟩⟩
 cases hv
theorem ZqW {gr:Bool} (H:HR G R h) {o:Oper} {E:Operand->AV} {ρ:Operand->Value} (Y:∀x∈o.op.operands,VR R (E x) (ρ x)) {v:AV} {h':List Zh} {c:Cd} (hv:evE gr P E h o.op=some (v,h',c)) (hc:ZW c):
  J2 R G h v h' ((execOp ρ o).run P R.w):=by
 obtain⟨bx,op,ty,pos,bw,bu⟩:=o;dsimp only at Y hv;cases op with
 |alloc t=>
  simp only[evE]at hv;split at hv;case h_2=>cases hv
  rename_i T hT;split at hv;case h_2=>cases hv
  rename_i z hz;simp only[aC,aK]at hv;obtain⟨rfl,rfl,rfl⟩:=hv;obtain⟨i,d,hi,_,_,_,bt,_⟩:=XE hT;obtain⟨A,hw,hm,U,H',hx,S⟩:=H.allocCells (XK z).cellsOf z.cells t (JF z);refine J2.ofValue ⟨.pointer (some ⟨R.w.heap.size,0,none⟩),A,?_,H',hx,S,?_⟩
  ·rw[hw];simp[Instr.alloc,zeroValue,Xo hi,<-bt,hz,newVar,newRow]
  have:=VR.ptr (R:=A) h.length 0 (by rw[hm,H.len];omega);rw[H.len,U]at this;rw[H.len];exact this
 |box t x=>
  simp only[evE]at hv;split at hv;case isFalse=>cases hv
  rename_i Z;simp only[aC,aK]at hv;obtain⟨rfl,rfl,rfl⟩:=hv;have hr:=Jr (Y x (by simp[bE])) (λg y e=>by rw[e]at Z;cases Z) (λe=>by rw[e]at Z;cases Z);obtain⟨A,hw,hm,U,H',hx,S⟩:=H.allocCells (E x).cellsOf (ρ x).cells t hr;refine J2.ofValue ⟨.pointer (some ⟨R.w.heap.size,0,none⟩),A,?_,H',hx,S,?_⟩
  ·rw[hw];simp[Instr.box,newVar,newRow]
  have:=VR.ptr (R:=A) h.length 0 (by rw[hm,H.len];omega);rw[H.len,U]at this;rw[H.len];exact this
 |store t a x=>
  have V:=Y a (by simp[bE]);have aj:=Y x (by simp[bE]);simp only[evE]at hv;split at hv;case h_5=>cases hv
  case h_2=>
   rename_i id s e ai T ac hT;rw[ac]at V;obtain⟨rfl,h1⟩:=ZkZ hT H V aj hv hc;exact J2.ofUnit h1
  case h_3=>
   rename_i id s n e ai T ac hT;rw[ac]at V;obtain⟨rfl,h1⟩:=Zkz hT H V aj hv hc;exact J2.ofUnit h1
  case h_4=>
   rename_i id s e k ai T ac hT;rw[ac]at V;obtain⟨rfl,h1⟩:=ZkF hT H V aj hv hc;exact J2.ofUnit h1
  rename_i id ai T ac hT;split at hv;case h_2=>cases hv
  rename_i cs bo;split at hv;case isFalse=>cases hv
  rename_i az;simp only[aU]at az;obtain⟨⟨⟨Z,ah⟩,aq⟩,au⟩:=az;have ah:=ZD ah;have aq:=Q8 aq;simp only[aC,aK]at hv;obtain⟨rfl,rfl,rfl⟩:=hv;rw[ac]at V;have bp:ρ a= .pointer (some ⟨(R.α id).b,(R.α id).o+ai,none⟩):=by
   generalize ρ a=u at V;cases V with
   |pure _ _ hp=>cases hp
   |ptr _ _ _=>rfl
  have hr:=Jr aj (λg y e=>by rw[e]at Z;cases Z) (λe=>by rw[e]at Z;cases Z);obtain⟨i,d,hi,_,bl,_,_,_⟩:=XE hT;obtain⟨A,bg,hm,U,H',hx,S⟩:=H.store (P:=P) (Js bo) (E x).cellsOf (ρ x).cells.toList (by rw[hr.1];simp) (by rw[ah];exact aq) (λa V=>by rw[bL]at au;exact au a V) (λj c hj=>by simpa using hr.2 j c hj);refine J2.ofUnit ⟨A,?_,H',hx,S⟩;rw[bp];simp only[ez,cR,aR,bD,aH,storeVar,Z3 hi];rw[iN (by rw[<-hr.1,ah,bl];simp)];exact bg
 |makeSlice t n c=>
  have hn:=Y n (by simp[bE]);have ar:=Y c (by simp[bE]);simp only[evE]at hv;split at hv;case h_2=>cases hv
  rename_i T hT;cases gr with
  |true=>exact J2.ofValue (ZlT hT (λe s b hk=>by rw[hk]) H hn ar hv hc)
  |false=>exact J2.ofValue (Zi7 hT (λe s b hk=>by rw[hk]) H hn ar hv hc)
 |buildSlice t n ps=>
  simp only[evE,aG,aK]at hv;obtain⟨v',bh,rfl,rfl,rfl⟩:=hv;obtain⟨u,A,h1,h2⟩:=Zhf H (ρ:=ρ) (λp hp=>Y p.2 (by simp only[bE];rw[<-Array.mem_toList_iff];exact bC.2 ⟨p,hp,rfl⟩)) bh;exact J2.ofValue ⟨u,A,h1,h2⟩
 |makeMap t r=>
  cases r with
  |some r=>simp[evE]at hv
  |none=>
   simp only[evE]at hv;split at hv;case h_2=>cases hv
   rename_i b hb;simp only[aC,aK]at hv;obtain⟨rfl,rfl,rfl⟩:=hv;have aw:b= .mapB (λ_ _=>false)\/(∃ka n,b= .gob (.mapL ka n λ_=>[]))\/∃ka kb n,b= .gob (.mapM ka kb n λ_=>[]):=by
    unfold Za9 at hb;split at hb;case h_2=>cases hb
    split at hb
    ·cases hb;exact .inl rfl
    ·split at hb
     ·split at hb
      ·cases hb;exact .inr (.inr ⟨_,_,_,rfl⟩)
      cases hb
     cases hb
    split at hb
    ·cases hb;exact .inr (.inl ⟨_,_,rfl⟩)
    cases hb
   have bk:∀A:RC,ZC A R.m b (A.α R.m).b/\(∀x,ZC A R.m b x->x=(A.α R.m).b)/\∀x o n,Qj A R.m b x o n↔¬ZC A R.m b x:=λA=>by
    rcases aw with rfl|⟨ka,n,rfl⟩|⟨ka,kb,n,rfl⟩<;>exact⟨rfl,λb hp=>hp.symm,λb o n=>Iff.rfl⟩
   obtain⟨A,hw,hm,U,H',hx,S⟩:=H.alloc b (.map #[] 0) bk (λA S U hh=>by
    rcases aw with rfl|⟨ka,n,rfl⟩|⟨ka,kb,n,rfl⟩
    ·exact⟨#[],0,by rw[U];exact hh,λe he=>by simp at he,λx=>.inl ⟨λe he=>by simp at he,rfl⟩⟩
    ·exact⟨_,by rw[U];exact hh,rfl, #[],0,rfl,.nil⟩
    exact⟨_,by rw[U];exact hh,rfl, #[],0,rfl,.nil⟩)
   refine J2.ofValue ⟨.map (some R.w.heap.size),A,?_,H',hx,S,?_⟩
   ·rw[hw];simp[Instr.makeMap]
   have:=VR.map (R:=A) h.length (by rw[hm,H.len];omega);rw[H.len,U]at this;rw[H.len];exact this
 |mapUpdate t m k x=>
  simp only[evE]at hv;obtain⟨rfl,hd⟩:=ZhC H (Y m (by simp[bE])) (Y k (by simp[bE])) (Y x (by simp[bE])) hv;exact J2.ofUnit hd
 |range t x=>
  simp only[evE]at hv;split at hv;case h_2=>cases hv
  rename_i ka n L kt et bq hu;simp only[aC,aK]at hv;obtain⟨rfl,rfl,rfl⟩:=hv;have hx:=Y x (by simp[bE]);rw[bq]at hx;have ao:∀o:Obj,(∀A:RC,R.le A->ZjI A R.w.heap.size o (.mapIt ka n L (λ_=>[]) λ_=>([],[])))->Zs6 o=true->(∀it,it=o->(Instr.range t (ρ x)).run P R.w= .ok (.pointer (some ⟨R.w.heap.size,0,none⟩)) {R.w with heap:=R.w.heap.push it})->J2 R G h (.mit h.length) (h++[.gob (.mapIt ka n L (λ_=>[]) λ_=>([],[]))]) ((do let z<-Instr.range t (ρ x);pure (Next.value z):Sem Next).run P R.w):=by
   intro o ho hk a9;obtain⟨A,hw,hm,U,H',ba,S⟩:=H.alloc (.gob (.mapIt ka n L (λ_=>[]) λ_=>([],[]))) o (λA=>⟨rfl,λb hp=>hp.symm,λb o n=>Iff.rfl⟩) (λA S U hh=>⟨o,by rw[U];exact hh,hk,by rw[U];exact ho A S⟩);refine J2.ofValue ⟨.pointer (some ⟨R.w.heap.size,0,none⟩),A,?_,H',ba,S,?_⟩
   ·rw[hw];exact a9 o rfl
   have:=VR.mit (R:=A) h.length (by rw[hm,H.len];omega) (by rw[H.len,U]);rw[H.len,U]at this;rw[H.len];exact this
  show J2 R G h _ _ ((do let z<-Instr.range t (ρ x);pure (Next.value z):Sem Next).run P R.w);generalize ρ x=u at hx ao|-;cases hx with
  |pure _ _ hp=>
   cases hp with
   |imap _ _ _ b es ae h1 h2 h3=>
    obtain⟨l,hl⟩:=h2;refine ao (.mapIter (some b) ae #[] ae) (λA S=>.inr ⟨b,es,ae, #[],l,rfl,S.keepM b h3 es ae h1,S.ok _ _ _ h3,hl,λp hp=>by simp,λbc=>absurd rfl bc⟩) rfl λit am=>?_;have bm:(getObj b).run P R.w= .ok (.map es ae) R.w:=by simp[getObj,Sem.run,h1]
    subst am;simp[Instr.range,Zw hu,bm]
   |imap0 _ _ _ h0=>
    refine ao (.mapIter none 0 #[] 0) (λA S=>.inl ⟨h0,rfl, #[],rfl⟩) rfl λit am=>?_;subst am;simp[Instr.range,Zw hu]
 |lookup t m k ok=>simp[evE]at hv
 |call cl=>
  obtain⟨ak,ab,I⟩:=cl;cases ak with
  |builtin b=>
   cases b with
   |append=>
    simp only[evE]at hv;split at hv;case h_2=>cases hv
    rename_i x y t t' V ht;have aa:ab= #[x,y]:=by
     obtain⟨l⟩:=ab;simp only at V;rw[V]
    subst aa;have h0:I[0]? =some t:=by rw[<-bN,ht];rfl
    have h1:I[1]? =some t':=by rw[<-bN,ht];rfl
    have e:(#[x,y]:Array Operand).map ρ= #[ρ x,ρ y]:=by simp
    refine J2.ofValue (s:=Builtin.append_ I ty ((#[x,y]:Array Operand).map ρ)) ?_;rw[e];exact Zmu H (ty:=ty) (Y x (by simp[bE,Call.operands])) (Y y (by simp[bE,Call.operands])) h0 h1 hv hc
   |copy=>
    simp only[evE]at hv;split at hv;case h_2=>cases hv
    rename_i x y t r V ht;have aa:ab= #[x,y]:=by
     obtain⟨l⟩:=ab;simp only at V;rw[V]
    subst aa;have h0:I[0]? =some t:=by rw[<-bN,ht];rfl
    split at hv;case h_2=>cases hv
    rename_i el hu;split at hv;case h_2=>cases hv
    rename_i J hJ;obtain⟨j,d,hj,_,hs,_,_,_⟩:=XE hJ;rw[hs]at hv;have e:(#[x,y]:Array Operand).map ρ= #[ρ x,ρ y]:=by simp
    refine J2.ofValue (s:=Builtin.copy_ I ty ((#[x,y]:Array Operand).map ρ)) ?_;rw[e];exact Zth h0 hu hj H (Y x (by simp[bE,Call.operands])) (Y y (by simp[bE,Call.operands])) hv
   |clear=>
    simp only[evE]at hv;split at hv;case h_2=>cases hv
    rename_i x t r V ht;have aa:ab= #[x]:=by
     obtain⟨l⟩:=ab;simp only at V;rw[V]
    subst aa;have h0:I[0]? =some t:=by rw[<-bN,ht];rfl
    split at hv;case h_2=>cases hv
    rename_i el hu;split at hv;case h_2=>cases hv
    rename_i J hJ;obtain⟨j,d,hj,_,hs,_,hz,_⟩:=XE hJ;rw[hs,hz]at hv;have e:(#[x]:Array Operand).map ρ= #[ρ x]:=by simp
    refine J2.ofValue (s:=Builtin.clear_ I ty ((#[x]:Array Operand).map ρ)) ?_;rw[e];obtain⟨rfl,u',A,h1,h2,h3,h4⟩:=Zrc h0 hu hj rfl H (ty:=ty) (Y x (by simp[bE,Call.operands])) hv hc;exact⟨u',A,h1,h2,h3,h4,.undef _⟩
   |_=>simp[evE]at hv
  |_=>simp[evE]at hv
 |_=>simp[evE]at hv
end
end Vm
end Go.Proofs.YtjgpiclllehgmaaGreat
