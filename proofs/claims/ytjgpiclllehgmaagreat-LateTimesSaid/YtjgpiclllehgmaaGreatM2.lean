/- Lemmas. -/
import Derived.Laws.CopyRow
import Derived.Laws.AppendOwn
import Derived.Test.YtjgpiclllehgmaaGreatM1
set_option linter.all false
open Array renaming append_assoc->dB,foldl_toList->fF,getD_eq_getD_getElem?->aI,getElem?_append_left->dF,getElem?_append_right->dW,getElem?_eq_none->eE,getElem?_eq_some_iff->aM,getElem?_map->bZ,getElem?_modify->cU,getElem?_push->bK,getElem?_setIfInBounds->bR,getElem?_setIfInBounds_ne->aF,getElem?_toList->bN,length_toList->cV,range->fi,size_append->eS,size_setIfInBounds->eZ,toList_push->ic
open Bool renaming and_eq_true->aT,false_eq_true->aX,false_or->cC,not_false->eA,or_false->eN
open Go.Instr renaming findKey->dN,storeAt->ep,sureAddr->cP
open Int renaming eq_ofNat_of_zero_le->bS,le_refl->bT,mul_le_mul->gQ,toNat_natCast->aV
open List renaming all_eq_true->bL,append_assoc->dT,eq_nil_of_length_eq_zero->cQ,ext_getElem?->en,foldl_cons->dP,getD_eq_getElem?_getD->aA,getElem?_append_left->bO,getElem?_append_right->dE,getElem?_cons_succ->cN,getElem?_cons_zero->bJ,getElem?_drop->cY,getElem?_eq_getElem->aD,getElem?_eq_none->cD,getElem?_eq_some_iff->aE,getElem?_map->aO,getElem?_range->cK,getElem?_set->bP,getElem?_take->cZ,getElem?_toArray->ef,getElem_of_mem->ed,length_append->bf,length_cons->bF,length_drop->dK,length_map->bA,length_set->cA,length_take->bX,map_append->dD,map_cons->bV,map_set->g9,mem_append->cJ,mem_cons_of_mem->aQ,mem_cons_self->aU,mem_iff_getElem?->fp,mem_map->bE,mem_of_getElem?->aZ,mem_range->bW,mem_singleton->aN,nodup_append->fL,nodup_cons->ee,range->aR,size_toArray->dU,zipIdx_cons->gF
open List.cons renaming injEq->cB
open Nat renaming add_assoc->dG,add_mul->dH,add_zero->dQ,div_add_mod'->fa,div_lt_iff_lt_mul->dL,eq_zero_or_pos->cI,le_of_not_lt->fx,le_refl->aJ,le_succ->eG,le_trans->cF,lt_irrefl->dI,lt_or_gt_of_ne->fh,min->gR,min_le_left->iw,mod_eq_of_lt->eB,mod_lt->eF,mul_add_mod->eK,mul_comm->dZ,mul_le_mul_right->aL,pos_of_ne_zero->eg,sub_mul->gg,sub_self->eX,sub_sub->iL,succ_mul->bI,zero_add->dA,zero_le->aW,zero_mul->ey
open Go.Op renaming operands->bD
open Option renaming bind_eq_some_iff->ek,getD_some->bY,isSome_iff_exists->dV,map_eq_some_iff->aG,map_some->cL
open Option.some renaming injEq->aC
open Prod.mk renaming injEq->aK
open Go.Result renaming andThen_ok->aH
open Go.Sem renaming run_bind->aP,run_pure->bC
open Go.World renaming cell?->bU
namespace Go.Proofs.YtjgpiclllehgmaaGreat
namespace Vm
open Go
def Zla (cx:Option Nat) (G:Nat->Nat->Nat->Prop) (n0:Nat) (w:World) (m:Nat) (α:Nat->Loc) (hw:Nat->Int) (hv:Nat->Value) (h:List Zh):RC:=
 {w,m,n0,α,hw,hv,cx,ok:=fun b o n=>b<w.heap.size/\G b o n/\Zc2 {w,m,n0,α,hw,hv,ok:=fun _ _ _=>False} h b o n}
section
variable {P:Program} {R:RC} {G:Nat->Nat->Nat->Prop} {h:List Zh}
theorem JQ.lt {Q:AV->Value->Prop} {w:World} {s:Nat} {n:Unit->Int} {f:(Unit->Int)->List AV} {v:Value} {b:Nat} (S:JQ Q w s n f v) (H:ZdY v b):b<w.heap.size:=by
 obtain⟨a,n,c,A,U,I⟩:=H;rcases S with⟨_,Y,G⟩|⟨Z,o,len,V,arr,ty,_,_,G,J,_⟩
 ·rw[G]at A;cases A;omega
 rw[G]at A;cases A;exact I▸(aM.1 J).1
theorem JQ.heap {Q:AV->Value->Prop} {w:World} {s:Nat} {n:Unit->Int} {f:(Unit->Int)->List AV} {v:Value} {b:Nat} (S:JQ Q w s n f v) (H:ZdY v b):∃arr ty,w.heap[b]? =some (.cells arr ty (0,0)):=by
 obtain⟨a,n,c,A,U,I⟩:=H;rcases S with⟨_,Y,G⟩|⟨Z,o,len,V,arr,ty,_,_,G,J,_⟩
 ·rw[G]at A;cases A;omega
 rw[G]at A;cases A;exact⟨arr,ty,I▸J⟩
theorem JQ.mono {Q Q':AV->Value->Prop} {w w':World} {s:Nat} {n:Unit->Int} {f:(Unit->Int)->List AV} {v:Value} (ha:JQ Q w s n f v) (U:∀c u,Q c u->Q' c u) (hh:∀b,ZdY v b->w'.heap[b]? =w.heap[b]?):JQ Q' w' s n f v:=by
 rcases ha with I|⟨b,o,len,A,arr,ty,I,Y,H,h4,Z,S⟩
 ·exact .inl I
 rcases cI A with G|G
 ·exact .inl ⟨by omega,some ⟨b,o,none⟩,by rw[H,G,show len=0 by omega]⟩
 exact .inr ⟨b,o,len,A,arr,ty,I,Y,H,by rw[hh b ⟨_,_,_,H,G,rfl⟩];exact h4,Z,fun i J=>⟨(S i J).1,fun j c V=>U _ _ ((S i J).2 j c V)⟩⟩
theorem JQ.isl {w:World} {ok:Nat->Nat->Nat->Prop} {s:Nat} {n:Unit->Int} {f:(Unit->Int)->List AV} {v:Value} (ha:JQ (PR w ok) w s n f v) (Y:∀b,ZdY v b->∀o n,ok b o n):PR w ok (.isl s n f .none) v:=by
 rcases ha with⟨J,U,I⟩|⟨b,o,len,H,arr,ty,J,I,Z,h4,h5,V⟩
 ·rw[I];cases U with
  |none=>exact .isl0 _ _ _ _ J rfl
  |some U=>exact .islE _ _ _ _ U J (.inl rfl)
 rw[Z];rcases cI H with G|G
 ·rw[G,show len=0 by omega];exact .islE _ _ _ _ ⟨b,o,none⟩ (by omega) (.inl rfl)
 have aa:len*s<=H*s:=aL _ I;refine .isl _ _ _ _ b o len H (fun k j=>arr.getD (o+k*s+j) undef) J I (.inl rfl) (fun h=>by cases h) (fun k A=>(V k A).1) (fun k j c A S=>?_) (fun k j c A S=>(V k A).2 j c S) (Y b ⟨_,_,_,Z,G,rfl⟩ _ _);have ab:j<s:=by rw[<-(V k A).1];exact(aE.1 S).1
 have:(k+1)*s<=len*s:=aL _ A;rw[bI]at this;exact ZY h4 (by omega)
theorem JQ.len {Q:AV->Value->Prop} {w:World} {s:Nat} {n:Unit->Int} {f:(Unit->Int)->List AV} {a:Option Addr} {l c:Nat} (I:JQ Q w s n f (.slice a l c)):n ()=(l:Int)/\l<=c:=by
 rcases I with⟨G,S,A⟩|⟨b,o,len,J,arr,ty,G,A,H,Y,U,V⟩
 ·cases A;exact⟨G,aJ _⟩
 cases H;exact⟨G,A⟩
theorem JQ.cong {Q Q':AV->Value->Prop} {w:World} {s:Nat} {n V:Unit->Int} {f G:(Unit->Int)->List AV} {v:Value} (ha:JQ Q w s n f v) (S:V ()=n ()) (hl:∀i:Nat,(i:Int)<n ()->(G fun _=>(i:Int)).length=(f fun _=>(i:Int)).length)
  (hf:∀i:Nat,(i:Int)<n ()->∀(j:Nat) c,(G fun _=>(i:Int))[j]? =some c->∃A,(f fun _=>(i:Int))[j]? =some A/\∀u,Q A u->Q' c u):JQ Q' w s V G v:=by
 rcases ha with⟨H,I⟩|⟨b,o,len,Y,arr,ty,H,I,h3,h4,h5,J⟩
 ·exact .inl ⟨S.trans H,I⟩
 refine .inr ⟨b,o,len,Y,arr,ty,S.trans H,I,h3,h4,h5,fun i U=>⟨(hl i (by omega)).trans (J i U).1,fun j c hj=>?_⟩⟩;obtain⟨A,e1,Z⟩:=hf i (by omega) j c hj;exact Z _ ((J i U).2 j A e1)
theorem HR.phys_lt (H:HR G R h) {id:Nat} {blk:Zh} {b:Nat} (hi:h[id]? =some blk) (I:Zz R id blk b):b<R.w.heap.size:=by
 have J:=H.blk id blk hi;have lt:∀ {o:Obj} {b:Nat},R.w.heap[b]? =some o->b<R.w.heap.size:=fun h=>(aM.1 h).1;cases blk with
 |cells cs=>obtain⟨arr,ty,A,_⟩:=J;exact I▸lt A
 |arr s n f=>obtain⟨arr,ty,_,A,_⟩:=J;exact I▸lt A
 |mapB m=>obtain⟨es,c,A,_⟩:=J;exact I▸lt A
 |gob g=>obtain⟨o,A,_⟩:=J;exact I▸lt A
 |loop s d=>obtain⟨l,A,_⟩:=J;exact I▸lt A
 |dead=>exact I.elim
 |main=>exact I.elim
 |fro s n f=>exact I.elim
 |gar s n f=>
  obtain⟨a,n,c,A,Y,Z⟩:=I;obtain⟨_,⟨_,a3,S⟩|⟨b',o,len,aa,arr,ty,_,_,S,U,_⟩⟩:=J
  ·rw[S]at A;cases A;omega
  rw[S]at A;cases A;exact Z▸lt U
 |vgar s n f=>
  obtain⟨_,J⟩:=J;exact J.lt I
 |fam z s n m g=>
  obtain⟨us,hv,i,v,hu,I⟩:=I;obtain⟨_,_,ab,V,_,ha,_⟩:=J;rw[hv]at V;cases V;exact(ha i v hu).lt I
 |tok s hw=>
  obtain⟨a,n,c,A,Y,Z⟩:=I;obtain⟨_,⟨_,a3,S⟩|⟨b',o,len,aa,_,_,S,U⟩⟩:=J
  ·rw[S]at A;cases A;omega
  rw[S]at A;cases A;obtain⟨arr,ty,U,_⟩:=U Y;exact Z▸lt U
theorem HR.tok_cells (H:HR G R h) {id:Nat} {blk:Zh} {b:Nat} (hi:h[id]? =some blk) (hk:Zar blk=true) (J:Zz R id blk b):∃arr ty,R.w.heap[b]? =some (.cells arr ty (0,0)):=by
 have U:=H.blk id blk hi;cases blk with
 |gar s n f=>
  obtain⟨a,n,c,A,Y,Z⟩:=J;obtain⟨_,⟨_,a3,I⟩|⟨b',o,len,aa,arr,ty,_,_,I,S,_⟩⟩:=U
  ·rw[I]at A;cases A;omega
  rw[I]at A;cases A;exact⟨arr,ty,Z▸S⟩
 |vgar s n f=>exact U.2.heap J
 |fam z s n m g=>
  obtain⟨us,hv,i,v,hu,J⟩:=J;obtain⟨_,_,ab,V,_,ha,_⟩:=U;rw[hv]at V;cases V;exact(ha i v hu).heap J
 |tok s hw=>
  obtain⟨a,n,c,A,Y,Z⟩:=J;obtain⟨_,⟨_,a3,I⟩|⟨b',o,len,aa,_,_,I,S⟩⟩:=U
  ·rw[I]at A;cases A;omega
  rw[I]at A;cases A;obtain⟨arr,ty,S,_⟩:=S Y;exact⟨arr,ty,Z▸S⟩
 |_=>cases hk
theorem BR.monoZ {R':RC} {id:Nat} {blk:Zh} (J:BR R id blk) (hr:R.le R') (ab:∀z s N m g,blk= .fam z s N m g->R'.n0<=z) (G:R'.α id=R.α id) (V:R'.hw id=R.hw id) (Y:R'.hv id=R.hv id)
  (U:∀b,Zz R id blk b->R'.w.heap[b]? =R.w.heap[b]?):BR R' id blk:=by
 cases blk with
 |cells cs=>
  obtain⟨arr,ty,A,I,H⟩:=J;exact⟨arr,ty,by rw[G,U _ rfl];exact A,by rw[G];exact I,fun j c hj=>by rw[G];exact(H j c hj).mono hr⟩
 |arr s n f=>
  obtain⟨arr,ty,len,A,I,H,S⟩:=J;exact⟨arr,ty,len,by rw[G,U _ rfl];exact A,I,by rw[G];exact H,fun i hi=>⟨(S i hi).1,fun j c hj=>by rw[G];exact((S i hi).2 j c hj).mono hr.ok hr.keep hr.keepM⟩⟩
 |mapB m=>obtain⟨es,c,A,I⟩:=J;exact⟨es,c,by rw[G,U _ rfl];exact A,I⟩
 |gob g=>obtain⟨o,A,I,H⟩:=J;exact⟨o,by rw[G,U _ rfl];exact A,I,by rw[G];exact H.mono hr⟩
 |loop s d=>obtain⟨l,A,I,H,S,h5,h6,h7⟩:=J;exact⟨l,by rw[G,U _ rfl];exact A,I,H,S,h5,h6,h7.mono hr⟩
 |main=>exact hr.cx.trans J
 |dead=>trivial
 |fro s n f=>
  obtain⟨e,A⟩:=J;exact⟨V.trans e,by rw[Y];exact A.mono hr.ok hr.keep hr.keepM⟩
 |gar s n f=>
  obtain⟨e,A⟩:=J;refine⟨V.trans e,?_⟩;rw[Y];rcases A with A|⟨b,o,len,Z,arr,ty,A,I,H,S,h5,h6⟩
  ·exact .inl A
  rcases cI Z with h0|h0
  ·exact .inl ⟨by omega,some ⟨b,o,none⟩,by rw[H,h0,show len=0 by omega]⟩
  exact .inr ⟨b,o,len,Z,arr,ty,A,I,H,by rw[U b ⟨_,_,_,H,h0,rfl⟩];exact S,h5,fun i hi=>⟨(h6 i hi).1,fun j c hj=>((h6 i hi).2 j c hj).mono hr.ok hr.keep hr.keepM⟩⟩
 |vgar s n f=>
  obtain⟨e,A⟩:=J;exact⟨V.trans e,by rw[Y];exact A.mono (fun _ _ h=>h.mono hr) U⟩
 |fam z s n m g=>
  obtain⟨hz,e,us,hv,hn,ha,hd⟩:=J;exact⟨ab _ _ _ _ _ rfl,V.trans e,us,Y.trans hv,hn,fun i v hu=>(ha i v hu).mono (fun _ _ h=>h.mono hr.ok hr.keep hr.keepM) fun b hp=>U b ⟨us,hv,i,v,hu,hp⟩,hd⟩
 |tok s hw=>
  obtain⟨e,A⟩:=J;refine⟨V.trans e,?_⟩;rw[Y];rcases A with A|⟨b,o,len,Z,A,I,H,S⟩
  ·exact .inl A
  exact .inr ⟨b,o,len,Z,A,I,H,fun aa=>by
   obtain⟨arr,ty,S,h5⟩:=S aa
   exact⟨arr,ty,by rw[U b ⟨_,_,_,H,aa,rfl⟩];exact S,h5⟩⟩
theorem BR.mono {R':RC} {id:Nat} {blk:Zh} (A:BR R id blk) (hr:R.le R') (I:R'.n0=R.n0) (J:R'.α id=R.α id) (H:R'.hw id=R.hw id) (G:R'.hv id=R.hv id)
  (S:∀b,Zz R id blk b->R'.w.heap[b]? =R.w.heap[b]?):BR R' id blk:=
 A.monoZ hr (fun z s N m g e=>by subst e;rw[I];exact A.1) J H G S
theorem BR.tokNo {id s:Nat} {hw:Unit->Int} (H:BR R id (.tok s hw)):∀A,R.hv id≠ .tuple A:=fun A e=>by
 obtain⟨_,⟨_,a,G⟩|⟨b,o,len,I,_,_,G,_⟩⟩:=H<;>rw[G]at e<;>cases e
theorem BR.garNo {id s:Nat} {n:Unit->Int} {f:(Unit->Int)->List AV} (H:BR R id (.gar s n f)):∀A,R.hv id≠ .tuple A:=fun A e=>by
 obtain⟨_,⟨_,a,G⟩|⟨b,o,len,I,_,_,_,_,G,_⟩⟩:=H<;>rw[G]at e<;>cases e
theorem JQ.no {Q:AV->Value->Prop} {w:World} {s:Nat} {n:Unit->Int} {f:(Unit->Int)->List AV} {v:Value} (H:JQ Q w s n f v):∀G,v≠ .tuple G:=fun G e=>by
 rcases H with⟨_,a,A⟩|⟨b,o,len,I,_,_,_,_,A,_⟩<;>rw[A]at e<;>cases e
theorem Zz.congr {R R':RC} {id:Nat} {blk:Zh} {b:Nat} (A:R'.α id=R.α id) (G:R'.hv id=R.hv id):Zz R' id blk b↔Zz R id blk b:=by
 cases blk<;>simp only[Zz,A,G]
theorem Qe.congr {R R':RC} {id:Nat} {blk:Zh} {b o n:Nat} (A:R'.α id=R.α id) (G:R'.hv id=R.hv id):Qe R' id blk b o n↔Qe R id blk b o n:=by
 cases blk<;>simp only[Qe,Zz,A,G]
theorem RC.le.setN0 (R:RC) (n:Nat):R.le {R with n0:=n}:=⟨aJ _,fun _ _=>rfl,fun _ _=>⟨bT _,fun _=>rfl⟩,fun _ _=>.refl _,fun _ _ _ h=>h,fun _ _ _ _ _ _=>rfl,fun _ _ _ _ h=>h,rfl⟩
theorem HR.setN0 (H:HR G R h) (n:Nat) (U:n<=R.m) (V:∀(id z s:Nat) (N:Unit->Int) (m:(Unit->Int)->Unit->Int) (g:(Unit->Int)->(Unit->Int)->List AV),h[id]? =some (Zh.fam z s N m g)->n<=z):HR G {R with n0:=n} h:=
 ⟨H.len,fun b o l=>⟨fun k=>let ⟨h1,h2,h3⟩:=(H.okd b o l).1 k;⟨h1,h2,fun id x A=>(Qe.congr (R:=R) rfl rfl).2 (h3 id x A)⟩,fun⟨h1,h2,h3⟩=>(H.okd b o l).2 ⟨h1,h2,fun id x A=>(Qe.congr (R:=R) (R':={R with n0:=n}) rfl rfl).1 (h3 id x A)⟩⟩,
  fun id x A=>(H.blk id x A).monoZ (RC.le.setN0 R n) (fun z s N m g e=>V id z s N m g (by rw[A,e])) rfl rfl rfl fun _ _=>rfl,
  fun i j bi Y b J hi hj I S=>H.dis i j bi Y b J hi hj ((Zz.congr (R:=R) (R':={R with n0:=n}) rfl rfl).1 I) ((Zz.congr (R:=R) (R':={R with n0:=n}) rfl rfl).1 S),H.cl,H.fresh,
  fun id x b A Z I=>H.tokG id x b A Z ((Zz.congr (R:=R) (R':={R with n0:=n}) rfl rfl).1 I),U⟩
theorem Qr {α:Type} {l:List α} {x:α} {i:Nat} {y:α} (h:(l++[x])[i]? =some y):l[i]? =some y\/(i=l.length/\y=x):=by
 rw[List.getElem?_append]at h;split at h
 ·exact .inl h
 right;have A:i-l.length<1:=by
  have:=(aE.1 h).1;simpa using this
 have:i=l.length:=by omega
 subst this;simp at h;exact⟨rfl,h.symm⟩
theorem HR.alloc (H:HR G R h) (blk:Zh) (o:Obj) (hk:∀A,Zz A R.m blk (A.α R.m).b/\(∀b,Zz A R.m blk b->b=(A.α R.m).b)/\∀b o n,Qe A R.m blk b o n↔¬Zz A R.m blk b)
  (hb:∀A:RC,R.le A->(A.α R.m)=⟨R.w.heap.size,0⟩->A.w.heap[R.w.heap.size]? =some o->BR A R.m blk):
  ∃A,A.w={R.w with heap:=R.w.heap.push o}/\A.m=R.m+1/\A.α R.m=⟨R.w.heap.size,0⟩/\HR G A (h++[blk])/\Xd R h A (h++[blk])/\R.le A:=by
 let ab:Nat->Loc:=fun i=>if i=R.m then⟨R.w.heap.size,0⟩else R.α i
 let A:=Zla R.cx G R.n0 {R.w with heap:=R.w.heap.push o} (R.m+1) ab R.hw R.hv (h++[blk]);have S:∀i,i<R.m->A.α i=R.α i:=fun i Z=>if_neg (by omega);have U:A.α R.m=⟨R.w.heap.size,0⟩:=if_pos rfl;have V:∀ {i x},h[i]? =some x->i<R.m:=fun Z=>H.len▸(aE.1 Z).1;have Y:∀b,b<R.w.heap.size->A.w.heap[b]? =R.w.heap[b]? :=fun b hb=>by
  show(R.w.heap.push o)[b]? =_;rw[bK,if_neg (by omega)]
 have aa:∀b i,b<R.w.heap.size->A.w.cell? ⟨b,i,none⟩=R.w.cell? ⟨b,i,none⟩:=fun b i hb=>by
  simp only[bU,Y b hb]
 have ae:∀b o n,R.ok b o n->A.ok b o n:=fun b o n k=>by
  obtain⟨h1,h2,h3⟩:=(H.okd _ _ _).1 k;refine⟨by show b<(R.w.heap.push _).size;rw[Array.size_push];omega,h2,fun id x I=>?_⟩;rcases Qr I with I|⟨rfl,rfl⟩
  ·exact(Qe.congr (S id (V I)) rfl).2 (h3 id x I)
  rw[H.len];refine((hk _).2.2 b o n).2 (fun J=>?_);have:=(hk _).2.1 b J;have e:(ab R.m).b=R.w.heap.size:=by simp[ab]
  have:b=(ab R.m).b:=this;omega
 have ac:R.le A:=⟨eG _,S,fun id Z=>⟨bT _,fun _=>rfl⟩,fun _ _=>.refl _,ae,fun b o n k j hj=>aa b _ ((H.okd _ _ _).1 k).1,fun b k es al e=>(Y b ((H.okd _ _ _).1 k).1).trans e,rfl⟩;have am:A.w.heap.size=R.w.heap.size+1:=by show(R.w.heap.push _).size=_;simp
 have ah:(h++[blk]).length=A.m:=by rw[bf,H.len];rfl
 refine⟨A,rfl,rfl,U,⟨ah,fun b o n=>Iff.rfl,fun id x I=>?_,fun i j bi bj b aj Z hj J=>?_,H.cl,fun b o n hb=>H.fresh b o n (by omega),fun id x b Z ai J o n=>?_,Nat.le_succ_of_le H.n0m⟩,?_,ac⟩
 ·rcases Qr I with I|⟨rfl,rfl⟩
  ·exact(H.blk id x I).mono ac rfl (S id (V I)) rfl rfl (fun b J=>Y b (H.phys_lt I J))
  rw[H.len];exact hb A ac U (by show(R.w.heap.push _)[_]? =_;simp)
 ·have new:∀ {i x},(h++[blk])[i]? =some x->Zz A i x b->(b<R.w.heap.size/\h[i]? =some x/\Zz R i x b)\/(b=R.w.heap.size/\i=R.m):=fun {i x} Z J=>by
   rcases Qr Z with I|⟨rfl,rfl⟩
   ·have:=(Zz.congr (S i (V I)) rfl).1 J;exact .inl ⟨H.phys_lt I this,I,this⟩
   rw[H.len]at J|-;have:=(hk _).2.1 b J;rw[U]at this;exact .inr ⟨this,rfl⟩
  intro ak;rcases new Z J with⟨a1,a2,a3⟩|⟨a1,a2⟩<;>rcases new hj ak with⟨b1,b2,b3⟩|⟨b1,b2⟩
  ·exact H.dis i j bi bj b aj a2 b2 a3 b3
  ·omega
  ·omega
  omega
 ·rcases Qr Z with I|⟨rfl,rfl⟩
  ·exact H.tokG id x b I ai ((Zz.congr (S id (V I)) rfl).1 J) o n
  rw[H.len]at J;have:=(hk _).2.1 b J;rw[U]at this;exact H.fresh b o n (by rw[this];exact aJ _)
 refine⟨rfl,rfl,rfl,rfl,by omega,eG _,S,ae,fun b o n k j hj=>aa b _ ((H.okd _ _ _).1 k).1,fun b hb _=>Y b hb,fun id x b I J=>?_⟩;rcases Qr I with I|⟨rfl,rfl⟩
 ·exact .inr ⟨id,x,I,(Zz.congr (S id (V I)) rfl).1 J,.inl rfl⟩
 rw[H.len]at J;have:=(hk _).2.1 b J;rw[U]at this;exact .inl (by rw[this];exact aJ _)
def αk:Zh->Bool
 |.cells _|.arr .. |.mapB _|.loop .. |.gob _=>true
 |_=>false
theorem Zfs {blk:Zh} (h:αk blk=true) (R:RC) (id b:Nat):Zz R id blk b↔(R.α id).b=b:=by
 cases blk<;>first|exact Iff.rfl|cases h
theorem Zjl {blk:Zh} (h:αk blk=true) (R:RC) (id b o n:Nat):Qe R id blk b o n↔¬(R.α id).b=b:=by
 cases blk<;>first|exact Iff.rfl|cases h
theorem HR.upd (H:HR G R h) {id:Nat} {blk blk':Zh} (hi:h[id]? =some blk) (hk:αk blk=true) (ab:αk blk'=true) (w':World)
  (ao:w'.os=R.w.os) (ak:w'.tape=R.w.tape) (am:w'.output=R.w.output) (ar:w'.heap.size=R.w.heap.size) (hh:∀b,b≠(R.α id).b->w'.heap[b]? =R.w.heap[b]?)
  (hb:∀I:RC,R.le I->I.α=R.α->I.w=w'->BR I id blk'):
  ∃I,I.w=w'/\I.m=R.m/\I.α=R.α/\HR G I (h.set id blk')/\Xd R h I (h.set id blk')/\R.le I:=by
 let I:=Zla R.cx G R.n0 w' R.m R.α R.hw R.hv (h.set id blk');have S:∀ {i x},(h.set id blk')[i]? =some x->(i=id/\x=blk')\/(i≠id/\h[i]? =some x):=fun {i x} A=>by
  rw[bP]at A;split at A
  ·rename_i e;subst e;split at A
   ·simp only[aC]at A;exact .inl ⟨rfl,A.symm⟩
   cases A
  rename_i e;exact .inr ⟨fun h=>e h.symm,A⟩
 have V:∀b i,b≠(R.α id).b->I.w.cell? ⟨b,i,none⟩=R.w.cell? ⟨b,i,none⟩:=fun b i hb=>by
  show w'.cell? _=_;simp only[bU,hh b hb]
 have U:∀b o n,R.ok b o n->b≠(R.α id).b:=fun b o n k e=>by
  have:=((H.okd _ _ _).1 k).2.2 id blk hi;rw[Zjl hk]at this;exact this e.symm
 have ah:∀b o n,R.ok b o n->I.ok b o n:=fun b o n k=>by
  obtain⟨h1,h2,h3⟩:=(H.okd _ _ _).1 k;refine⟨by show b<w'.heap.size;omega,h2,fun i x A=>?_⟩;rcases S A with⟨rfl,rfl⟩|⟨_,A⟩
  ·exact(Zjl ab _ _ _ _ _).2 (fun e=>U b o n k e.symm)
  exact(Qe.congr rfl rfl).2 (h3 i x A)
 have Y:R.le I:=⟨aJ _,fun _ _=>rfl,fun _ _=>⟨bT _,fun _=>rfl⟩,fun _ _=>.refl _,ah,fun b o n k j _=>V b _ (U b o n k),fun b k es aq e=>(hh b (U b 0 1 k)).trans e,rfl⟩;have ac:∀ {i x b},(h.set id blk')[i]? =some x->Zz I i x b->∃y,h[i]? =some y/\Zz R i y b:=fun {i x b} A J=>by
  rcases S A with⟨rfl,rfl⟩|⟨_,A⟩
  ·exact⟨blk,hi,(Zfs hk _ _ _).2 ((Zfs ab _ _ _).1 J)⟩
  exact⟨x,A,(Zz.congr rfl rfl).1 J⟩
 refine⟨I,rfl,rfl,rfl,⟨by rw[cA];exact H.len,fun _ _ _=>Iff.rfl,fun i x A=>?_,fun i j bi bj b al aa ap J Z=>?_,H.cl,fun b o n aj=>H.fresh b o n (by have:w'.heap.size<=b:=aj;omega),fun i y b aa ae J o n=>?_,H.n0m⟩,?_,Y⟩
 ·rcases S A with⟨rfl,rfl⟩|⟨ai,A⟩
  ·exact hb I Y rfl rfl
  refine(H.blk i x A).mono Y rfl rfl rfl rfl (fun b J=>hh b (fun e=>?_));exact H.dis i id x blk b ai A hi J ((Zfs hk _ _ _).2 e.symm)
 ·obtain⟨y,hy,J⟩:=ac aa J;obtain⟨z,hz,Z⟩:=ac ap Z;exact H.dis i j y z b al hy hz J Z
 ·rcases S aa with⟨rfl,rfl⟩|⟨_,A⟩
  ·exact absurd ae (by revert ab;cases y<;>simp[αk,Zar])
  exact H.tokG i y b A ae ((Zz.congr rfl rfl).1 J) o n
 refine⟨rfl,ao,ak,am,by show _<=w'.heap.size;omega,aJ _,fun _ _=>rfl,ah,fun b o n k j _=>V b _ (U b o n k),fun b _ hn=>hh b (fun e=>hn id blk hi ((Zfs hk _ _ _).2 e.symm)),fun i x b A J=>?_⟩;obtain⟨y,hy,J⟩:=ac A J;exact .inr ⟨i,y,hy,J,.inl rfl⟩
theorem HR.allocCells (H:HR G R h) (cs:List AV) (us:Array Value) (ty:TypeId) (hr:X0 R cs us):
  ∃A,A.w={R.w with heap:=R.w.heap.push (.cells us ty)}/\A.m=R.m+1/\A.α R.m=⟨R.w.heap.size,0⟩/\HR G A (h++[.cells cs])/\Xd R h A (h++[.cells cs])/\R.le A:=
 H.alloc (.cells cs) (.cells us ty) (fun A=>⟨rfl,fun b S=>S.symm,fun b o n=>Iff.rfl⟩) (fun A J I V=>by
  refine⟨us,ty,by rw[I];exact V,by rw[I,hr.1];simp,fun j c U=>?_⟩;rw[I,dA]
  exact(hr.2 j c U).mono J)
def Zlw:AV->Bool
 |.gd _ _|.ob _ _|.undef|.agg _|.tup _=>false
 |_=>true
theorem ZjW {a:AV} {u:Value} (A:Zlw a=true) (h:VR R a u):u.oneCell'=true:=by
 cases h with
 |pure _ _ G=>cases G<;>rfl
 |own _ _ _ _ _ _ G _ _=>cases G<;>rfl
 |nn _ _ _ _ G _=>cases G<;>rfl
 |undef _=>cases A
 |agg _ _ _ _=>cases A
 |tup _ _ _ _=>cases A
 |gd _ _ _ _=>cases A
 |ob _ _ _ _ _=>cases A
 |_=>rfl
theorem XF (A:Array Value) (vs:List Value) (k j:Nat) (H:k+vs.length<=A.size):
  (A.toList.take k++vs++A.toList.drop (k+vs.length)).toArray.getD j undef=if k<=j/\j<k+vs.length then vs.getD (j-k) undef else A.getD j undef:=by
 rw[aI,aI];simp only[ef,aA];have G:(A.toList.take k).length=k:=by simp;omega
 by_cases h1:j<k
 ·rw[if_neg (by omega),dT,bO (by omega),cZ,if_pos h1,bN]
 by_cases h2:j<k+vs.length
 ·rw[if_pos ⟨by omega,h2⟩,dT,dE (by omega),G,bO (by omega)]
 rw[if_neg (by omega),dE (by simp;omega)];simp only[bf,G,cY,bN];rw[show k+vs.length+(j-(k+vs.length))=j from by omega]
theorem ZaM:∀(l z:List AV) (A j:Nat),A+l.length<=z.length->(putC z A l)[j]? =if A<=j/\j<A+l.length then l[j-A]? else z[j]?
 |[],z,A,j,_=>by simp[putC];omega
 |a::l,z,A,j,hl=>by
  simp only[putC];rw[ZaM l (z.set A a) (A+1) j (by simp at hl|-;omega)];simp only[bF]at hl|-;by_cases h1:A+1<=j/\j<A+1+l.length
  ·rw[if_pos h1,if_pos (by omega),show j-A=(j-(A+1))+1 from by omega,cN]
  rw[if_neg h1,bP];by_cases h2:A=j
  ·subst h2;rw[if_pos rfl,if_pos (by omega),if_pos (by omega)];simp
  rw[if_neg h2,if_neg (by omega)]
theorem HR.store (H:HR G R h) {id off:Nat} {cs:List AV} (hi:h[id]? =some (.cells cs)) (l:List AV) (vs:List Value) (ac:l.length=vs.length) (Y:off+l.length<=cs.length)
  (ab:∀a∈l,Zlw a=true) (hv:∀j c,l[j]? =some c->VR R c (vs.getD j undef)):
  ∃A,(storeCells ⟨(R.α id).b,(R.α id).o+off,none⟩ vs).run P R.w= .ok () A.w/\A.m=R.m/\A.α=R.α/\HR G A (h.set id (.cells (putC cs off l)))/\Xd R h A (h.set id (.cells (putC cs off l)))/\R.le A:=by
 obtain⟨arr,ty,h1,h2,h3⟩:=H.blk id _ hi;have V:∀v∈vs,v.oneCell'=true:=fun v Z=>by
  obtain⟨j,J,rfl⟩:=ed Z;have U:j<l.length:=by omega
  have:=hv j l[j] (aD U);rw[aA,aD J]at this;exact ZjW (ab _ (List.getElem_mem U)) this
 have aa:=run_storeCells_at P (R.α id).b ((R.α id).o+off) ty vs 0 arr R.w h1 (by omega) V;obtain⟨A,hw,hm,I,H',hx,S⟩:=H.upd hi rfl (blk':=.cells (putC cs off l)) rfl
  (R.w.setRow (R.α id).b (arr.toList.take ((R.α id).o+off+0)++vs++arr.toList.drop ((R.α id).o+off+0+vs.length)).toArray) rfl rfl rfl (by simp[World.setRow]) (fun b hb=>setRow_other R.w (R.α id).b b _ hb) (fun A S I hw=>by
   refine⟨(arr.toList.take ((R.α id).o+off+0)++vs++arr.toList.drop ((R.α id).o+off+0+vs.length)).toArray,ty,?_,?_,fun j c J=>?_⟩
   ·rw[hw,I];exact setRow_heap R.w _ arr _ ty _ h1
   ·rw[X2,I];simp;omega
   rw[I,XF arr vs ((R.α id).o+off+0) _ (by omega)];rw[ZaM l cs off j Y]at J;by_cases hc:off<=j/\j<off+l.length
   ·rw[if_pos hc]at J;rw[if_pos (by omega),show(R.α id).o+j-((R.α id).o+off+0)=j-off from by omega];exact(hv _ c J).mono S
   rw[if_neg hc]at J;rw[if_neg (by omega)]
   exact(h3 j c J).mono S)
 exact⟨A,by rw[aa,hw],hm,I,H',hx,S⟩
end
end Vm
namespace Vm
open Go
section
variable {P:Program} {R:RC} {G:Nat->Nat->Nat->Prop} {h:List Zh}
theorem HR.make (H:HR G R h) (o:Obj):∃A,A.w={R.w with heap:=R.w.heap.push o}/\A.m=R.m/\A.α=R.α/\A.hv=R.hv/\A.hw=R.hw/\HR G A h/\Xd R h A h/\R.le A/\∀o' n,A.ok R.w.heap.size o' n:=by
 let A:=Zla R.cx G R.n0 {R.w with heap:=R.w.heap.push o} R.m R.α R.hw R.hv h;have J:∀b,b<R.w.heap.size->A.w.heap[b]? =R.w.heap[b]? :=fun b U=>by
  show(R.w.heap.push o)[b]? =_;rw[bK,if_neg (by omega)]
 have V:∀b i,b<R.w.heap.size->A.w.cell? ⟨b,i,none⟩=R.w.cell? ⟨b,i,none⟩:=fun b i U=>by
  simp only[bU,J b U]
 have ah:A.w.heap.size=R.w.heap.size+1:=by show(R.w.heap.push _).size=_;simp
 have Z:∀b o n,R.ok b o n->A.ok b o n:=fun b o n k=>by
  obtain⟨h1,h2,h3⟩:=(H.okd _ _ _).1 k;exact⟨by show b<A.w.heap.size;omega,h2,fun id x S=>(Qe.congr rfl rfl).2 (h3 id x S)⟩
 have Y:R.le A:=⟨aJ _,fun _ _=>rfl,fun _ _=>⟨bT _,fun _=>rfl⟩,fun _ _=>.refl _,Z,fun b o n k j hj=>V b _ ((H.okd _ _ _).1 k).1,fun b k es ae e=>(J b ((H.okd _ _ _).1 k).1).trans e,rfl⟩
 refine⟨A,rfl,rfl,rfl,rfl,rfl,⟨H.len,fun _ _ _=>Iff.rfl,fun id x S=>(H.blk id x S).mono Y rfl rfl rfl rfl (fun b I=>J b (H.phys_lt S I)),fun i j bi bj b aa hi hj I ab=>H.dis i j bi bj b aa hi hj ((Zz.congr rfl rfl).1 I) ((Zz.congr rfl rfl).1 ab),H.cl,
  fun b o n U=>H.fresh b o n (by omega),fun id x b hi hk I o n=>H.tokG id x b hi hk ((Zz.congr rfl rfl).1 I) o n,H.n0m⟩,
  ⟨rfl,rfl,rfl,rfl,by omega,aJ _,fun _ _=>rfl,Z,fun b o n k j hj=>V b _ ((H.okd _ _ _).1 k).1,fun b U _=>J b U,fun id x b S I=>.inr ⟨id,x,S,(Zz.congr rfl rfl).1 I,.inl rfl⟩⟩,Y,fun o' n=>?_⟩
 refine⟨by show R.w.heap.size<A.w.heap.size;omega,H.fresh _ _ _ (aJ _),fun id x S=>?_⟩;have hn:∀ {b},Zz A id x b->b<R.w.heap.size:=fun I=>H.phys_lt S ((Zz.congr rfl rfl).1 I);cases x with
 |tok s hw=>exact fun a len ac hv hl U=>absurd (hn (show Zz A id (.tok s hw) R.w.heap.size from⟨a,len,ac,hv,hl,U⟩)) (dI _)
 |_=>exact fun I=>absurd (hn I) (dI _)
theorem HR.room (H:HR G R h) (id m':Nat) (blk':Zh) (ae:Int) (aa:Value) (w':World) (h':List Zh)
  (bk:h'.length=m') (hm:R.m<=m') (aj:∀i x,h'[i]? =some x->(i=id/\x=blk')\/(i≠id/\h[i]? =some x))
  (ao:id<R.m->∃S,h[id]? =some S/\Zar S=true/\R.hw id<=ae/\(R.hw id=ae->aa=R.hv id)/\Zg6 (R.hv id) aa)
  (PO:Nat->Prop) (al:∀b,PO b↔(id<R.m/\∃S,h[id]? =some S/\Zar S=true/\Zz R id S b))
  (bx:w'.os=R.w.os) (bp:w'.tape=R.w.tape) (bz:w'.output=R.w.output) (ba:R.w.heap.size<=w'.heap.size)
  (hh:∀b,b<R.w.heap.size->¬PO b->w'.heap[b]? =R.w.heap[b]?)
  (am:∀b o n,R.ok b o n->∀j,j<n->w'.cell? ⟨b,o+j,none⟩=R.w.cell? ⟨b,o+j,none⟩)
  (bm:∀A:RC,R.le A->A.w=w'->A.hw id=ae->A.hv id=aa->
   (A.n0=R.n0/\∀b o n,b<w'.heap.size->G b o n->(R.w.heap.size<=b\/PO b)->Qe A id blk' b o n->A.ok b o n)->BR A id blk')
  (ca:∀A:RC,A.hv id=aa->A.w=w'->∀b,Zz A id blk' b->R.w.heap.size<=b\/PO b)
  (bq:∀A:RC,A.hv id=aa->∀b o n,R.ok b o n->Qe A id blk' b o n)
  (cf:αk blk'=false):
  ∃A,A.w=w'/\A.m=m'/\A.hv id=aa/\A.hw id=ae/\HR G A h'/\Xd R h A h'/\R.le A/\
   ∀b o n,b<w'.heap.size->G b o n->(R.w.heap.size<=b\/PO b)->Qe A id blk' b o n->A.ok b o n:=by
 let A:=Zla R.cx G R.n0 w' m' R.α (fun i=>if i=id then ae else R.hw i) (fun i=>if i=id then aa else R.hv i) h';have ab:∀i,i≠id->A.hv i=R.hv i:=fun i Z=>if_neg Z;have bg:∀i,i≠id->A.hw i=R.hw i:=fun i Z=>if_neg Z;have ah:A.hv id=aa:=if_pos rfl;have au:A.hw id=ae:=if_pos rfl;have ce:∀ {i x},h[i]? =some x->i<R.m:=fun Z=>H.len▸(aE.1 Z).1;have bc:∀b o n,R.ok b o n->A.ok b o n:=fun b o n k=>by
  obtain⟨Y,h2,h3⟩:=(H.okd _ _ _).1 k;refine⟨by show b<w'.heap.size;omega,h2,fun i x I=>?_⟩;rcases aj i x I with⟨rfl,rfl⟩|⟨J,I⟩
  ·exact(Qe.congr (R:=A) rfl rfl).1 (bq A ah b o n k)
  exact(Qe.congr (R:=R) (R':=A) rfl (ab i J)).2 (h3 i x I)
 have aq:R.le A:=⟨hm,fun _ _=>rfl,fun i Z=>by
  by_cases e:i=id
  ·subst e;obtain⟨_,_,_,Y,h2,_⟩:=ao Z;rw[au,ah];exact⟨Y,h2⟩
  ·rw[bg i e,ab i e];exact⟨bT _,fun _=>rfl⟩,fun i Z=>by
  by_cases e:i=id
  ·subst e;obtain⟨_,_,_,_,_,Y⟩:=ao Z;rw[ah];exact Y
  ·rw[ab i e]
   exact .refl _,bc,am,(fun b k es cg e=>by
  rw[<-e];refine hh b ((H.okd _ _ _).1 k).1 fun U=>?_;obtain⟨_,S,Y,h2,h3⟩:=(al b).1 U;obtain⟨arr,ty,h4⟩:=H.tok_cells Y h2 h3;rw[h4]at e
  cases e),rfl⟩
 have ak:∀ {i x b},h'[i]? =some x->Zz A i x b->(i=id/\x=blk'/\(R.w.heap.size<=b\/PO b))\/(i≠id/\h[i]? =some x/\Zz R i x b):=fun {i x b} I U=>by
  rcases aj i x I with⟨rfl,rfl⟩|⟨J,I⟩
  ·exact .inl ⟨rfl,rfl,ca A ah rfl b U⟩
  exact .inr ⟨J,I,(Zz.congr (R:=R) (R':=A) rfl (ab i J)).1 U⟩
 have ai:∀ {i x b},i≠id->h[i]? =some x->Zz R i x b->(R.w.heap.size<=b\/PO b)->False:=fun {i x b} J I U V=>by
  rcases V with V|V
  ·have:=H.phys_lt I U;omega
  obtain⟨_,S,Y,_,h2⟩:=(al b).1 V;exact H.dis i id x _ b J I Y U h2
 have ap:∀b o n,b<w'.heap.size->G b o n->(R.w.heap.size<=b\/PO b)->Qe A id blk' b o n->A.ok b o n:=fun b o n hb hg bt ha=>by
  refine⟨hb,hg,fun i x I=>?_⟩;rcases aj i x I with⟨rfl,rfl⟩|⟨J,I⟩
  ·exact(Qe.congr (R:=A) rfl rfl).1 ha
  have aw:∀ {b'},Zz R i x b'->b'≠b:=fun U e=>ai J I (e▸U) bt;cases x with
  |tok s1 ci=>
   intro a len b9 hv hl bl;replace hv:A.hv i=_:=hv;rw[ab i J]at hv;exact absurd bl (aw ⟨a,len,b9,hv,hl,rfl⟩)
  |_=>exact fun U=>aw ((Zz.congr (R:=R) (R':=A) rfl (ab i J)).1 U) rfl
 refine⟨A,rfl,rfl,ah,au,⟨bk,fun _ _ _=>Iff.rfl,fun i x I=>?_,fun i j bi bj b az Z hj U bu=>?_,H.cl,fun b o n hb=>H.fresh b o n (cF ba hb),fun i x b Z bo U o n=>?_,cF H.n0m hm⟩,?_,aq,ap⟩
 ·rcases aj i x I with⟨rfl,rfl⟩|⟨J,I⟩
  ·exact bm A aq rfl au ah ⟨rfl,ap⟩
  refine(H.blk i x I).mono aq rfl rfl (bg i J) (ab i J) (fun b U=>hh b (H.phys_lt I U) (fun V=>ai J I U (.inr V)))
 ·rcases ak Z U with⟨rfl,_,V⟩|⟨J,I,ac⟩<;>rcases ak hj bu with⟨rfl,_,bw⟩|⟨bh,a9,ar⟩
  ·exact az rfl
  ·exact ai bh a9 ar V
  ·exact ai J I ac bw
  exact H.dis i j bi bj b az I a9 ac ar
 ·rcases ak Z U with⟨rfl,_,V|V⟩|⟨J,I,ac⟩
  ·exact H.fresh b o n V
  ·obtain⟨_,S,Y,h2,h3⟩:=(al b).1 V;exact H.tokG i S b Y h2 h3 o n
  exact H.tokG i x b I bo ac o n
 refine⟨rfl,bx,bp,bz,ba,hm,fun _ _=>rfl,bc,am,fun b hb hn=>hh b hb (fun V=>?_),fun i x b I U=>?_⟩
 ·obtain⟨_,S,Y,_,h2⟩:=(al b).1 V;exact hn id _ Y h2
 rcases ak I U with⟨rfl,_,V|V⟩|⟨J,I,ac⟩
 ·exact .inl V
 ·obtain⟨_,S,Y,_,h2⟩:=(al b).1 V;exact .inr ⟨_,_,Y,h2,.inl rfl⟩
 exact .inr ⟨_,x,I,ac,.inl rfl⟩
theorem HR.token (H:HR G R h) (id m' s:Nat) (I:Unit->Int) (U:Value) (w':World) (h':List Zh)
  (ae:h'.length=m') (hm:R.m<=m') (ah:∀i x,h'[i]? =some x->(i=id/\x= .tok s I)\/(i≠id/\h[i]? =some x)) (aw:h'[id]? =some (.tok s I))
  (aa:id<R.m->∃s0 V,h[id]? =some (.tok s0 V)/\R.hw id<=I ()/\(R.hw id=I ()->U=R.hv id))
  (PO:Nat->Prop) (am:∀b,PO b↔(id<R.m/\∃s0 V,h[id]? =some (.tok s0 V)/\Zz R id (.tok s0 V) b))
  (aq:w'.os=R.w.os) (aj:w'.tape=R.w.tape) (ap:w'.output=R.w.output) (ao:R.w.heap.size<=w'.heap.size)
  (hh:∀b,b<R.w.heap.size->¬PO b->w'.heap[b]? =R.w.heap[b]?)
  (ab:∀b o n,R.ok b o n->∀j,j<n->w'.cell? ⟨b,o+j,none⟩=R.w.cell? ⟨b,o+j,none⟩)
  (ai:(I ()=0/\∃a:Option Addr,U= .slice a 0 0)\/∃(b o len A:Nat),I ()=(len:Int)/\len<=A/\U= .slice (some ⟨b,o,none⟩) len A/\
    (len<A->∃(arr:Array Value) (ty:TypeId),w'.heap[b]? =some (.cells arr ty (0,0))/\o+A*s<=arr.size))
  (au:∀a n c,U= .slice (some a) n c->n<c->R.w.heap.size<=a.block\/PO a.block)
  (ak:∀b o n,R.ok b o n->∀a len A,U= .slice (some a) len A->len<A->a.block=b->o+n<=a.off+len*s):
  ∃S,S.w=w'/\S.m=m'/\S.hv id=U/\S.hw id=I ()/\HR G S h'/\Xd R h S h'/\R.le S/\
   ∀b o n,b<w'.heap.size->G b o n->(R.w.heap.size<=b\/PO b)->(∀a len A,U= .slice (some a) len A->len<A->a.block=b->o+n<=a.off+len*s)->S.ok b o n:=by
 have ac:∀b,PO b↔(id<R.m/\∃Z,h[id]? =some Z/\Zar Z=true/\Zz R id Z b):=fun b=>by
  rw[am];constructor
  ·rintro⟨J,s0,V,Y,h3⟩;exact⟨J,_,Y,rfl,h3⟩
  rintro⟨J,Z,Y,h3,h4⟩;obtain⟨s0,V,h5,_⟩:=aa J;rw[h5]at Y;cases Y;exact⟨J,s0,V,h5,h4⟩
 obtain⟨S,a1,a2,a3,a4,a5,a6,a7,a8⟩:=H.room id m' (.tok s I) (I ()) U w' h' ae hm ah (fun hi=>let ⟨s0,V,J,Y,h3⟩:=aa hi;⟨_,J,rfl,Y,h3,.of (H.blk id _ J).tokNo⟩) PO ac aq aj ap ao hh ab
  (fun S _ hw al ar _=>⟨al,by rw[ar,hw];exact ai⟩) (fun S hv hw b ⟨a,n,c,J,Y,h3⟩=>h3▸au a n c (hv.symm.trans J) Y) (fun S hv b o n hk a len A J=>ak b o n hk a len A (hv.symm.trans J)) rfl
 exact⟨S,a1,a2,a3,a4,a5,a6,a7,fun b o n J Y h3 h4=>a8 b o n J Y h3 fun a len A hv=>h4 a len A (a3.symm.trans hv)⟩
end
end Vm
namespace Vm
open Go
def purify:AV->AV
 |.isl s n f (.own _)=>.isl s n f .none
 |.isl s n f .nn=>.isl s n f .none
 |c=>c
def XI:AV->Bool
 |.bool _|.int _ _|.str _|.nilptr|.nilmap|.nilfn|.iptr _ _|.imap _ _ _|.cch _=>true
 |.isl _ _ _ (.own _)=>false
 |.isl _ _ _ .nn=>false
 |.isl _ _ _ _=>true
 |_=>false
def ZV (n:Unit->Int) (f g:(Unit->Int)->List AV):(Unit->Int)->List AV:=fun e=>if e ()<n ()then f e else g (fun _=>e ()-n ())
def Zap (P:Program) (e:TypeId) (s:Nat):Bool:=match P.info? e with
 |some i=>(match i.zero with
  |some z=>ZD z.cells.size s&&ZD i.size s&&Z7 i.bytes 1000000
  |none=>false)
 |none=>false
def Zby (N:Unit->Int) (m:(Unit->Int)->Unit->Int) (A:Unit->Int):(Unit->Int)->Unit->Int:=fun e _=>bif decide (e ()<N ())then m e ()else A ()
def Y1 (N:Unit->Int) (g:(Unit->Int)->(Unit->Int)->List AV) (A:(Unit->Int)->List AV):(Unit->Int)->(Unit->Int)->List AV:=fun e=>if e ()<N ()then g e else A
def ZiO:List AV->Option (Nat×Nat×(Unit->Int))
 |[]=>none
 |.gsl k n::_=>some (0,k,n)
 |_::r=>match ZiO r with
  |some (j,k,n)=>some (j+1,k,n)
  |none=>none
def Za3 (A:Bool) (q:Nat) (n:Unit->Int) (s:Nat) (cs:List AV) (h:List Zh):Option (AV×List Zh×Cd):=
 if A then(match h[q]?,h[q+1]?,ZiO cs with
  |some (.vgar s' n0 f),some (.fam z sf N m g),some (j,k,nk)=>(match h[k]? with
   |some (.gar sk n1 f1)=>if ZD s s'&&ZD sf sk&&Z7 z k&&ZD cs.length s&&(cs.set j (.int .i64 fun _=>0)).all XI then
     some (.gsl q (fun _=>n0 ()+1),((h.set k .dead).set (q+1) (.fam z sf (fun _=>N ()+1) (Zby N m n1) (Y1 N g f1))).set q (.vgar s (fun _=>n0 ()+1) (ZV n0 f fun _=>cs.set j (.nsub (q+1) n0 n1))),
      [dd fun _=>n ()=n0 ()/\N ()=n0 ()/\nk ()=n1 (),dd fun _=>n0 ()+1<=1000000])else none
   |_=>none)
  |_,_,_=>none)else none
def ZcK (A:Bool) (s:Nat) (n:Unit->Int) (f:(Unit->Int)->List AV) (id:Nat) (a l:Unit->Int) (h:List Zh):Option (AV×List Zh×Cd):=
 if A then(match h[id]? with
  |some (.fam _ sf _ m g)=>if ZD s sf then some (.gsl h.length (fun _=>n ()+l ()),h++[.gar s (fun _=>n ()+l ()) (ZV n f (g a))],[dd fun _=>n ()=0/\l ()=m a (),dd fun _=>n ()+l ()<=1000000])else none
  |_=>none)else none
def ZdS (gr:Bool) (P:Program) (t G:TypeId) (dst A:AV) (h:List Zh):Option (AV×List Zh×Cd):=
 match P.underlying t,P.underlying G with
 |some (.slice e),some (.slice _)=>(match dst,A with
  |.isl s₁ n f tk,.isl sz m g _=>if Zap P e sz then(match tk with
   |.nil=>some (.isl sz (fun _=>n ()+m ()) (ZV n f g) (.own h.length),h++[.tok sz fun _=>n ()+m ()],[dd fun _=>n ()+m ()<=1000000])
   |.exact=>if ZD s₁ sz then(if gr then some (.gsl h.length (fun _=>n ()+m ()),h++[.gar sz (fun _=>n ()+m ()) (ZV n f g)],[dd fun _=>n ()=0,dd fun _=>n ()+m ()<=1000000])else some (.isl sz (fun _=>n ()+m ()) (ZV n f g) (.own h.length),h++[.tok sz fun _=>n ()+m ()],[dd fun _=>n ()+m ()<=1000000]))else none
   |.own id=>if ZD s₁ sz then(match h[id]? with
    |some (.tok s hw)=>if ZD s sz then some (.isl sz (fun _=>n ()+m ()) (ZV n f g) (.own id),h.set id (.tok sz fun _=>n ()+m ()),[dd fun _=>n ()=hw (),dd fun _=>n ()+m ()<=1000000])else none
    |_=>none)else none
   |.none=>none
   |.nn=>none)else none
  |.gsl id n,.isl sz m g _=>if Zap P e sz then(match h[id]? with
   |some (.gar s n0 f)=>if ZD s sz then some (.gsl id (fun _=>n0 ()+m ()),h.set id (.gar sz (fun _=>n0 ()+m ()) (ZV n0 f g)),[dd fun _=>n ()=n0 (),dd fun _=>n0 ()+m ()<=1000000])else none
   |_=>none)else none
  |.gsl q n,.lit s cs=>Za3 (Zap P e s) q n s cs h
  |.isl s n f .exact,.nsub id a l=>ZcK (gr&&Zap P e s) s n f id a l h
  |_,_=>none)
 |_,_=>none
section
variable {P:Program} {R:RC} {G:Nat->Nat->Nat->Prop} {h:List Zh}
theorem VR.purify {c:AV} {u:Value} (hv:VR R c u) (H:XI (purify c)=true):PR R.w R.ok (purify c) u:=by
 cases hv with
 |pure _ _ h=>
  have:Vm.purify c=c:=by
   cases h with
   |isl0 _ _ _ tk _ A=>cases tk<;>first|rfl|cases A
   |islE _ _ _ tk _ _ A=>rcases A with rfl|rfl<;>rfl
   |isl _ _ _ tk _ _ _ _ _ _ _ A=>rcases A with rfl|rfl<;>rfl
   |_=>rfl
  rw[this];exact h
 |own s n f id v J G I S=>exact G
 |nn s n f v G _=>exact G
 |_=>cases H
theorem JV (w:World) (a:Addr) (s x y:Nat):(Builtin.firstCells s 0 (.slice (some a) x y)).run P w= .ok #[] w:=by
 have:=run_loadCells (P:=P) w a 0 (fun _=>undef) (fun k A=>by omega);simpa [Builtin.firstCells]using this
theorem Xw {s:Nat} {m:Unit->Int} {g:(Unit->Int)->List AV} {x:Value} (hx:PR R.w R.ok (.isl s m g .none) x):
  ∃(V:Option Addr) (n U:Nat) (G:Nat->Nat->Value) (new:List Value),x= .slice V n U/\m ()=(n:Int)/\n<=U/\(V=none->U=0)/\new.length=n*s/\
   (∀w:World,w.heap=R.w.heap->(Builtin.firstCells s n x).run P w= .ok new.toArray w)/\
   (∀i j,i<n->j<s->new[i*s+j]? =some (G i j))/\
   (∀i:Nat,i<n->(g (fun _=>(i:Int))).length=s)/\
   (∀i j c,i<n->(g (fun _=>(i:Int)))[j]? =some c->PR R.w R.ok c (G i j))/\
   (∀a,V=some a->0<n->∃b o,a=⟨b,o,none⟩/\R.ok b o (n*s)/\∀i j,i<n->j<s->R.w.cell? ⟨b,o+i*s+j,none⟩=some (G i j)):=by
 cases hx with
 |isl0 _ _ _ _ hz _=>
  exact⟨none,0,0,fun _ _=>undef,[],rfl,by omega,aJ _,fun _=>rfl,by simp,fun w _=>rfl,fun i j A=>by omega,fun i A=>by omega,fun i j c A=>by omega,fun a h=>by cases h⟩
 |islE _ _ _ _ a hz _=>
  exact⟨some a,0,0,fun _ _=>undef,[],rfl,by omega,aJ _,(fun h=>by cases h),by simp,(fun w _=>JV w a s 0 0),fun i j A=>by omega,fun i A=>by omega,fun i j c A=>by omega,fun a _ h=>by omega⟩
 |isl _ _ _ _ b o len aa G hn hc ht he hl h1 h2 h3=>
  have H:∀i j,i<len->j<s->R.w.cell? ⟨b,o+i*s+j,none⟩=some (G i j):=fun i j A S=>
   h1 i j _ A (aD (by rw[hl i A];exact S))
  have Y:∀k,k<len*s->0<s/\k/s<len/\k%s<s/\k/s*s+k%s=k:=fun k J=>by
   have I:0<s:=eg (fun e=>by subst e;simp at J);exact⟨I,(dL I).2 J,eF _ I,fa k s⟩
  refine⟨some ⟨b,o,none⟩,len,aa,G,(aR (len*s)).map fun k=>G (k/s) (k%s),rfl,hn,hc,(fun h=>by cases h),by simp,fun w hw=>?_,fun i j A S=>?_,hl,h2,fun a h _=>?_⟩
  ·have:=run_loadCells (P:=P) w ⟨b,o,none⟩ (len*s) (fun k=>G (k/s) (k%s)) (fun k J=>by
    obtain⟨I,h4,h5,h6⟩:=Y k J;rw[Qx];have:=H (k/s) (k%s) h4 h5;rw[show o+k/s*s+k%s=o+k from by omega]at this;rw[<-this]
    simp only[bU,hw])
   simpa [Builtin.firstCells]using this
  ·have Z:i*s+j<len*s:=by
    have:(i+1)*s<=len*s:=aL s A;rw[bI]at this;omega
   have I:0<s:=by omega
   rw[aO,cK Z,cL];have e1:(i*s+j)/s=i:=by rw[dZ,Nat.mul_add_div I,Nat.div_eq_of_lt S,dQ]
   have e2:(i*s+j)%s=j:=by rw[dZ,eK,eB S]
   rw[e1,e2]
  simp only[aC]at h;subst h;exact⟨b,o,rfl,h3,H⟩
def Src (P:Program) (R:RC) (s:Nat) (m:Unit->Int) (g:(Unit->Int)->List AV) (x:Value):Prop:=
 ∃(H:Option Addr) (n A:Nat) (G:Nat->Nat->Value) (new:List Value),x= .slice H n A/\m ()=(n:Int)/\n<=A/\(H=none->A=0)/\new.length=n*s/\
   (∀w:World,w.heap=R.w.heap->(Builtin.firstCells s n x).run P w= .ok new.toArray w)/\
   (∀i j,i<n->j<s->new[i*s+j]? =some (G i j))/\
   (∀i:Nat,i<n->(g (fun _=>(i:Int))).length=s)/\
   (∀i j c,i<n->(g (fun _=>(i:Int)))[j]? =some c->PR R.w R.ok c (G i j))
theorem Src.of {s:Nat} {m:Unit->Int} {g:(Unit->Int)->List AV} {x:Value} (V:PR R.w R.ok (.isl s m g .none) x):Src P R s m g x:=by
 obtain⟨H,nn,xc,A,new,Y,S,I,h4,U,Z,G,J,h9,_⟩:=Xw (P:=P) V;exact⟨H,nn,xc,A,new,Y,S,I,h4,U,Z,G,J,h9⟩
theorem Src.arr {s:Nat} {m:Unit->Int} {g:(Unit->Int)->List AV} {x:Value} (Y:Zvz R s m g x):Src P R s m g x:=by
 rcases Y with⟨U,a,rfl⟩|⟨b,o,len,G,arr,ty,h1,I,rfl,Z,h5,S⟩
 ·refine⟨a,0,0,fun _ _=>undef,[],rfl,U,aJ _,fun _=>rfl,by simp,fun w _=>?_,fun i j A=>by omega,fun i A=>by omega,fun i j c A=>by omega⟩;cases a with
  |none=>rfl
  |some a=>exact JV w a s 0 0
 have V:len*s<=G*s:=aL _ I
 refine⟨some ⟨b,o,none⟩,len,G,fun i j=>arr.getD (o+(i*s+j)) undef,(aR (len*s)).map fun k=>arr.getD (o+k) undef,rfl,h1,I,(fun h=>by cases h),by simp,fun w hw=>?_,fun i j A H=>?_,fun i A=>(S i A).1,fun i j c A H=>by
  show PR R.w R.ok c (arr.getD (o+(i*s+j)) undef);rw[<-dG]
  exact(S i A).2 j c H⟩
 ·have:=run_loadCells (P:=P) w ⟨b,o,none⟩ (len*s) (fun k=>arr.getD (o+k) undef) (fun k hk=>by
   rw[Qx];have:w.heap[b]? =some (.cells arr ty (0,0)):=by rw[hw];exact Z
   exact ZY this (by omega))
  simpa [Builtin.firstCells]using this
 have J:i*s+j<len*s:=by
  have:(i+1)*s<=len*s:=aL s A;rw[bI]at this;omega
 rw[aO,cK J,cL]
theorem YH {e:TypeId} {s:Nat} (h:Zap P e s=true):∃i z,P.info? e=some i/\i.zero=some z/\z.cells.size=s/\i.size=s/\i.bytes<=1000000:=by
 unfold Zap at h;split at h
 ·rename_i i A;split at h
  ·rename_i z G;simp only[aT]at h;exact⟨i,z,A,G,ZB h.1.1,ZB h.1.2,QT h.2⟩
  cases h
 cases h
theorem ZhM (A:Nat):∀(k c:Nat),c<=2*A+1000->Builtin.growBy A k c<=2*A+1000
 |0,c,h=>h
 |k+1,c,h=>by
  simp only[Builtin.growBy];split
  ·exact h
  exact ZhM A k _ (by omega)
theorem Zsy (A old:Nat) (h:old<A):Builtin.nextslicecap A old<=2*A+1000:=by
 unfold Builtin.nextslicecap;split
 ·omega
 split
 ·omega
 exact ZhM A 4 old (by omega)
theorem Qg {at_:Array TypeId} {t U e e' ty:TypeId} {j:TypeInfo} (Z:at_[0]? =some t) (h1:at_[1]? =some U) (hu:P.underlying t=some (.slice e)) (V:P.underlying U=some (.slice e'))
  (hj:P.info? e=some j) (base J:Option Addr) (A G Y n:Nat) (new:Array Value) (w w':World) (hx:(Builtin.firstCells j.size n (.slice J n Y)).run P w= .ok new w) (S:A+n<=G)
  (H:∀a,base=some a->(storeCells (a.add (A*j.size)) new.toList).run P w= .ok () w') (I:base=none->w'=w):
  (Builtin.append_ at_ ty #[.slice base A G,.slice J n Y]).run P w= .ok (.slice base (A+n) G) w':=by
 unfold Builtin.append_
 simp only[Z,h1,aP,Zu hu,Zu V,Z0 hj,aH,bC,Builtin.lenOf,ef,bJ,cN,
  aX,if_false,eA,if_true,if_pos S,hx]
 cases base with
 |none=>rw[I rfl];rfl
 |some a=>simp only[aP,H a rfl,aH,bC]
theorem Jx {at_:Array TypeId} {t V e e' ty:TypeId} {j:TypeInfo} {z:Value} (h0:at_[0]? =some t) (h1:at_[1]? =some V) (hu:P.underlying t=some (.slice e)) (ab:P.underlying V=some (.slice e'))
  (hj:P.info? e=some j) (hz:j.zero=some z) (hb:j.bytes<=1000000) (base Z:Option Addr) (A G Y n:Nat) (old new:Array Value) (w:World)
  (hx:∀H:World,H.heap=w.heap->(Builtin.firstCells j.size n (.slice Z n Y)).run P H= .ok new H) (ho:∀H:World,H.heap=w.heap->(Builtin.firstCells j.size A (.slice base A G)).run P H= .ok old H)
  (aa:¬A+n<=G) (ac:A+n<=1000000):
  ∃(J d:Nat) (I:Array Value),A+n<=J/\I.size=(J-(A+n))*z.cells.size/\
   (Builtin.append_ at_ ty #[.slice base A G,.slice Z n Y]).run P w= .ok (.slice (some ⟨w.heap.size,0,none⟩) (A+n) J) {w with drawn:=d,heap:=w.heap.push (.cells (old++new++I) e)}:=by
 have hn:=Zsy (A+n) G (by omega);have S:¬Builtin.nextslicecap (A+n) G*j.bytes>2^ 48:=by
  have:Builtin.nextslicecap (A+n) G*j.bytes<=2001000*1000000:=Nat.mul_le_mul (by omega) hb;omega
 have U:¬(((A+n:Nat):Int)>IntKind.i64.max/\(False\/j.bytes=0)):=by
  have:IntKind.i64.max=9223372036854775807:=by decide
  rw[this];omega
 refine⟨(Question.appendCap (A+n) G e).cut (w.tape w.drawn (.appendCap (A+n) G e)),w.drawn+1,Builtin.zeroCells z.cells ((Question.appendCap (A+n) G e).cut (w.tape w.drawn (.appendCap (A+n) G e))-(A+n)),?_,by simp[Builtin.zeroCells],?_⟩
 ·simp only[Question.cut];omega
 unfold Builtin.append_
 simp only[h0,h1,aP,Zu hu,Zu ab,Z0 hj,Xh hj,aH,bC,Builtin.lenOf,ef,bJ,cN,
  aX,if_false,eA,if_true,if_neg aa,if_neg U,if_neg S,run_choose,Question.forced,run_askRoom,zeroValue,hz,newRow,run_newObj]
 rw[ho {w with drawn:=w.drawn+1} rfl];simp only[aH];rw[hx {w with drawn:=w.drawn+1} rfl];rfl
theorem QF {n:Unit->Int} {f g:(Unit->Int)->List AV} {len i:Nat} (A:n ()=(len:Int)) (hi:i<len):ZV n f g (fun _=>(i:Int))=f (fun _=>(i:Int)):=
 if_pos (show(i:Int)<n () by omega)
theorem Qz {n:Unit->Int} {f g:(Unit->Int)->List AV} {len i:Nat} (A:n ()=(len:Int)) (hi:len<=i):ZV n f g (fun _=>(i:Int))=g (fun _=>((i-len:Nat):Int)):=by
 refine(if_neg (show¬(i:Int)<n () by omega)).trans ?_;congr 1;funext _;show(i:Int)-n ()=_;omega
def ZkN (R:RC) (G:Nat->Nat->Nat->Prop) (h:List Zh) (s:Nat) (n m:Unit->Int) (f g:(Unit->Int)->List AV) (id:Nat) (h':List Zh) (r:Result Value):Prop:=
 ∃u A,r= .ok u A.w/\HR G A h'/\Xd R h A h'/\R.le A/\VR A (.isl s (fun _=>n ()+m ()) (ZV n f g) (.own id)) u
theorem Zfd {s ah:Nat} {n m:Unit->Int} {f g:(Unit->Int)->List AV} {id m':Nat} {h':List Zh} {v:Value} (H:HR G R h) (hv:PR R.w R.ok (.isl ah n f .none) v) (hs:ah=s\/n ()=0) (hm:m ()=0)
  (ae:h'.length=m') (aw:R.m<=m') (ak:∀i x,h'[i]? =some x->(i=id/\x= .tok s fun _=>n ()+m ())\/(i≠id/\h[i]? =some x)) (ai:h'[id]? =some (.tok s fun _=>n ()+m ()))
  (Y:id<R.m->∃U J,h[id]? =some (.tok U J)/\R.hw id<=n ()+m ()/\(R.hw id=n ()+m ()->v=R.hv id))
  (Z:¬id<R.m->(∃a:Option Addr,v= .slice a 0 0)\/∃a len,v= .slice (some a) len len)
  (ao:id<R.m->(n ()+m ()=0/\∃a:Option Addr,v= .slice a 0 0)\/∃(b o len I:Nat),n ()+m ()=(len:Int)/\len<=I/\v= .slice (some ⟨b,o,none⟩) len I/\
    (len<I->∃(arr:Array Value) (ty:TypeId),R.w.heap[b]? =some (.cells arr ty (0,0))/\o+I*s<=arr.size)) (ab:id<R.m->v=R.hv id)
  (ar:∀U J,h[id]? =some (.tok U J)->U=s):
  ∃V,V.w=R.w/\HR G V h'/\Xd R h V h'/\R.le V/\VR V (.isl s (fun _=>n ()+m ()) (ZV n f g) (.own id)) v:=by
 obtain⟨V,hw,ap,au,aq,H',hx,aa,_⟩:=H.token id m' s (fun _=>n ()+m ()) v R.w h' ae aw ak ai Y (fun b=>id<R.m/\∃U J,h[id]? =some (.tok U J)/\Zz R id (.tok U J) b) (fun b=>Iff.rfl) rfl rfl rfl (aJ _)
  (fun _ _ _=>rfl) (fun _ _ _ _ _ _=>rfl) (by
   by_cases A:id<R.m
   ·exact ao A
   rcases Z A with⟨a0,h⟩|⟨a,len,h⟩
   ·refine .inl ⟨?_,a0,h⟩;cases hv with
    |isl0 _ _ _ _ hz _=>show n ()+m ()=0;omega
    |islE _ _ _ _ _ hz _=>show n ()+m ()=0;omega
    |isl _ _ _ _ _ _ len I us hn=>cases h;show n ()+m ()=0;omega
   cases hv with
   |isl0 _ _ _ _ hz _=>cases h
   |islE _ _ _ _ a1 hz _=>exact .inl ⟨by show n ()+m ()=0;omega,_,rfl⟩
   |isl _ _ _ _ b o al I us hn _ _ _ _ _ _ _=>
    cases h
    exact .inr ⟨b,o,len,len,by show n ()+m ()=_;omega,aJ _,rfl,fun h=>absurd h (dI _)⟩)
  (fun a k c S ac=>by
   by_cases A:id<R.m
   ·obtain⟨U,J,h1,_⟩:=Y A;exact .inr ⟨A,U,J,h1,a,k,c,(ab A)▸S,ac,rfl⟩
   rcases Z A with⟨a0,h⟩|⟨a',len,h⟩
   ·rw[h]at S;cases S;omega
   rw[h]at S;cases S
   omega)
  (fun b o k hk a len I S ac hb=>by
   by_cases A:id<R.m
   ·obtain⟨U,J,h1,_⟩:=Y A;have:=((H.okd _ _ _).1 hk).2.2 id _ h1 a len I ((ab A)▸S) ac hb;rw[ar U J h1]at this;exact this
   rcases Z A with⟨a0,h⟩|⟨a',al,h⟩
   ·rw[h]at S;cases S;omega
   rw[h]at S;cases S
   omega)
 have aj:id<V.m:=by
  rw[ap,<-ae];exact(aE.1 ai).1
 refine⟨V,hw,H',hx,aa,.own _ _ _ _ _ aj ?_ (by rw[aq];exact bT _) (fun _=>au.symm)⟩;have am:=hv.mono aa.ok aa.keep aa.keepM;cases am with
 |isl0 _ _ _ _ hz _=>exact .isl0 _ _ _ _ (by show n ()+m ()=0;omega) rfl
 |islE _ _ _ _ a hz _=>exact .islE _ _ _ _ a (by show n ()+m ()=0;omega) (.inl rfl)
 |isl _ _ _ _ b o len I us hn hc ht S hl h1 h2 h3=>
  rcases hs with rfl|h0
  ·refine .isl _ _ _ _ b o len I us (by show n ()+m ()=_;omega) hc (.inl rfl) (fun h=>by cases h) (fun i A=>?_) (fun i j c A hj=>?_) (fun i j c A hj=>?_) h3
   ·rw[QF hn A];exact hl i A
   ·rw[QF hn A]at hj;exact h1 i j c A hj
   rw[QF hn A]at hj;exact h2 i j c A hj
  have:len=0:=by omega
  subst this;rw[ey]at h3;exact .isl _ _ _ _ b o 0 I us (by show n ()+m ()=_;omega) hc (.inl rfl) (fun h=>by cases h) (fun i A=>by omega) (fun i j c A=>by omega) (fun i j c A=>by omega) (by rw[ey];exact h3)
theorem Zg1 {s al:Nat} {n m:Unit->Int} {f g:(Unit->Int)->List AV} {id m':Nat} {h':List Zh} {v x:Value} {P:Program} {at_:Array TypeId} {t t' e e' ty:TypeId} {j:TypeInfo} {z:Value}
  (H:HR G R h) (hv:PR R.w R.ok (.isl al n f .none) v) (hs:al=s\/n ()=0) (bq:PR R.w R.ok (.isl s m g .none) x)
  (h0:at_[0]? =some t) (h1:at_[1]? =some t') (hu:P.underlying t=some (.slice e)) (bz:P.underlying t'=some (.slice e')) (hj:P.info? e=some j) (hz:j.zero=some z) (bu:z.cells.size=s) (cf:j.size=s) (hb:j.bytes<=1000000)
  (cq:n ()+m ()<=1000000) (ar:∀a len J,v= .slice a len J->¬((len:Int)+m ()<=J))
  (ao:h'.length=m') (bx:R.m<=m') (a9:∀i x,h'[i]? =some x->(i=id/\x= .tok s fun _=>n ()+m ())\/(i≠id/\h[i]? =some x)) (aw:h'[id]? =some (.tok s fun _=>n ()+m ()))
  (bk:id<R.m->∃s0 Y,h[id]? =some (.tok s0 Y)/\R.hw id<n ()+m ()):
  ZkN R G h s n m f g id h' ((Builtin.append_ at_ ty #[v,x]).run P R.w):=by
 obtain⟨f0,ce,aj⟩:∃f0,PR R.w R.ok (.isl s n f0 .none) v/\∀i:Nat,(i:Int)<n ()->f0 (fun _=>(i:Int))=f (fun _=>(i:Int)):=by
  rcases hs with rfl|h0
  ·exact⟨f,hv,fun _ _=>rfl⟩
  refine⟨fun _=>[],?_,fun i Z=>by omega⟩;cases hv with
  |isl0 _ _ _ _ hz _=>exact .isl0 _ _ _ _ hz rfl
  |islE _ _ _ _ a hz _=>exact .islE _ _ _ _ a hz (.inl rfl)
  |isl _ _ _ _ b o len J us V hc ht he hl h1 h2 h3=>
   have:len=0:=by omega
   subst this;rw[ey]at h3;exact .isl _ _ _ _ b o 0 J us V hc (.inl rfl) (fun h=>by cases h) (fun i Z=>by omega) (fun i j c Z=>by omega) (fun i j c Z=>by omega) (by rw[ey];exact h3)
 obtain⟨va,A,vc,bp,old,rfl,V,cr,c6,am,bh,cj,aa,bc,cw⟩:=Xw (P:=P) ce;obtain⟨xa,nn,xc,ca,new,rfl,hm,cy,cz,bt,ba,ci,ac,az,cu⟩:=Xw (P:=P) bq;have ap:¬A+nn<=vc:=fun hh=>ar _ _ _ rfl (by omega);subst cf;obtain⟨J,d,U,ab,ck,bg⟩:=Jx (P:=P) (ty:=ty) h0 h1 hu bz hj hz hb va xa A vc xc nn old.toArray new.toArray R.w (fun w' hw=>ba w' hw) (fun w' hw=>bh w' hw) ap (by omega);have bw:(old.toArray++new.toArray++U).size=J*j.size:=by
  rw[eS,eS,ck,bu];simp only[dU,am,bt];rw[<-dH,<-dH];congr 1;omega
 have ae:∀b,b<R.w.heap.size->(R.w.heap.push (.cells (old.toArray++new.toArray++U) e))[b]? =R.w.heap[b]? :=fun b hb=>by rw[bK,if_neg (by omega)]
 have ah:(R.w.heap.push (.cells (old.toArray++new.toArray++U) e))[R.w.heap.size]? =some (.cells (old.toArray++new.toArray++U) e (0,0)):=by simp
 obtain⟨R',hw,bo,cg,b9,H',hx,S,bm⟩:=H.token id m' j.size (fun _=>n ()+m ()) (.slice (some ⟨R.w.heap.size,0,none⟩) (A+nn) J)
  {R.w with drawn:=d,heap:=R.w.heap.push (.cells (old.toArray++new.toArray++U) e)} h' ao bx a9 aw
  (fun Z=>by obtain⟨s0,Y,h1,h2⟩:=bk Z;exact⟨s0,Y,h1,by show R.hw id<=n ()+m ();omega,fun e=>by have e:R.hw id=n ()+m ():=e;omega⟩)
  (fun b=>id<R.m/\∃s0 Y,h[id]? =some (.tok s0 Y)/\Zz R id (.tok s0 Y) b) (fun b=>Iff.rfl) rfl rfl rfl (by show _<=(R.w.heap.push _).size;simp)
  (fun b hb _=>ae b hb) (fun b o k I i _=>by
   have:=((H.okd _ _ _).1 I).1;simp only[bU]
   rw[ae b this])
  (.inr ⟨R.w.heap.size,0,A+nn,J,by show n ()+m ()=_;omega,ab,rfl,fun _=>⟨_,e,ah,by rw[bw];omega⟩⟩)
  (fun a k c he ak=>by cases he;exact .inl (aJ _))
  (fun b o k I a len c he ak au=>by
   cases he;have:=((H.okd _ _ _).1 I).1
   exact absurd this (by rw[<-au];exact dI _))
 have bl:id<R'.m:=by
  rw[bo,<-ao];exact(aE.1 aw).1
 refine⟨_,R',by rw[bg,hw],H',hx,S,.own _ _ _ _ _ bl ?_ (by rw[b9];exact bT _) (fun _=>cg.symm)⟩;have aq:∀k,k<J*j.size->R'.w.cell? ⟨R.w.heap.size,k,none⟩=(old++new++U.toList)[k]? :=fun k I=>by
  rw[hw];simp only[bU,ah,Option.isSome_none,aX,if_false];rw[<-bN];simp
 have cn:(A+nn)*j.size<=J*j.size:=aL _ ab;refine .isl _ _ _ _ R.w.heap.size 0 (A+nn) J (fun i k=>if i<A then bp i k else ca (i-A) k) (by show n ()+m ()=_;omega) ab (.inl rfl) (fun h=>by cases h) (fun i Z=>?_) (fun i k c Z I=>?_) (fun i k c Z I=>?_) ?_
 ·by_cases hi':i<A
  ·rw[QF V hi',<-aj i (by omega)];exact aa i hi'
  rw[Qz V (by omega)];exact ac _ (by omega)
 ·have ak:i*j.size+k<(A+nn)*j.size:=by
   have ai:k<j.size:=by
    by_cases hi':i<A
    ·rw[QF V hi',<-aj i (by omega)]at I;rw[<-aa i hi'];exact(aE.1 I).1
    rw[Qz V (by omega)]at I;rw[<-ac (i-A) (by omega)];exact(aE.1 I).1
   have:(i+1)*j.size<=(A+nn)*j.size:=aL _ Z;rw[bI]at this;omega
  rw[dA,aq _ (by omega)];by_cases hi':i<A
  ·rw[QF V hi',<-aj i (by omega)]at I;have ai:k<j.size:=by rw[<-aa i hi'];exact(aE.1 I).1
   have:=cj i k hi' ai;rw[if_pos hi',dT,bO (by exact(aE.1 this).1)];exact this
  rw[Qz V (by omega)]at I;have ai:k<j.size:=by rw[<-ac (i-A) (by omega)];exact(aE.1 I).1
  have:=ci (i-A) k (by omega) ai;have ct:A*j.size<=i*j.size:=aL _ (by omega)
  rw[if_neg hi',dT,dE (by rw[am];omega),am,show i*j.size+k-A*j.size=(i-A)*j.size+k from by rw[gg];omega,
   bO (by exact(aE.1 this).1)]
  exact this
 ·by_cases hi':i<A
  ·rw[QF V hi',<-aj i (by omega)]at I;rw[if_pos hi'];exact(bc i k c hi' I).mono S.ok S.keep S.keepM
  rw[Qz V (by omega)]at I;rw[if_neg hi'];exact(az (i-A) k c (by omega) I).mono S.ok S.keep S.keepM
 refine bm _ _ _ (by show _<(R.w.heap.push _).size;simp) (H.fresh _ _ _ (aJ _)) (.inl (aJ _)) (fun a len c he ak au=>?_);cases he;exact aJ _
theorem PR.one {w:World} {ok:Nat->Nat->Nat->Prop} {a:AV} {u:Value} (h:PR w ok a u):u.oneCell'=true:=by
 cases h<;>rfl
theorem Zn0 {s:Nat} {n m:Unit->Int} {f g:(Unit->Int)->List AV} {id:Nat} {v x:Value} {P:Program} {at_:Array TypeId} {t t' e e' ty:TypeId} {j:TypeInfo} {ai:Unit->Int}
  (H:HR G R h) (hv:PR R.w R.ok (.isl s n f .none) v) (bz:PR R.w R.ok (.isl s m g .none) x)
  (h0:at_[0]? =some t) (h1:at_[1]? =some t') (hu:P.underlying t=some (.slice e)) (ck:P.underlying t'=some (.slice e')) (hj:P.info? e=some j) (cr:j.size=s)
  (hi:h[id]? =some (.tok s ai)) (ae:R.hv id=v) (bg:R.hw id=n ()) (cy:0<m ()) (Y:∀a len J,v= .slice a len J->(len:Int)+m ()<=J):
  ZkN R G h s n m f g id (h.set id (.tok s fun _=>n ()+m ())) ((Builtin.append_ at_ ty #[v,x]).run P R.w):=by
 have aa:id<R.m:=H.len▸(aE.1 hi).1;obtain⟨xa,nn,xc,cn,new,rfl,hm,c9,da,ab,bo,bh,aj,ar,c6⟩:=Xw (P:=P) bz;cases hv with
 |isl0 _ _ _ _ hz _=>have:=Y _ _ _ rfl;omega
 |islE _ _ _ _ _ hz _=>have:=Y _ _ _ rfl;omega
 |isl _ _ _ _ b o len J us hn hc ht he hl ca cj ci=>
 have ao:len+nn<=J:=by have:=Y _ _ _ rfl;omega
 have ak:len<J:=by omega
 obtain⟨_,cg⟩:=H.blk id _ hi;obtain⟨arr,am,Z,cf⟩:∃(arr:Array Value) (ty:TypeId),R.w.heap[b]? =some (.cells arr ty (0,0))/\o+J*s<=arr.size:=by
  rcases cg with⟨_,a3,h⟩|⟨S,o',a9,cw,_,_,h,h4⟩
  ·rw[ae]at h;cases h;omega
  rw[ae]at h;cases h;exact h4 ak
 have V:Zz R id (.tok s ai) b:=⟨_,_,_,ae,ak,rfl⟩;subst cr;have cu:(len+nn)*j.size<=J*j.size:=aL _ ao;have ct:(len+nn)*j.size=len*j.size+nn*j.size:=dH ..;have bt:∀k,k<nn*j.size->k/j.size<nn/\k%j.size<j.size/\k/j.size*j.size+k%j.size=k:=fun k I=>by
  have hs:0<j.size:=eg (fun e=>by rw[e]at I;simp at I);exact⟨(dL hs).2 I,eF _ hs,fa k j.size⟩
 have bp:∀v∈new,v.oneCell'=true:=fun v cq=>by
  obtain⟨k,I,rfl⟩:=ed cq;obtain⟨f1,f2,f3⟩:=bt k (ab▸I);have e1:=bh _ _ f1 f2;rw[f3,aD I,aC]at e1;rw[e1];exact(ar _ _ _ f1 (aD (by rw[aj _ f1];exact f2))).one
 let A:=(arr.toList.take (o+len*j.size+0)++new++arr.toList.drop (o+len*j.size+0+new.length)).toArray;have b9:=run_storeCells_at P b (o+len*j.size) am new 0 arr R.w Z (by rw[ab];omega) bp;have bm:∀i x,(h.set id (.tok j.size fun _=>n ()+m ()))[i]? =some x->(i=id/\x= .tok j.size fun _=>n ()+m ())\/(i≠id/\h[i]? =some x):=fun i x hx=>by
  rw[bP]at hx;split at hx
  ·rename_i e;subst e;split at hx
   ·simp only[aC]at hx;exact .inl ⟨rfl,hx.symm⟩
   cases hx
  rename_i e;exact .inr ⟨fun h=>e h.symm,hx⟩
 have ac:∀S,S≠b->(R.w.setRow b A).heap[S]? =R.w.heap[S]? :=fun S hb=>setRow_other R.w b S _ hb;have aq:(R.w.setRow b A).heap[b]? =some (.cells A am (0,0)):=setRow_heap R.w b arr _ am _ Z;have au:A.size=arr.size:=by
  simp only[A,dU,bf,bX,dK,cV,ab];omega
 have ba:∀k,A.getD k undef=if o+len*j.size<=k/\k<o+len*j.size+new.length then new.getD (k-(o+len*j.size)) undef else arr.getD k undef:=fun k=>by
  have:=XF arr new (o+len*j.size+0) k (by rw[ab];omega);exact this
 have al:∀k,k<arr.size->(R.w.setRow b A).cell? ⟨b,k,none⟩=some (A.getD k undef):=fun k I=>ZY aq (by rw[au];exact I);have ap:∀S o' k,R.ok S o' k->∀i,i<k->(R.w.setRow b A).cell? ⟨S,o'+i,none⟩=R.w.cell? ⟨S,o'+i,none⟩:=fun S o' k I i c8=>by
  by_cases e:S=b
  ·subst e;have ah:=((H.okd _ _ _).1 I).2.2 id _ hi _ _ _ ae ak rfl;have ah:o'+k<=o+len*j.size:=ah;rw[al _ (by omega),ba,if_neg (by omega)];exact(ZY Z (by omega)).symm
  simp only[bU,ac S e]
 obtain⟨R',hw,bw,bq,bl,H',hx,U,bu⟩:=H.token id R.m j.size (fun _=>n ()+m ()) (.slice (some ⟨b,o,none⟩) (len+nn) J) (R.w.setRow b A) (h.set id (.tok j.size fun _=>n ()+m ()))
  (by rw[cA];exact H.len) (aJ _) bm (by rw[bP];simp[(aE.1 hi).1])
  (fun _=>⟨_,_,hi,by rw[bg];show n ()<=n ()+m ();omega,fun e=>by rw[bg]at e;have e:n ()=n ()+m ():=e;omega⟩)
  (fun b=>id<R.m/\∃s0 ai,h[id]? =some (.tok s0 ai)/\Zz R id (.tok s0 ai) b) (fun b=>Iff.rfl) rfl rfl rfl (by simp[World.setRow])
  (fun S _ ce=>ac S (fun e=>ce (e▸⟨aa,_,_,hi,V⟩))) ap
  (.inr ⟨b,o,len+nn,J,by show n ()+m ()=_;omega,ao,rfl,fun _=>⟨A,am,aq,by rw[au];exact cf⟩⟩)
  (fun a k c he az=>by cases he;exact .inr ⟨aa,_,_,hi,V⟩)
  (fun S o' k I a a9 c he az bc=>by
   cases he;subst bc;have ah:=((H.okd _ _ _).1 I).2.2 id _ hi _ _ _ ae ak rfl;have ah:o'+k<=o+len*j.size:=ah;show o'+k<=o+(len+nn)*j.size
   omega)
 refine⟨_,R',?_,H',hx,U,.own _ _ _ _ _ (by rw[bw];exact aa) ?_ (by rw[bl];exact bT _) (fun _=>bq.symm)⟩
 ·rw[hw]
  exact Qg h0 h1 hu ck hj _ xa len J xc nn new.toArray R.w _ (bo _ rfl) ao (fun a ha=>by
   cases ha;rw[Qx]
   exact b9) (fun h=>by cases h)
 refine .isl _ _ _ _ b o (len+nn) J (fun i k=>if i<len then us i k else cn (i-len) k) (by show n ()+m ()=_;omega) ao (.inl rfl) (fun h=>by cases h) (fun i aw=>?_) (fun i k c aw I=>?_) (fun i k c aw I=>?_) ?_
 ·by_cases hil:i<len
  ·rw[QF hn hil];exact hl i hil
  rw[Qz hn (by omega)];exact aj _ (by omega)
 ·rw[hw];by_cases hil:i<len
  ·rw[QF hn hil]at I;have bk:k<j.size:=by rw[<-hl i hil];exact(aE.1 I).1
   have bx:i*j.size+j.size<=len*j.size:=by
    have:(i+1)*j.size<=len*j.size:=aL _ hil;rwa [bI]at this
   rw[if_pos hil,dG,ap b o _ ci (i*j.size+k) (by omega),<-dG];exact ca i k c hil I
  rw[Qz hn (by omega)]at I;have bk:k<j.size:=by rw[<-aj (i-len) (by omega)];exact(aE.1 I).1
  have bx:i*j.size+j.size<=(len+nn)*j.size:=by
   have:(i+1)*j.size<=(len+nn)*j.size:=aL _ aw;rwa [bI]at this
  have cz:len*j.size<=i*j.size:=aL _ (by omega);have e1:=bh (i-len) k (by omega) bk;have e2:i*j.size-len*j.size=(i-len)*j.size:=by rw[gg]
  rw[if_neg hil,al _ (by omega),ba,if_pos (by rw[ab];omega),show o+i*j.size+k-(o+len*j.size)=(i-len)*j.size+k from by omega,aA,e1];rfl
 ·by_cases hil:i<len
  ·rw[QF hn hil]at I;rw[if_pos hil];exact(cj i k c hil I).mono U.ok U.keep U.keepM
  rw[Qz hn (by omega)]at I;rw[if_neg hil];exact(ar (i-len) k c (by omega) I).mono U.ok U.keep U.keepM
 refine bu _ _ _ (by show b<(R.w.heap.modify _ _).size;rw[Array.size_modify];exact(aM.1 Z).1) (H.tokG id _ b hi rfl V _ _) (.inr ⟨aa,_,_,hi,V⟩) (fun a a9 c he az bc=>?_);cases he;exact aJ _
end
end Vm
namespace Vm
open Go
section
variable {P:Program} {R:RC} {G:Nat->Nat->Nat->Prop} {h:List Zh}
theorem Zcu {id:Nat} {blk:Zh} {i:Nat} {x:Zh} (A:(h.set id blk)[i]? =some x):(i=id/\x=blk)\/(i≠id/\h[i]? =some x):=by
 rw[bP]at A;split at A
 ·rename_i e;subst e;split at A
  ·simp only[aC]at A;exact .inl ⟨rfl,A.symm⟩
  cases A
 rename_i e;exact .inr ⟨fun h=>e h.symm,A⟩
theorem HR.room1 (H:HR G R h) {id:Nat} {I blk':Zh} (hi:h[id]? =some I) (S:Zar I=true) (aw:αk blk'=false) (J:Int) (U:Value) (w':World)
  (h0:∀b o n,Qe R id I b o n->¬Zz R id I b) (Z:∀(A:RC) b o n,¬Zz A id blk' b->Qe A id blk' b o n)
  (ai:R.hw id<=J) (ak:R.hw id=J->U=R.hv id) (al:Zg6 (R.hv id) U)
  (ar:w'.os=R.w.os) (aj:w'.tape=R.w.tape) (aq:w'.output=R.w.output) (ap:R.w.heap.size<=w'.heap.size)
  (hh:∀b,b<R.w.heap.size->¬Zz R id I b->w'.heap[b]? =R.w.heap[b]?)
  (ah:∀A:RC,R.le A->A.w=w'->A.hw id=J->A.hv id=U->A.n0=R.n0->BR A id blk')
  (ab:∀A:RC,A.hv id=U->∀b,Zz A id blk' b->R.w.heap.size<=b\/Zz R id I b):
  ∃A,A.w=w'/\A.hv id=U/\A.hw id=J/\A.m=R.m/\HR G A (h.set id blk')/\Xd R h A (h.set id blk')/\R.le A:=by
 have ac:id<R.m:=H.len▸(aE.1 hi).1;have ao:∀b,Zz R id I b↔(id<R.m/\∃V,h[id]? =some V/\Zar V=true/\Zz R id V b):=fun b=>
  ⟨fun Y=>⟨ac,_,hi,S,Y⟩,fun⟨_,V,Z,_,h2⟩=>by rw[hi]at Z;cases Z;exact h2⟩
 have aa:∀b o n,R.ok b o n->¬Zz R id I b:=fun b o n S=>h0 b o n (((H.okd _ _ _).1 S).2.2 id _ hi);obtain⟨A,a1,a2,a3,a4,a5,a6,a7,_⟩:=H.room id R.m blk' J U w' (h.set id blk') (by rw[cA];exact H.len) (aJ _) (fun i x=>Zcu)
  (fun _=>⟨_,hi,S,ai,ak,al⟩) (fun b=>Zz R id I b) ao ar aj aq ap hh
  (fun b o n S j _=>by
   simp only[bU]
   rw[hh b ((H.okd _ _ _).1 S).1 (aa b o n S)])
  (fun A ae J am au hl=>ah A ae J am au hl.1)
  (fun A hv _ b Y=>ab A hv b Y)
  (fun A hv b o n S=>Z A b o n fun Y=>by
   rcases ab A hv b Y with h3|h3
   ·have:=((H.okd _ _ _).1 S).1;omega
   exact aa b o n S h3) aw
 exact⟨A,a1,a3,a4,a2,a5,a6,a7⟩
theorem HR.adopt (H:HR G R h) {q k z s:Nat} {N n1:Unit->Int} {m:(Unit->Int)->Unit->Int} {g:(Unit->Int)->(Unit->Int)->List AV} {f1:(Unit->Int)->List AV} (hq:h[q]? =some (.fam z s N m g)) (U:h[k]? =some (.gar s n1 f1)) (bw:z<=k):
  ∃I,I.w=R.w/\I.m=R.m/\(∀i,i≠q->I.hv i=R.hv i/\I.hw i=R.hw i)/\HR G I ((h.set k .dead).set q (.fam z s (fun _=>N ()+1) (Zby N m n1) (Y1 N g f1)))/\Xd R h I ((h.set k .dead).set q (.fam z s (fun _=>N ()+1) (Zby N m n1) (Y1 N g f1)))/\R.le I/\
   ∃(S:Array Value) (i:Nat),I.hv q= .tuple S/\S[i]? =some (R.hv k)/\N ()=(i:Int):=by
 have bc:k≠q:=fun e=>by subst e;rw[hq]at U;cases U
 obtain⟨a9,aw,S,ah,hN,bh,bl⟩:=H.blk q _ hq;obtain⟨b9,aq⟩:=H.blk k _ U;have aq:Zvz R s n1 f1 (R.hv k):=aq;have ce:q<R.m:=H.len▸(aE.1 hq).1;have bz:k<R.m:=H.len▸(aE.1 U).1;let F:Zh:=.fam z s (fun _=>N ()+1) (Zby N m n1) (Y1 N g f1);let h':=(h.set k .dead).set q F;let I:=Zla R.cx G R.n0 R.w R.m R.α (fun i=>if i=q then N ()+1 else R.hw i) (fun i=>if i=q then .tuple (S.push (R.hv k))else R.hv i) h';have Y:I.hv q= .tuple (S.push (R.hv k)):=if_pos rfl;have ab:∀i,i≠q->I.hv i=R.hv i:=fun i hi=>if_neg hi;have ar:∀i,i≠q->I.hw i=R.hw i:=fun i hi=>if_neg hi;have ai:∀ {i x},h'[i]? =some x->(i=q/\x=F)\/(i=k/\x= .dead)\/(i≠q/\i≠k/\h[i]? =some x):=fun {i x} A=>by
  rcases Zcu A with⟨h1,h2⟩|⟨h1,A⟩
  ·exact .inl ⟨h1,h2⟩
  rcases Zcu A with⟨h2,h3⟩|⟨h2,h3⟩
  ·exact .inr (.inl ⟨h2,h3⟩)
  exact .inr (.inr ⟨h1,h2,h3⟩)
 have aa:∀ {i v},(S.push (R.hv k))[i]? =some v->S[i]? =some v\/(i=S.size/\v=R.hv k):=fun {i v} hv=>by
  rw[bK]at hv;split at hv
  ·rename_i e;simp only[aC]at hv;exact .inr ⟨e,hv.symm⟩
  exact .inl hv
 have am:∀b,Zz I q F b↔(Zz R q (.fam z s N m g) b\/Zz R k (.gar s n1 f1) b):=fun b=>by
  constructor
  ·rintro⟨au,h1,i,v,h2,h3⟩;rw[Y]at h1;cases h1;rcases aa h2 with h2|⟨_,rfl⟩
   ·exact .inl ⟨S,ah,i,v,h2,h3⟩
   exact .inr h3
  rintro(⟨au,h1,i,v,h2,h3⟩|h3)
  ·rw[ah]at h1;cases h1;refine⟨_,Y,i,v,?_,h3⟩;rw[bK,if_neg (by have:=(aM.1 h2).1;omega)];exact h2
  exact⟨_,Y,S.size,R.hv k,by simp,h3⟩
 have bp:∀b o n,Zc2 I h' b o n↔Zc2 R h b o n:=fun b o n=>by
  constructor
  ·intro ha i x A;by_cases e:i=q
   ·subst e;rw[hq]at A;cases A;intro J;have:=ha i F (by simp[h',(aE.1 hq).1]);exact this ((am b).2 (.inl J))
   by_cases e':i=k
   ·subst e';rw[U]at A;cases A;intro J;have:=ha q F (by simp[h',(aE.1 hq).1]);exact this ((am b).2 (.inr J))
   have al:h'[i]? =some x:=by
    simp only[h'];rw[bP,if_neg (Ne.symm e),bP,if_neg (Ne.symm e')];exact A
   exact(Qe.congr (R:=R) (R':=I) rfl (ab i e)).1 (ha i x al)
  intro ha i x A;rcases ai A with⟨rfl,rfl⟩|⟨rfl,rfl⟩|⟨e,e',A⟩
  ·intro J;rcases(am b).1 J with J|J
   ·exact ha _ _ hq J
   exact ha _ _ U J
  ·exact fun J=>J
  exact(Qe.congr (R:=R) (R':=I) rfl (ab i e)).2 (ha i x A)
 have ap:∀b o n,I.ok b o n↔R.ok b o n:=fun b o n=>by
  rw[H.okd,<-bp];exact Iff.rfl
 have Z:R.le I:=⟨aJ _,fun _ _=>rfl,fun i hi=>by
  by_cases e:i=q
  ·subst e;refine⟨by show R.hw i<=(if i=i then _ else _);rw[if_pos rfl,aw];omega,fun e=>?_⟩;have e:R.hw i=(if i=i then N ()+1 else R.hw i):=e;rw[if_pos rfl,aw]at e;omega
  ·rw[ab i e,ar i e];exact⟨bT _,fun _=>rfl⟩,fun i hi=>by
  by_cases e:i=q
  ·subst e;rw[Y,ah];intro au h1;cases h1;exact⟨_,rfl,fun j x hj=>by rw[bK,if_neg (by have:=(aM.1 hj).1;omega)];exact hj⟩
  rw[ab i e]
  exact .refl _,fun b o n U=>(ap b o n).2 U,fun _ _ _ _ _ _=>rfl,fun _ _ _ _ h=>h,rfl⟩
 have bk:h'.length=I.m:=by simp only[h',cA];exact H.len
 have ak:∀ {i x b},h'[i]? =some x->Zz I i x b->(i=q/\(Zz R q (.fam z s N m g) b\/Zz R k (.gar s n1 f1) b))\/(i≠q/\i≠k/\h[i]? =some x/\Zz R i x b):=fun {i x b} A J=>by
  rcases ai A with⟨rfl,rfl⟩|⟨rfl,rfl⟩|⟨e,e',A⟩
  ·exact .inl ⟨rfl,(am b).1 J⟩
  ·exact J.elim
  exact .inr ⟨e,e',A,(Zz.congr (R:=R) (R':=I) rfl (ab i e)).1 J⟩
 refine⟨I,rfl,rfl,fun i hi=>⟨ab i hi,ar i hi⟩,⟨bk,fun _ _ _=>Iff.rfl,fun i x A=>?_,fun i j bi bj b ba hi hj J ae=>?_,H.cl,H.fresh,fun i x b A bo J o n=>?_,H.n0m⟩,?_,Z,S.push (R.hv k),S.size,Y,by simp,hN⟩
 ·rcases ai A with⟨rfl,rfl⟩|⟨rfl,rfl⟩|⟨e,e',A⟩
  ·refine⟨a9,if_pos rfl,S.push (R.hv k),Y,by simp;omega,fun j v hj=>?_,fun a c v v' b az hv aj=>?_⟩
   ·rcases aa hj with hj|⟨rfl,rfl⟩
    ·have ca:=(aM.1 hj).1;have e1:Y1 N g f1 (fun _=>(j:Int))=g fun _=>(j:Int):=if_pos (by show(j:Int)<N ();omega);rw[e1];exact((bh j v hj).mono (Q':=PR I.w I.ok) (fun _ _ h=>h.mono Z.ok Z.keep Z.keepM) fun _ _=>rfl).cong (by show(bif decide ((j:Int)<N ())then _ else _)=_;rw[decide_eq_true (by omega)];rfl) (fun _ _=>rfl) fun _ _ _ c hc=>⟨c,hc,fun _ h=>h⟩
    have e1:Y1 N g f1 (fun _=>(S.size:Int))=f1:=if_neg (by show¬(S.size:Int)<N ();omega);rw[e1];exact(aq.mono (Q':=PR I.w I.ok) (fun _ _ h=>h.mono Z.ok Z.keep Z.keepM) fun _ _=>rfl).cong (by show(bif decide ((S.size:Int)<N ())then _ else _)=_;rw[decide_eq_false (by omega)];rfl) (fun _ _=>rfl) fun _ _ _ c hc=>⟨c,hc,fun _ h=>h⟩
   rcases aa hv with hv|⟨rfl,rfl⟩<;>rcases aa aj with aj|⟨rfl,rfl⟩
   ·exact bl a c v v' b az hv aj
   ·exact fun J ae=>H.dis _ k _ _ b (Ne.symm bc) hq U ⟨S,ah,a,v,hv,J⟩ ae
   ·exact fun J ae=>H.dis _ k _ _ b (Ne.symm bc) hq U ⟨S,ah,c,v',aj,ae⟩ J
   exact absurd rfl az
  ·trivial
  exact(H.blk i x A).mono Z rfl rfl (ar i e) (ab i e) fun _ _=>rfl
 ·have bg:∀ {i x},i≠q->i≠k->h[i]? =some x->Zz R i x b->(Zz R q (.fam z s N m g) b\/Zz R k (.gar s n1 f1) b)->False:=fun bt bq A J V=>by
   rcases V with V|V
   ·exact H.dis _ _ _ _ b bt A hq J V
   exact H.dis _ _ _ _ b bq A U J V
  rcases ak hi J with⟨rfl,V⟩|⟨e1,e2,A,ac⟩<;>rcases ak hj ae with⟨rfl,bx⟩|⟨bu,bm,al,ao⟩
  ·exact ba rfl
  ·exact bg bu bm al ao V
  ·exact bg e1 e2 A ac bx
  exact H.dis i j bi bj b ba A al ac ao
 ·rcases ak A J with⟨rfl,V|V⟩|⟨e1,e2,A,ac⟩
  ·exact H.tokG _ _ b hq rfl V o n
  ·exact H.tokG _ _ b U rfl V o n
  exact H.tokG i x b A bo ac o n
 refine⟨rfl,rfl,rfl,rfl,aJ _,aJ _,fun _ _=>rfl,fun b o n U=>(ap b o n).2 U,fun _ _ _ _ _ _=>rfl,fun _ _ _=>rfl,fun i x b A J=>.inr ?_⟩;rcases ak A J with⟨rfl,V|V⟩|⟨e1,e2,A,ac⟩
 ·exact⟨_,_,hq,V,.inl rfl⟩
 ·exact⟨_,_,U,V,.inr (cF a9 bw)⟩
 exact⟨_,x,A,ac,.inl rfl⟩
theorem HR.gar (H:HR G R h) {id s:Nat} {n0:Unit->Int} {f:(Unit->Int)->List AV} (hi:h[id]? =some (.gar s n0 f)) (I:Unit->Int) (f':(Unit->Int)->List AV) (S:Value) (w':World)
  (al:n0 ()<=I ()) (ao:n0 ()=I ()->S=R.hv id)
  (aw:w'.os=R.w.os) (am:w'.tape=R.w.tape) (au:w'.output=R.w.output) (ar:R.w.heap.size<=w'.heap.size)
  (hh:∀b,b<R.w.heap.size->¬Zz R id (.gar s n0 f) b->w'.heap[b]? =R.w.heap[b]?)
  (ak:∀A:RC,R.le A->A.w=w'->(I ()=0/\∃a:Option Addr,S= .slice a 0 0)\/
   ∃(b o len Y:Nat) (arr:Array Value) (ty:TypeId),I ()=(len:Int)/\len<=Y/\S= .slice (some ⟨b,o,none⟩) len Y/\w'.heap[b]? =some (.cells arr ty (0,0))/\o+Y*s<=arr.size/\
    ∀i:Nat,i<len->(f' (fun _=>(i:Int))).length=s/\∀j c,(f' (fun _=>(i:Int)))[j]? =some c->PR A.w A.ok c (arr.getD (o+i*s+j) undef))
  (ah:∀a n c,S= .slice (some a) n c->0<c->R.w.heap.size<=a.block\/Zz R id (.gar s n0 f) a.block):
  ∃A,A.w=w'/\A.hv id=S/\A.hw id=I ()/\A.m=R.m/\HR G A (h.set id (.gar s I f'))/\Xd R h A (h.set id (.gar s I f'))/\R.le A:=by
 have ai:id<R.m:=H.len▸(aE.1 hi).1;obtain⟨aa,_⟩:=H.blk id _ hi;have aq:∀b,Zz R id (.gar s n0 f) b↔(id<R.m/\∃V,h[id]? =some V/\Zar V=true/\Zz R id V b):=fun b=>
  ⟨fun hp=>⟨ai,_,hi,rfl,hp⟩,fun⟨_,V,J,_,U⟩=>by rw[hi]at J;cases J;exact U⟩
 have ab:∀b o n,R.ok b o n->¬Zz R id (.gar s n0 f) b:=fun b o n Z=>((H.okd _ _ _).1 Z).2.2 id _ hi;obtain⟨A,a1,a2,a3,a4,a5,a6,a7,_⟩:=H.room id R.m (.gar s I f') (I ()) S w' (h.set id (.gar s I f')) (by rw[cA];exact H.len) (aJ _) (fun i x=>Zcu)
  (fun _=>⟨_,hi,rfl,by rw[aa];exact al,fun e=>ao (aa.symm.trans e),.of (H.blk id _ hi).garNo⟩) (fun b=>Zz R id (.gar s n0 f) b) aq aw am au ar hh
  (fun b o n Z j _=>by
   simp only[bU]
   rw[hh b ((H.okd _ _ _).1 Z).1 (ab b o n Z)])
  (fun A aj ac ap ae _=>by
   refine⟨ap,?_⟩;rcases ak A aj ac with⟨J,a,U⟩|⟨b,o,len,Y,arr,ty,J,U,h3,h4,h5,h6⟩
   ·exact .inl ⟨J,a,ae.trans U⟩
   exact .inr ⟨b,o,len,Y,arr,ty,J,U,ae.trans h3,by rw[ac];exact h4,h5,h6⟩)
  (fun A hv _ b ⟨a,n,c,J,hc,U⟩=>U▸ah a n c (hv.symm.trans J) hc)
  (fun A hv b o n Z ⟨a,l,c,J,hc,U⟩=>by
   rcases ah a l c (hv.symm.trans J) hc with h3|h3
   ·have:=((H.okd _ _ _).1 Z).1;omega
   exact ab b o n Z (U▸h3)) rfl
 exact⟨A,a1,a3,a4,a2,a5,a6,a7⟩
theorem Zer {s:Nat} {n0 m:Unit->Int} {f g:(Unit->Int)->List AV} {id:Nat} {x:Value} {at_:Array TypeId} {t t' e e' ty:TypeId} {j:TypeInfo} {z:Value}
  (H:HR G R h) (hi:h[id]? =some (.gar s n0 f)) (ci:Src P R s m g x)
  (h0:at_[0]? =some t) (h1:at_[1]? =some t') (hu:P.underlying t=some (.slice e)) (bc:P.underlying t'=some (.slice e')) (hj:P.info? e=some j) (hz:j.zero=some z) (cr:z.cells.size=s) (cy:j.size=s) (hb:j.bytes<=1000000)
  (da:n0 ()+m ()<=1000000):
  ∃u I,(Builtin.append_ at_ ty #[R.hv id,x]).run P R.w= .ok u I.w/\HR G I (h.set id (.gar s (fun _=>n0 ()+m ()) (ZV n0 f g)))/\Xd R h I (h.set id (.gar s (fun _=>n0 ()+m ()) (ZV n0 f g)))/\R.le I/\VR I (.gsl id fun _=>n0 ()+m ()) u:=by
 have aw:id<R.m:=H.len▸(aE.1 hi).1;obtain⟨xa,nn,xc,dc,new,rfl,hm,dg,dh,ah,au,bl,aj,aq⟩:=ci;subst cy;obtain⟨db,cu⟩:=H.blk id _ hi;have ca:∀k,k<nn*j.size->k/j.size<nn/\k%j.size<j.size/\k/j.size*j.size+k%j.size=k:=fun k J=>by
  have hs:0<j.size:=eg (fun e=>by rw[e]at J;simp at J);exact⟨(dL hs).2 J,eF _ hs,fa k j.size⟩
 have ac:∀ {i k c len:Nat},k<c->i<len->i*c+k<len*c:=fun {i k c len} J hi=>by
  have:(i+1)*c<=len*c:=aL _ hi;rw[bI]at this;omega
 have bh:∀(base:Option Addr) (S vc:Nat) (old:List Value),R.hv id= .slice base S vc->n0 ()=(S:Int)->(base=none->vc=0)->S<=vc->old.length=S*j.size->(∀w':World,w'.heap=R.w.heap->(Builtin.firstCells j.size S (.slice base S vc)).run P w'= .ok old.toArray w')->
   (∀i:Nat,i<S->(f (fun _=>(i:Int))).length=j.size/\∀k c,(f (fun _=>(i:Int)))[k]? =some c->PR R.w R.ok c (old.getD (i*j.size+k) undef))->¬S+nn<=vc->
   ∃u I,(Builtin.append_ at_ ty #[R.hv id,.slice xa nn xc]).run P R.w= .ok u I.w/\HR G I (h.set id (.gar j.size (fun _=>n0 ()+m ()) (ZV n0 f g)))/\Xd R h I (h.set id (.gar j.size (fun _=>n0 ()+m ()) (ZV n0 f g)))/\R.le I/\VR I (.gsl id fun _=>n0 ()+m ()) u:=by
  intro base S vc old hv hn di ba bt ce bg bm;obtain⟨Z,d,aa,bz,cz,b9⟩:=Jx (P:=P) (ty:=ty) h0 h1 hu bc hj hz hb base xa S vc xc nn old.toArray new.toArray R.w (fun w' hw=>au w' hw) ce bm (by omega);have ct:(old.toArray++new.toArray++aa).size=Z*j.size:=by
   rw[eS,eS,cz,cr];simp only[dU,bt,ah];rw[<-dH,<-dH];congr 1;omega
  have bo:∀b,b<R.w.heap.size->(R.w.heap.push (.cells (old.toArray++new.toArray++aa) e))[b]? =R.w.heap[b]? :=fun b hb=>by rw[bK,if_neg (by omega)]
  have bp:(R.w.heap.push (.cells (old.toArray++new.toArray++aa) e))[R.w.heap.size]? =some (.cells (old.toArray++new.toArray++aa) e (0,0)):=by simp
  have ai:∀k,(old.toArray++new.toArray++aa).getD k undef=if k<old.length then old.getD k undef else if k<old.length+new.length then new.getD (k-old.length) undef else aa.getD (k-old.length-new.length) undef:=fun k=>by
   simp only[aI,aA];by_cases h1:k<old.length
   ·rw[if_pos h1,dB,dF (by simpa using h1)];simp
   rw[if_neg h1];by_cases h2:k<old.length+new.length
   ·rw[if_pos h2,dF (by simpa using h2),dW (by simpa using fx h1)];simp
   rw[if_neg h2,dW (by simpa using fx h2)];simp[iL]
  have a9:∀I:RC,R.le I->∀i:Nat,i<S+nn->(ZV n0 f g (fun _=>(i:Int))).length=j.size/\∀k c,(ZV n0 f g (fun _=>(i:Int)))[k]? =some c->PR I.w I.ok c ((old.toArray++new.toArray++aa).getD (0+i*j.size+k) undef):=fun I A i Y=>by
   by_cases hil:i<S
   ·rw[QF hn hil];refine⟨(bg i hil).1,fun k c J=>?_⟩;have U:k<j.size:=by rw[<-(bg i hil).1];exact(aE.1 J).1
    have:=ac U hil;rw[dA,ai,if_pos (by omega)];exact((bg i hil).2 k c J).mono A.ok A.keep A.keepM
   rw[Qz hn (by omega)];refine⟨aj _ (by omega),fun k c J=>?_⟩;have U:k<j.size:=by rw[<-aj (i-S) (by omega)];exact(aE.1 J).1
   have e1:=ac (i:=i) (len:=S+nn) U Y;have e2:=ac (i:=i-S) (len:=nn) U (by omega);have e3:S*j.size<=i*j.size:=aL _ (by omega);have e4:(i-S)*j.size=i*j.size-S*j.size:=gg ..;rw[dA,ai,if_neg (by omega),if_pos (by omega),bt,show i*j.size+k-S*j.size=(i-S)*j.size+k from by omega,aA,bl (i-S) k (by omega) U];exact(aq (i-S) k c (by omega) J).mono A.ok A.keep A.keepM
  obtain⟨I,hw,am,al,ao,H',hx,A⟩:=H.gar hi (fun _=>n0 ()+m ()) (ZV n0 f g) (.slice (some ⟨R.w.heap.size,0,none⟩) (S+nn) Z) {R.w with drawn:=d,heap:=R.w.heap.push (.cells (old.toArray++new.toArray++aa) e)}
   (by show n0 ()<=n0 ()+m ();omega) (fun e=>by have e:n0 ()=n0 ()+m ():=e;omega) rfl rfl rfl (by show _<=(R.w.heap.push _).size;simp) (fun b hb _=>bo b hb)
   (fun I A ck=>.inr ⟨R.w.heap.size,0,S+nn,Z,_,e,by show n0 ()+m ()=_;omega,bz,rfl,bp,by rw[ct];omega,fun i Y=>a9 I A i Y⟩)
   (fun a k c he _=>by cases he;exact .inl (aJ _))
  exact⟨_,I,by rw[hv,b9,hw],H',hx,A,.gsl _ _ _ _ _ (by rw[ao];exact aw) (by rw[al];exact bT _) (fun _=>am.symm) ⟨by show n0 ()+m ()=_;omega,.inr ⟨_,_,rfl⟩⟩⟩
 have zero:∀a0:Option Addr,n0 ()=0->R.hv id= .slice a0 0 0->∃u I,(Builtin.append_ at_ ty #[R.hv id,.slice xa nn xc]).run P R.w= .ok u I.w/\HR G I (h.set id (.gar j.size (fun _=>n0 ()+m ()) (ZV n0 f g)))/\Xd R h I (h.set id (.gar j.size (fun _=>n0 ()+m ()) (ZV n0 f g)))/\R.le I/\VR I (.gsl id fun _=>n0 ()+m ()) u:=by
  intro a0 bu ab;by_cases hnn:nn=0
  ·subst hnn;obtain⟨I,hw,am,al,ao,H',hx,A⟩:=H.gar hi (fun _=>n0 ()+m ()) (ZV n0 f g) (.slice a0 0 0) R.w
    (by show n0 ()<=n0 ()+m ();omega) (fun _=>ab.symm) rfl rfl rfl (aJ _) (fun _ _ _=>rfl) (fun I _ _=>.inl ⟨by show n0 ()+m ()=0;omega,a0,rfl⟩) (fun a k c he h0=>by cases he;omega)
   refine⟨.slice a0 0 0,I,?_,H',hx,A,.gsl _ _ _ _ _ (by rw[ao];exact aw) (by rw[al];exact bT _) (fun _=>am.symm) ⟨by show n0 ()+m ()=_;omega,.inl rfl⟩⟩;rw[ab,hw];have cf:new=[]:=cQ (by rw[ah,ey]);exact Qg h0 h1 hu bc hj a0 xa 0 0 xc 0 new.toArray R.w R.w (au _ rfl) (aJ _) (fun a ha=>by rw[cf];rfl) (fun _=>rfl)
  exact bh a0 0 0 [] ab (by omega) (fun _=>rfl) (aJ _) (by simp) (fun w' _=>by
   cases a0 with
   |none=>rfl
   |some a0=>exact JV w' a0 _ 0 0) (fun i hi=>by omega) (by omega)
 rcases cu with⟨bu,a0,ab⟩|⟨b,o,len,Z,arr,ap,hn,ba,ab,ar,cg,ae⟩
 ·exact zero a0 bu ab
 rcases cI Z with ak|ak
 ·exact zero (some ⟨b,o,none⟩) (by omega) (by rw[ab,ak,show len=0 by omega])
 have az:Zz R id (.gar j.size n0 f) b:=⟨_,_,_,ab,ak,rfl⟩;have c6:len*j.size<=Z*j.size:=aL _ ba;by_cases hrm:len+nn<=Z
 ·have c9:(len+nn)*j.size<=Z*j.size:=aL _ hrm;have c8:(len+nn)*j.size=len*j.size+nn*j.size:=dH ..;have bx:∀v∈new,v.oneCell'=true:=fun v cw=>by
   obtain⟨k,J,rfl⟩:=ed cw;obtain⟨f1,f2,f3⟩:=ca k (ah▸J);have e1:=bl _ _ f1 f2;rw[f3,aD J,aC]at e1;rw[e1];exact(aq _ _ _ f1 (aD (by rw[aj _ f1];exact f2))).one
  let V:=(arr.toList.take (o+len*j.size+0)++new++arr.toList.drop (o+len*j.size+0+new.length)).toArray;have cj:=run_storeCells_at P b (o+len*j.size) ap new 0 arr R.w ar (by rw[ah];omega) bx;have bk:∀b',b'≠b->(R.w.setRow b V).heap[b']? =R.w.heap[b']? :=fun b' hb=>setRow_other R.w b b' _ hb;have bq:(R.w.setRow b V).heap[b]? =some (.cells V ap (0,0)):=setRow_heap R.w b arr _ ap _ ar;have bw:V.size=arr.size:=by
   simp only[V,dU,bf,bX,dK,cV,ah];omega
  have ai:∀k,V.getD k undef=if o+len*j.size<=k/\k<o+len*j.size+new.length then new.getD (k-(o+len*j.size)) undef else arr.getD k undef:=fun k=>
   XF arr new (o+len*j.size+0) k (by rw[ah];omega)
  have a9:∀I:RC,R.le I->∀i:Nat,i<len+nn->(ZV n0 f g (fun _=>(i:Int))).length=j.size/\∀k c,(ZV n0 f g (fun _=>(i:Int)))[k]? =some c->PR I.w I.ok c (V.getD (o+i*j.size+k) undef):=fun I A i Y=>by
   by_cases hil:i<len
   ·rw[QF hn hil];refine⟨(ae i hil).1,fun k c J=>?_⟩;have U:k<j.size:=by rw[<-(ae i hil).1];exact(aE.1 J).1
    have:=ac U hil;rw[ai,if_neg (by omega)];exact((ae i hil).2 k c J).mono A.ok A.keep A.keepM
   rw[Qz hn (by omega)];refine⟨aj _ (by omega),fun k c J=>?_⟩;have U:k<j.size:=by rw[<-aj (i-len) (by omega)];exact(aE.1 J).1
   have e1:=ac (i:=i) (len:=len+nn) U Y;have e2:=ac (i:=i-len) (len:=nn) U (by omega);have e3:len*j.size<=i*j.size:=aL _ (by omega);have e4:(i-len)*j.size=i*j.size-len*j.size:=gg ..;rw[ai,if_pos (by rw[ah];omega),show o+i*j.size+k-(o+len*j.size)=(i-len)*j.size+k from by omega,aA,bl (i-len) k (by omega) U];exact(aq (i-len) k c (by omega) J).mono A.ok A.keep A.keepM
  obtain⟨I,hw,am,al,ao,H',hx,A⟩:=H.gar hi (fun _=>n0 ()+m ()) (ZV n0 f g) (.slice (some ⟨b,o,none⟩) (len+nn) Z) (R.w.setRow b V)
   (by show n0 ()<=n0 ()+m ();omega) (fun e=>by have e:n0 ()=n0 ()+m ():=e;rw[ab,show nn=0 from by omega,dQ]) rfl rfl rfl (by simp[World.setRow]) (fun b' _ cn=>bk b' (fun e=>cn (e▸az)))
   (fun I A ck=>.inr ⟨b,o,len+nn,Z,V,ap,by show n0 ()+m ()=_;omega,hrm,rfl,bq,by rw[bw];exact cg,fun i Y=>a9 I A i Y⟩)
   (fun a k c he _=>by cases he;exact .inr az)
  refine⟨_,I,?_,H',hx,A,.gsl _ _ _ _ _ (by rw[ao];exact aw) (by rw[al];exact bT _) (fun _=>am.symm) ⟨by show n0 ()+m ()=_;omega,.inr ⟨_,_,rfl⟩⟩⟩;rw[ab,hw]
  exact Qg h0 h1 hu bc hj _ xa len Z xc nn new.toArray R.w _ (au _ rfl) hrm (fun a ha=>by
   cases ha;rw[Qx]
   exact cj) (fun h=>by cases h)
 have cq:∀k,k<len*j.size->o+k<arr.size:=fun k J=>by omega
 refine bh (some ⟨b,o,none⟩) len Z ((aR (len*j.size)).map fun k=>arr.getD (o+k) undef) ab hn (fun h=>by cases h) ba (by simp) (fun w' hw=>?_) (fun i Y=>⟨(ae i Y).1,fun k c J=>?_⟩) hrm
 ·have:=run_loadCells (P:=P) w' ⟨b,o,none⟩ (len*j.size) (fun k=>arr.getD (o+k) undef) (fun k J=>by
   rw[Qx];have:w'.heap[b]? =some (.cells arr ap (0,0)):=by rw[hw];exact ar
   exact ZY this (cq k J))
  simpa [Builtin.firstCells]using this
 have U:k<j.size:=by rw[<-(ae i Y).1];exact(aE.1 J).1
 have:=ac U Y;rw[aA,aO,cK (by omega)];show PR R.w R.ok c (arr.getD (o+(i*j.size+k)) undef);rw[<-dG];exact(ae i Y).2 k c J
end
end Vm
namespace Vm
open Go
def Zlc (lt:Unit->Bool):AV->AV->Option AV
 |.int k a,.int k' c=>if J5 k k' then some (.int k fun _=>bif lt ()then a ()else c ())else none
 |.bool a,.bool c=>some (.bool fun _=>bif lt ()then a ()else c ())
 |.isl s n f .none,.isl s' m g .none=>if ZD s s' then some (.isl s (fun _=>bif lt ()then n ()else m ()) (fun e=>bif lt ()then f e else g e) .none)else none
 |.isl _ _ _ .nil,.isl s' m g .none=>some (.isl s' (fun _=>bif lt ()then 0 else m ()) g .none)
 |_,_=>none
def Qq (lt:Unit->Bool):List AV->List AV->Option (List AV)
 |[],[]=>some []
 |a::r,b::s=>(match Zlc lt a b,Qq lt r s with
  |some x,some l=>some (x::l)
  |_,_=>none)
 |_,_=>none
instance decRow (m:Int) (f:Nat->Bool):Decidable (∀i:Nat,(i:Int)<m->f i=true):=decidable_of_iff ((aR m.toNat).all f=true) (by
 rw[bL]
 exact⟨fun h i hi=>h i (bW.2 (by omega)),fun h i hi=>h i (by have:=bW.1 hi;omega)⟩)
def Zp2 (e v:Unit->Int):Nat->List (Unit->Int)->List AV
 |_,[]=>[]
 |i,a::r=>.int .i64 (fun _=>bif decide (e ()=(i:Int))then v ()else a ())::Zp2 e v (i+1) r
def Zp3 (e:Unit->Int) (v:Unit->Bool):Nat->List (Unit->Bool)->List AV
 |_,[]=>[]
 |i,a::r=>.bool (fun _=>bif decide (e ()=(i:Int))then v ()else a ())::Zp3 e v (i+1) r
def ZuP (cs:List AV) (e:Unit->Int) (x:AV):Option (List AV):=match x with
 |.int .i64 v=>(match ZhK cs with
  |some l=>some (Zp2 e v 0 l)
  |none=>none)
 |.bool v=>(match ZeC cs with
  |some l=>some (Zp3 e v 0 l)
  |none=>none)
 |_=>none
theorem ZjE (e v:Unit->Int) (q:Nat) (A:e ()=(q:Int)):∀(l:List (Unit->Int)) (k:Nat),Zp2 e v k l=if k<=q then((l.map (AV.int .i64)).set (q-k) (.int .i64 v))else l.map (AV.int .i64)
 |[],k=>by split<;>simp[Zp2]
 |a::r,k=>by
  have G:=ZjE e v q A r (k+1);simp only[Zp2,G,A];by_cases hk:k<=q
  ·by_cases hq:q=k
   ·subst hq;rw[if_pos (aJ _),if_neg (by omega),eX];simp
   rw[if_pos hk,if_pos (by omega),show q-k=(q-(k+1))+1 by omega];have:¬((q:Int)=(k:Int)):=by omega
   simp[this]
  rw[if_neg hk,if_neg (by omega)];have:¬((q:Int)=(k:Int)):=by omega
  simp[this]
theorem ZjF (e:Unit->Int) (v:Unit->Bool) (q:Nat) (A:e ()=(q:Int)):∀(l:List (Unit->Bool)) (k:Nat),Zp3 e v k l=if k<=q then((l.map AV.bool).set (q-k) (.bool v))else l.map AV.bool
 |[],k=>by split<;>simp[Zp3]
 |a::r,k=>by
  have G:=ZjF e v q A r (k+1);simp only[Zp3,G,A];by_cases hk:k<=q
  ·by_cases hq:q=k
   ·subst hq;rw[if_pos (aJ _),if_neg (by omega),eX];simp
   rw[if_pos hk,if_pos (by omega),show q-k=(q-(k+1))+1 by omega];have:¬((q:Int)=(k:Int)):=by omega
   simp[this]
  rw[if_neg hk,if_neg (by omega)];have:¬((q:Int)=(k:Int)):=by omega
  simp[this]
theorem Zsr {cs A:List AV} {e:Unit->Int} {x:AV} (h:ZuP cs e x=some A) {q:Nat} (I:e ()=(q:Int)):A=cs.set q x/\Zlw x=true/\x.cellsOf=[x]:=by
 unfold ZuP at h;split at h
 ·split at h
  ·rename_i v _ l G;cases h;obtain⟨J,H⟩:=Zek G;have:cs=l.map (AV.int .i64):=en fun i=>by
    rw[aO];by_cases hi:i<l.length
    ·rw[H i hi,aD hi];rfl
    rw[cD (by omega),cD (by omega)];rfl
   rw[ZjE e v q I,if_pos (aW _),this];exact⟨rfl,rfl,rfl⟩
  cases h
 ·split at h
  ·rename_i v _ l G;cases h;obtain⟨J,H⟩:=Zdi G;have:cs=l.map AV.bool:=en fun i=>by
    rw[aO];by_cases hi:i<l.length
    ·rw[H i hi,aD hi];rfl
    rw[cD (by omega),cD (by omega)];rfl
   rw[ZjF e v q I,if_pos (aW _),this];exact⟨rfl,rfl,rfl⟩
  cases h
 cases h
def ZcJ (T:TI) (id s:Nat) (e:Unit->Int) (off:Nat) (x:AV) (h:List Zh):Option (AV×List Zh×Cd):=match h[id]? with
 |some (.arr s' m f)=>if ZD s s'&&plain x&&ZD x.cellsOf.length T.size&&ZD (f e).length s&&Z7 (off+T.size) s&&(x.cellsOf.map purify).all XI then
   some (.undef,h.set id (.arr s m fun G=>(Qq (fun _=>decide (G ()=e ())) (putC (f e) off (x.cellsOf.map purify)) (f G)).getD []),
    [dd fun _=>0<=e ()/\e ()<m (),dd fun _=>∀i:Nat,(i:Int)<m ()->(Qq (fun _=>decide ((i:Int)=e ())) (putC (f e) off (x.cellsOf.map purify)) (f fun _=>(i:Int))).isSome=true])else none
 |some (.cells cs)=>if ZD s 1&&ZD off 0&&ZD T.size 1 then(match ZuP cs e x with
  |some A=>some (.undef,h.set id (.cells A),bnd e cs.length)
  |none=>none)else none
 |_=>none
def ZcE (T:TI) (id s:Nat) (n e:Unit->Int) (off:Nat) (x:AV) (h:List Zh):Option (AV×List Zh×Cd):=match h[id]? with
 |some (.gar s' m f)=>if ZD s s'&&plain x&&ZD x.cellsOf.length T.size&&Z7 (off+T.size) s&&(x.cellsOf.map purify).all XI then
   some (.undef,h.set id (.gar s m fun A=>putC (f A) off ((Qq (fun _=>decide (A ()=e ())) (x.cellsOf.map purify) (((f A).drop off).take T.size)).getD [])),
    [dd fun _=>n ()=m ()/\0<=e ()/\e ()<m (),dd fun _=>∀i:Nat,(i:Int)<m ()->(Qq (fun _=>decide ((i:Int)=e ())) (x.cellsOf.map purify) (((f fun _=>(i:Int)).drop off).take T.size)).isSome=true])else none
 |_=>none
def Ja (T:TI) (z:Option Value) (n c:AV) (h:List Zh):Option (AV×List Zh×Cd):=match T.k,n,c,z with
 |.slice _ s b,.int _ x,.int _ y,some z=>if ZD z.cells.size s&&Z7 b 1000000&&((Xy z).cellsOf.map purify).all XI then
   some (.msl h.length s (fun _=>0) x x,h++[.arr s x fun _=>(Xy z).cellsOf.map purify],[dd fun _=>0<=x ()/\x ()=y ()/\x ()<=1000000])else none
 |_,_,_,_=>none
def ZgS (z:Option Value) (s0:Nat) (x:AV) (h:List Zh):Option (AV×List Zh×Cd):=match x,z with
 |.msl id s o n _,some z=>if ZD s s0 then(match h[id]? with
  |some (.arr s' m f)=>if ZD s s'&&ZD z.cells.size s&&((Xy z).cellsOf.map purify).all XI then
    some (.undef,h.set id (.arr s m fun e=>(Qq (fun _=>decide (o ()<=e ()/\e ()<o ()+n ())) ((Xy z).cellsOf.map purify) (f e)).getD []),
    [dd fun _=>0<=o ()/\o ()+n ()<=m (),dd fun _=>∀i:Nat,(i:Int)<m ()->(Qq (fun _=>decide (o ()<=(i:Int)/\(i:Int)<o ()+n ())) ((Xy z).cellsOf.map purify) (f fun _=>(i:Int))).isSome=true])else none
  |_=>none)else none
 |_,_=>none
section
variable {P:Program} {R:RC} {G:Nat->Nat->Nat->Prop} {h:List Zh}
structure Mx (lt:Unit->Bool) (a c x:AV):Prop where
 t:lt ()=true->∀ {w:World} {ok:Nat->Nat->Nat->Prop} {u:Value},PR w ok a u->PR w ok x u
 f:lt ()=false->∀ {w:World} {ok:Nat->Nat->Nat->Prop} {u:Value},PR w ok c u->PR w ok x u
 vt:lt ()=true->∀ {R:RC} {u:Value},VR R a u->VR R x u
 vf:lt ()=false->∀ {R:RC} {u:Value},VR R c u->VR R x u
theorem Zsz {lt:Unit->Bool} {a c x:AV} (h:Zlc lt a c=some x):Mx lt a c x:=by
 unfold Zlc at h;split at h
 ·rename_i k p k' q;split at h
  ·rename_i I;have I:=Zej I;subst I;cases h;refine⟨fun A=>?_,fun A=>?_,fun A=>?_,fun A=>?_⟩
   ·have:(fun _:Unit=>bif lt ()then p ()else q ())=p:=funext fun _=>by rw[A];rfl
    rw[this];intros;assumption
   ·have:(fun _:Unit=>bif lt ()then p ()else q ())=q:=funext fun _=>by rw[A];rfl
    rw[this];intros;assumption
   ·have:(fun _:Unit=>bif lt ()then p ()else q ())=p:=funext fun _=>by rw[A];rfl
    rw[this];intros;assumption
   have:(fun _:Unit=>bif lt ()then p ()else q ())=q:=funext fun _=>by rw[A];rfl
   rw[this];intros;assumption
  cases h
 ·rename_i p q;cases h;refine⟨fun A=>?_,fun A=>?_,fun A=>?_,fun A=>?_⟩
  ·have:(fun _:Unit=>bif lt ()then p ()else q ())=p:=funext fun _=>by rw[A];rfl
   rw[this];intros;assumption
  ·have:(fun _:Unit=>bif lt ()then p ()else q ())=q:=funext fun _=>by rw[A];rfl
   rw[this];intros;assumption
  ·have:(fun _:Unit=>bif lt ()then p ()else q ())=p:=funext fun _=>by rw[A];rfl
   rw[this];intros;assumption
  have:(fun _:Unit=>bif lt ()then p ()else q ())=q:=funext fun _=>by rw[A];rfl
  rw[this];intros;assumption
 ·rename_i s n f Y m g;split at h
  ·rename_i I;have I:=ZB I;subst I;cases h;refine⟨fun A=>?_,fun A=>?_,fun A=>?_,fun A=>?_⟩
   ·have G:(fun _:Unit=>bif lt ()then n ()else m ())=n:=funext fun _=>by rw[A];rfl
    have H:(fun e:Unit->Int=>bif lt ()then f e else g e)=f:=funext fun _=>by rw[A];rfl
    rw[G,H];intros;assumption
   ·have G:(fun _:Unit=>bif lt ()then n ()else m ())=m:=funext fun _=>by rw[A];rfl
    have H:(fun e:Unit->Int=>bif lt ()then f e else g e)=g:=funext fun _=>by rw[A];rfl
    rw[G,H];intros;assumption
   ·have G:(fun _:Unit=>bif lt ()then n ()else m ())=n:=funext fun _=>by rw[A];rfl
    have H:(fun e:Unit->Int=>bif lt ()then f e else g e)=f:=funext fun _=>by rw[A];rfl
    rw[G,H];intros;assumption
   have G:(fun _:Unit=>bif lt ()then n ()else m ())=m:=funext fun _=>by rw[A];rfl
   have H:(fun e:Unit->Int=>bif lt ()then f e else g e)=g:=funext fun _=>by rw[A];rfl
   rw[G,H];intros;assumption
  cases h
 ·rename_i s0 n f Y m g;cases h;have J:lt ()=true->∀ {w:World} {ok:Nat->Nat->Nat->Prop} {u:Value},PR w ok (.isl s0 n f .nil) u->PR w ok (.isl Y (fun _=>bif lt ()then 0 else m ()) g .none) u:=fun A w ok u S=>by
   have V:(fun _:Unit=>bif lt ()then(0:Int)else m ()) ()=0:=by
    show(bif lt ()then(0:Int)else m ())=0;rw[A];rfl
   cases S with
   |isl0 _ _ _ _ Z U=>exact .isl0 _ _ _ _ V rfl
   |islE _ _ _ _ a Z U=>exact .islE _ _ _ _ a V (.inl rfl)
   |isl _ _ _ _ b o len aa us hn hc U=>rcases U with h|h<;>cases h
  have G:lt ()=false->(fun _:Unit=>bif lt ()then(0:Int)else m ())=m:=fun A=>funext fun _=>by rw[A];rfl
  refine⟨fun A=>J A,fun A=>?_,fun A R u hv=>?_,fun A=>?_⟩
  ·rw[G A];intros;assumption
  ·cases hv with
   |pure _ _ S=>exact .pure _ _ (J A S)
  rw[G A];intros;assumption
 cases h
theorem X8 {lt:Unit->Bool}:∀ {new old l:List AV},Qq lt new old=some l->new.length=l.length/\old.length=l.length/\
  ∀(j:Nat) (x:AV),l[j]? =some x->∃a c,new[j]? =some a/\old[j]? =some c/\Mx lt a c x
 |[],[],l,h=>by
  simp only[Qq,aC]at h;subst h;exact⟨rfl,rfl,fun j x A=>by simp at A⟩
 |[],_::_,l,h=>by simp[Qq]at h
 |_::_,[],l,h=>by simp[Qq]at h
 |a::r,b::s,l,h=>by
  simp only[Qq]at h;split at h;case h_2=>cases h
  rename_i x U J G;simp only[aC]at h;subst h;obtain⟨S,I,H⟩:=X8 G;refine⟨by simp[S],by simp[I],fun j y A=>?_⟩;cases j with
  |zero=>
   simp only[bJ,aC]at A;subst A;exact⟨a,b,rfl,rfl,Zsz J⟩
  |succ j=>exact H j y (by simpa using A)
theorem HR.arrPut (H:HR G R h) {id s:Nat} {m:Unit->Int} {f:(Unit->Int)->List AV} (hi:h[id]? =some (.arr s m f)) (A:Nat) (vs:List Value) (V:(Unit->Int)->List AV)
  (ac:(A+vs.length:Nat)<=(m ()).toNat*s) (ab:∀v∈vs,v.oneCell'=true) (Y:∀i:Nat,(i:Int)<m ()->(V (fun _=>(i:Int))).length=s)
  (hf:∀i:Nat,(i:Int)<m ()->∀j c,(V (fun _=>(i:Int)))[j]? =some c->if A<=i*s+j/\i*s+j<A+vs.length then PR R.w R.ok c (vs.getD (i*s+j-A) undef)else∃Z,(f (fun _=>(i:Int)))[j]? =some Z/\∀v,PR R.w R.ok Z v->PR R.w R.ok c v):
  ∃S,(storeCells ⟨(R.α id).b,(R.α id).o+A,none⟩ vs).run P R.w= .ok () S.w/\HR G S (h.set id (.arr s m V))/\Xd R h S (h.set id (.arr s m V))/\R.le S:=by
 obtain⟨arr,ty,len,h1,hn,h2,h3⟩:=H.blk id _ hi;have ae:(m ()).toNat=len:=by omega
 rw[ae]at ac;have ah:=run_storeCells_at P (R.α id).b ((R.α id).o+A) ty vs 0 arr R.w h1 (by omega) ab;let J:=(arr.toList.take ((R.α id).o+A+0)++vs++arr.toList.drop ((R.α id).o+A+0+vs.length)).toArray
 obtain⟨S,hw,hm,U,H',hx,I⟩:=H.upd hi rfl (blk':=.arr s m V) rfl (R.w.setRow (R.α id).b J) rfl rfl rfl (by simp[World.setRow]) (fun b hb=>setRow_other R.w (R.α id).b b _ hb) (fun S I U hw=>by
  refine⟨J,ty,len,by rw[hw,U];exact setRow_heap R.w _ arr _ ty _ h1,hn,?_,fun i aa=>⟨Y i (by omega),fun j c hj=>?_⟩⟩
  ·rw[U];simp only[J,dU,bf,bX,dK,cV];omega
  have aj:j<s:=by rw[<-Y i (by omega)];exact(aE.1 hj).1
  have ai:i*s+s<=len*s:=by
   have:(i+1)*s<=len*s:=aL s aa;rwa [bI]at this
  rw[U,XF arr vs ((R.α id).o+A+0) _ (by omega)];have:=hf i (by omega) j c hj;by_cases hc:A<=i*s+j/\i*s+j<A+vs.length
  ·rw[if_pos hc]at this;rw[if_pos (by omega),show(R.α id).o+i*s+j-((R.α id).o+A+0)=i*s+j-A from by omega];exact this.mono I.ok I.keep I.keepM
  rw[if_neg hc]at this;rw[if_neg (by omega)];obtain⟨Z,t1,t2⟩:=this
  exact(t2 _ ((h3 i aa).2 j Z t1)).mono I.ok I.keep I.keepM)
 exact⟨S,by rw[ah,hw],H',hx,I⟩
theorem Zde {x:AV} {u:Value} (J:VR R x u) (A:plain x=true) (G:(x.cellsOf.map purify).all XI=true):
  x.cellsOf.length=u.cells.toList.length/\∀j c,(x.cellsOf.map purify)[j]? =some c->PR R.w R.ok c (u.cells.toList.getD j undef):=by
 have hr:=Jf J (fun g y e=>by rw[e]at A;cases A) (fun e=>by rw[e]at A;cases A);refine⟨by rw[hr.1];simp,fun j c I=>?_⟩;rw[aO,aG]at I;obtain⟨y,H,rfl⟩:=I;have hv:=hr.2 j y H;rw[bL]at G;have:=hv.purify (G _ (bE.2 ⟨y,aZ H,rfl⟩));simpa using this
theorem Zf6 {l:List AV} {vs:List Value} (G:l.length=vs.length) (h:∀j c,l[j]? =some c->PR R.w R.ok c (vs.getD j undef)):∀v∈vs,v.oneCell'=true:=fun v hv=>by
 obtain⟨j,A,rfl⟩:=ed hv;have:=h j l[j] (aD (by omega));rw[aA,aD A]at this;exact this.one
theorem Zkw {t:TypeId} {T:TI} (hT:ZC P t=some T) (H:HR G R h) {id s off:Nat} {e:Unit->Int} {a x:Value} {I v:AV} {h':List Zh} {c:Cd} (ha:VR R (.aptr id s e off) a) (hx:VR R I x)
  (hv:ZcJ T id s e off I h=some (v,h',c)) (hc:ZT c):v= .undef/\∃J,(ep t a x).run P R.w= .ok () J.w/\HR G J h'/\Xd R h J h'/\R.le J:=by
 unfold ZcJ at hv;split at hv;case h_3=>cases hv
 case h_2=>
  rename_i cs hi;split at hv;case isFalse=>cases hv
  rename_i A;simp only[aT]at A;obtain⟨⟨U,e2⟩,V⟩:=A;have U:=ZB U;have e2:=ZB e2;have V:=ZB V;subst U e2;split at hv;case h_2=>cases hv
  rename_i az ak;cases hv;obtain⟨r1,r2⟩:=(Cn.out (hc _ (aN.2 rfl)));cases ha with
  |pure _ _ Y=>cases Y
  |aptr _ _ _ _ i aw he=>
   have bg:i<cs.length:=by omega
   obtain⟨rfl,S,ar⟩:=Zsr ak he;have hr:=Jf hx (fun g y e=>by rw[e]at S;cases S) (fun e=>by rw[e]at S;cases S);rw[ar]at hr;obtain⟨ti,d,ab,_,ah,_,_,_⟩:=Xu hT;obtain⟨J,ac,hm,a9,H',am,aa⟩:=H.store (P:=P) (off:=i) hi [I] x.cells.toList (by rw[hr.1];simp) (by simp;omega) (fun a ha=>by simp at ha;subst ha;exact S) (fun j c hj=>by simpa using hr.2 j c hj);refine⟨rfl,J,?_,H',am,aa⟩;simp only[ep,cP,aP,bC,aH,storeVar,Z0 ab];rw[if_neg (by have:=hr.1;simp only[List.length_singleton]at this;omega)];rw[Nat.mul_one,dQ];exact ac
 rename_i s' m f hi;split at hv;case isFalse=>cases hv
 rename_i A;simp only[aT]at A;obtain⟨⟨⟨⟨⟨U,e2⟩,V⟩,e4⟩,e5⟩,e6⟩:=A;have U:=ZB U;subst U;have V:=ZB V;have e4:=ZB e4;have e5:=QT e5;simp only[aC,aK]at hv;obtain⟨rfl,rfl,rfl⟩:=hv;obtain⟨ba,bk⟩:=(Cn.out (hc _ (aU ..)));have aj:=(Cn.out (hc _ (aQ _ (aN.2 rfl))));obtain⟨hl,Y⟩:=Zde hx e2 e6;obtain⟨i0,d,ab,_,ah,_,_,_⟩:=Xu hT;cases ha with
 |pure _ _ Y=>cases Y
 |aptr _ _ _ _ i aw he=>
 obtain⟨arr,ty,len,h1,hn,h2,h3⟩:=H.blk id _ hi;have aq:i<len:=by omega
 have au:f e=f (fun _=>(i:Int)):=congrArg f (funext fun _=>he);have bc:i*s+s<=len*s:=by
  have:(i+1)*s<=len*s:=aL s aq;rwa [bI]at this
 have ao:(I.cellsOf.map purify).length=x.cells.toList.length:=by rw[bA];exact hl
 refine⟨rfl,?_⟩;have ae:∀k:Nat,(k:Int)<m ()->∃row,Qq (fun _=>decide ((k:Int)=e ())) (putC (f e) off (I.cellsOf.map purify)) (f fun _=>(k:Int))=some row:=fun k hk=>dV.1 (aj k hk);obtain⟨J,ac,H',ap,aa⟩:=H.arrPut (P:=P) hi (i*s+off) x.cells.toList (fun e'=>(Qq (fun _=>decide (e' ()=e ())) (putC (f e) off (I.cellsOf.map purify)) (f e')).getD [])
  (by rw[show(m ()).toNat=len from by omega];omega) (Zf6 ao Y) (fun k hk=>by
   obtain⟨row,hr⟩:=ae k hk;simp only[hr,bY];obtain⟨g1,_,_⟩:=X8 hr;rw[<-g1,X2]
   exact e4) (fun k hk j c hj=>by
   obtain⟨row,hr⟩:=ae k hk;simp only[hr,bY]at hj;obtain⟨g1,g2,g3⟩:=X8 hr;obtain⟨a1,c1,Z,n2,mx⟩:=g3 j c hj;have bh:j<s:=by rw[<-e4,<-X2 (I.cellsOf.map purify) (f e) off];exact(aE.1 Z).1
   by_cases hki:k=i
   ·subst hki;have hd:decide ((k:Int)=e ())=true:=decide_eq_true he.symm;rw[ZaM _ _ _ _ (by rw[bA,V,e4];exact e5)]at Z;by_cases hin:off<=j/\j<off+(I.cellsOf.map purify).length
    ·rw[if_pos hin]at Z;rw[if_pos (by omega),show k*s+j-(k*s+off)=j-off from by omega];exact mx.t hd (Y _ _ Z)
    rw[if_neg hin]at Z;rw[if_neg (by omega)];exact⟨a1,by rw[<-au];exact Z,fun v h=>mx.t hd h⟩
   have hd:decide ((k:Int)=e ())=false:=decide_eq_false (by omega)
   rw[if_neg (by
    rcases fh hki with ai|al
    ·have:(k+1)*s<=i*s:=aL s ai;rw[bI]at this;omega
    have:(i+1)*s<=k*s:=aL s al;rw[bI]at this
    omega)]
   exact⟨c1,n2,fun v h=>mx.f hd h⟩)
 refine⟨J,?_,H',ap,aa⟩;simp only[ep,cP,aP,bC,aH,storeVar,Z0 ab];rw[if_neg (by rw[<-ah,<-V,hl];simp),dG];exact ac
theorem HR.garPut (H:HR G R h) {id s:Nat} {m:Unit->Int} {f:(Unit->Int)->List AV} (hi:h[id]? =some (.gar s m f)) {b o len cap:Nat} {arr:Array Value} {ty:TypeId} (al:0<len) (hn:m ()=(len:Int)) (ac:len<=cap) (ab:R.hv id= .slice (some ⟨b,o,none⟩) len cap) (h1:R.w.heap[b]? =some (.cells arr ty (0,0))) (h2:o+cap*s<=arr.size)
  (h3:∀i:Nat,i<len->(f (fun _=>(i:Int))).length=s/\∀j c,(f (fun _=>(i:Int)))[j]? =some c->PR R.w R.ok c (arr.getD (o+i*s+j) undef)) (A:Nat) (vs:List Value) (U:(Unit->Int)->List AV)
  (aj:A+vs.length<=len*s) (ae:∀v∈vs,v.oneCell'=true) (V:∀i:Nat,(i:Int)<m ()->(U (fun _=>(i:Int))).length=s)
  (hf:∀i:Nat,(i:Int)<m ()->∀j c,(U (fun _=>(i:Int)))[j]? =some c->if A<=i*s+j/\i*s+j<A+vs.length then PR R.w R.ok c (vs.getD (i*s+j-A) undef)else∃Y,(f (fun _=>(i:Int)))[j]? =some Y/\∀v,PR R.w R.ok Y v->PR R.w R.ok c v):
  ∃S,(storeCells ⟨b,o+A,none⟩ vs).run P R.w= .ok () S.w/\HR G S (h.set id (.gar s m U))/\Xd R h S (h.set id (.gar s m U))/\R.le S:=by
 have ak:len*s<=cap*s:=aL s ac;have ah:=run_storeCells_at P b (o+A) ty vs 0 arr R.w h1 (by omega) ae;have Z:Zz R id (.gar s m f) b:=⟨_,_,_,ab,by omega,rfl⟩;let J:=(arr.toList.take (o+A+0)++vs++arr.toList.drop (o+A+0+vs.length)).toArray
 obtain⟨S,hw,aq,am,ar,H',hx,I⟩:=H.gar hi m U (R.hv id) (R.w.setRow b J) (bT _) (fun _=>rfl) rfl rfl rfl (by simp[World.setRow]) (fun b' _ ai=>setRow_other R.w b b' _ (fun e=>ai (e▸Z))) (fun S I hw=>by
  refine .inr ⟨b,o,len,cap,J,ty,hn,ac,ab,setRow_heap R.w _ arr _ ty _ h1,?_,fun i aa=>⟨V i (by omega),fun j c hj=>?_⟩⟩
  ·simp only[J,dU,bf,bX,dK,cV];omega
  ·have ap:j<s:=by rw[<-V i (by omega)];exact(aE.1 hj).1
   have ao:i*s+s<=len*s:=by
    have:(i+1)*s<=len*s:=aL s aa;rwa [bI]at this
   rw[XF arr vs (o+A+0) _ (by omega)];have:=hf i (by omega) j c hj;by_cases hc:A<=i*s+j/\i*s+j<A+vs.length
   ·rw[if_pos hc]at this;rw[if_pos (by omega),show o+i*s+j-(o+A+0)=i*s+j-A from by omega];exact this.mono I.ok I.keep I.keepM
   rw[if_neg hc]at this;rw[if_neg (by omega)];obtain⟨Y,t1,t2⟩:=this
   exact(t2 _ ((h3 i aa).2 j Y t1)).mono I.ok I.keep I.keepM)
  (fun a n c e h0=>.inr ⟨a,n,c,e,h0,rfl⟩)
 exact⟨S,by rw[ah,hw],H',hx,I⟩
theorem Zj5 {t:TypeId} {T:TI} (hT:ZC P t=some T) (H:HR G R h) {id s off:Nat} {n e:Unit->Int} {a x:Value} {U v:AV} {h':List Zh} {c:Cd} (ha:VR R (.gptr id s n e off) a) (hx:VR R U x)
  (hv:ZcE T id s n e off U h=some (v,h',c)) (hc:ZT c):v= .undef/\∃S,(ep t a x).run P R.w= .ok () S.w/\HR G S h'/\Xd R h S h'/\R.le S:=by
 unfold ZcE at hv;split at hv;case h_2=>cases hv
 rename_i s' m f hi;split at hv;case isFalse=>cases hv
 rename_i ab;simp only[aT]at ab;obtain⟨⟨⟨⟨e1,e2⟩,Y⟩,e5⟩,e6⟩:=ab;have e1:=ZB e1;subst e1;have Y:=ZB Y;have e5:=QT e5;simp only[aC,aK]at hv;obtain⟨rfl,rfl,rfl⟩:=hv;obtain⟨az,bc,bp⟩:=(Cn.out (hc _ (aU ..)));have ah:=(Cn.out (hc _ (aQ _ (aN.2 rfl))));obtain⟨hl,hp⟩:=Zde hx e2 e6;obtain⟨i0,d,al,_,au,_,_,_⟩:=Xu hT;cases ha with
 |pure _ _ hp=>cases hp
 |gptr _ _ _ _ _ a bo bl he=>
 obtain⟨aj,aw⟩:=H.blk id _ hi;obtain⟨b,o,i,len,bm,g0,am,rfl⟩:=he (by rw[az,aj]);rcases aw with⟨bk,_⟩|⟨b',o',ba,a9,arr,ty,hn,aq,g3,h1,h2,h3⟩
 ·omega
 rw[g0]at g3;cases g3;have ap:i<len:=by omega
 have bg:i*s+s<=len*s:=by
  have:(i+1)*s<=len*s:=aL s ap;rwa [bI]at this
 have ae:(U.cellsOf.map purify).length=T.size:=by rw[bA];exact Y
 have J:x.cells.toList.length=T.size:=by rw[<-hl];exact Y
 refine⟨rfl,?_⟩;have ai:∀k:Nat,(k:Int)<m ()->∃row,Qq (fun _=>decide ((k:Int)=e ())) (U.cellsOf.map purify) (((f fun _=>(k:Int)).drop off).take T.size)=some row:=fun k Z=>dV.1 (ah k Z);obtain⟨S,ar,H',ao,ak⟩:=H.garPut (P:=P) hi (by omega) hn aq g0 h1 h2 h3 (i*s+off) x.cells.toList (fun e'=>putC (f e') off ((Qq (fun _=>decide (e' ()=e ())) (U.cellsOf.map purify) (((f e').drop off).take T.size)).getD []))
  (by omega) (Zf6 (by rw[ae,J]) hp) (fun k Z=>by
   rw[X2]
   exact(h3 k (by omega)).1) (fun k Z j c I=>by
   obtain⟨row,hr⟩:=ai k Z;have aa:=(h3 k (by omega)).1;obtain⟨g1,g2,g3⟩:=X8 hr;simp only[hr,bY]at I;have ac:row.length=T.size:=by rw[<-g1];exact ae
   rw[ZaM _ _ _ _ (by rw[ac,aa];exact e5),ac]at I;by_cases hin:off<=j/\j<off+T.size
   ·rw[if_pos hin]at I;obtain⟨a1,c1,n1,n2,mx⟩:=g3 _ c I;by_cases hki:k=i
    ·subst hki;have hd:decide ((k:Int)=e ())=true:=decide_eq_true am.symm;rw[if_pos (by rw[J];omega),show k*s+j-(k*s+off)=j-off from by omega];exact mx.t hd (hp _ _ n1)
    have hd:decide ((k:Int)=e ())=false:=decide_eq_false (by omega)
    rw[if_neg (by
     rw[J];rcases fh hki with A|V
     ·have:(k+1)*s<=i*s:=aL s A;rw[bI]at this;omega
     have:(i+1)*s<=k*s:=aL s V;rw[bI]at this
     omega)]
    rw[cZ,if_pos (by omega),cY,show off+(j-off)=j from by omega]at n2;exact⟨c1,n2,fun v h=>mx.f hd h⟩
   rw[if_neg hin]at I;have bh:j<s:=by rw[<-aa];exact(aE.1 I).1
   rw[if_neg (by
    rw[J];by_cases hki:k=i
    ·subst hki;omega
    rcases fh hki with A|V
    ·have:(k+1)*s<=i*s:=aL s A;rw[bI]at this;omega
    have:(i+1)*s<=k*s:=aL s V;rw[bI]at this
    omega)]
   exact⟨c,I,fun v h=>h⟩)
 refine⟨S,?_,H',ao,ak⟩;simp only[ep,cP,aP,bC,aH,storeVar,Z0 al];rw[if_neg (by rw[<-au,<-Y,hl];simp),dG];exact ar
theorem ZiI {t:TypeId} {T:TI} (hT:ZC P t=some T) {z:Option Value} (hz:∀e s b,T.k= .slice e s b->z=(ZC P e).bind (·.zero)) (H:HR G R h) {n c v:AV} {un uc:Value} {h':List Zh} {cd:Cd} (hn:VR R n un) (au:VR R c uc)
  (hv:Ja T z n c h=some (v,h',cd)) (hc:ZT cd):∃u I,(Instr.makeSlice t un uc).run P R.w= .ok u I.w/\HR G I h'/\Xd R h I h'/\R.le I/\VR I v u:=by
 unfold Ja at hv;split at hv;case h_2=>cases hv
 rename_i el s b k x k' y z hk;split at hv;case isFalse=>cases hv
 rename_i aa;simp only[aT]at aa;obtain⟨⟨Y,Z⟩,e3⟩:=aa;have Y:=ZB Y;have Z:=QT Z;simp only[aC,aK]at hv;obtain⟨rfl,rfl,rfl⟩:=hv;obtain⟨aj,a9,az⟩:=(Cn.out (hc _ (aN.2 rfl)));obtain rfl:=hn.int_inv;obtain rfl:=au.int_inv;obtain⟨j,hu,A,hs,hb⟩:=Jo hT hk;have ar:=hz _ _ _ hk;obtain⟨TE,aw,ai⟩:=ek.1 ar.symm;obtain⟨i0,d0,ae,_,_,_,ap,_⟩:=Xu aw;have:i0=j:=by rw[A]at ae;simpa using ae.symm
 subst this;have aq:i0.zero=some z:=ap▸ai;obtain⟨l,hl⟩:=bS aj;have am:y ()=(l:Int):=by omega
 have w1:IntKind.i64.wrap (l:Int)=(l:Int):=ZbP _ (by omega);let arr:Array Value:=(fi (l*s)).map ((if l*s=0 then(#[]:Array Value)else z.cells)[· %(if l*s=0 then(#[]:Array Value)else z.cells).size]!);have ao:arr.size=l*s:=by simp[arr]
 have ac:=Jq (R:=R) z;have ah:∀i j,i<l->j<s->arr.getD (i*s+j) undef=z.cells.getD j undef:=fun i j hi A=>by
  have ak:i*s+j<l*s:=by
   have:(i+1)*s<=l*s:=aL s hi;rw[bI]at this;omega
  have U:¬l*s=0:=by omega
  simp only[arr,if_neg U,aI,bZ];rw[show(fi (l*s))[i*s+j]? =some (i*s+j)from by simp[ak],cL,Y];have Z:(i*s+j)%s=j:=by rw[dZ,eK,eB A]
  rw[Z];simp[Y,A]
 obtain⟨I,hw,hm,S,H',hx,J⟩:=H.alloc (.arr s x fun _=>(Xy z).cellsOf.map purify) (.cells arr el) (fun I=>⟨rfl,fun b hp=>hp.symm,fun b o n=>Iff.rfl⟩) (fun I J S hh=>by
  refine⟨arr,el,l,by rw[S];exact hh,hl,by rw[S,ao];simp,fun i hi=>?_⟩;have V:((Xy z).cellsOf.map purify).length=s:=by rw[bA,ac.1,Y]
  refine⟨V,fun j c A=>?_⟩;have al:j<s:=by rw[<-V];exact(aE.1 A).1
  rw[S,dA,ah i j hi al];rw[aO,aG]at A;obtain⟨c0,ab,rfl⟩:=A;rw[bL]at e3
  exact((ac.2 j c0 ab).purify (e3 _ (bE.2 ⟨c0,aZ ab,rfl⟩))).mono J.ok J.keep J.keepM)
 refine⟨.slice (some ⟨R.w.heap.size,0,none⟩) l l,I,?_,H',hx,J,?_⟩
 ·rw[hw];have t1:¬((i0.bytes:Int)*(l:Int)>2^ 48):=by
   have:(i0.bytes:Int)*(l:Int)<=1000000*1000000:=gQ (by omega) (by omega) (by omega) (by omega);omega
  have ha:∀(k:IntKind) (n:Int) (w:World),(asInt (.int k n)).run P w= .ok n w:=fun k n w=>by simp[asInt,asIntOf]
  unfold Instr.makeSlice
  simp only[aP,Zu hu,aH,ha,Xh A,hl,am,w1,aV,run_askRoom,Z0 A,hs,t1,decide_false,eN,cC,
   show¬((l:Int)<0)from by omega,show¬((l:Int)>(l:Int))from by omega,aX,if_false,zeroValue]
  by_cases U:l*s=0
  ·simp[U,newRow,arr]
  simp[U,newRow,arr,Xh A,aq]
 have:=VR.msl (R:=I) h.length s (fun _=>0) x x 0 l l (by rw[hm,H.len];omega) rfl hl hl (aJ _);rw[H.len,S]at this;rw[H.len];simpa using this
theorem ZqN {t el ty:TypeId} {at_:Array TypeId} {j:TypeInfo} (h0:at_[0]? =some t) (hu:P.underlying t=some (.slice el)) (I:P.info? el=some j) {z:Option Value} (hz:z=j.zero) (H:HR G R h) {x v:AV} {u:Value} {h':List Zh} {c:Cd} (hx:VR R x u)
  (hv:ZgS z j.size x h=some (v,h',c)) (hc:ZT c):v= .undef/\∃u' S,(Builtin.clear_ at_ ty #[u]).run P R.w= .ok u' S.w/\HR G S h'/\Xd R h S h'/\R.le S:=by
 unfold ZgS at hv;split at hv;case h_2=>cases hv
 rename_i id s o n cc z;split at hv;case isFalse=>cases hv
 rename_i ae;have ae:=ZB ae;split at hv;case h_2=>cases hv
 rename_i s' m f hi;split at hv;case isFalse=>cases hv
 rename_i ac;simp only[aT]at ac;obtain⟨⟨e1,Y⟩,e3⟩:=ac;have e1:=ZB e1;subst e1;have Y:=ZB Y;simp only[aC,aK]at hv;obtain⟨rfl,rfl,rfl⟩:=hv;obtain⟨bc,bp⟩:=(Cn.out (hc _ (aU ..)));have ak:=(Cn.out (hc _ (aQ _ (aN.2 rfl))));refine⟨rfl,?_⟩;cases hx with
 |pure _ _ hp=>cases hp
 |msl _ _ _ _ _ i len bl bk bo hn bg ba=>
 obtain⟨arr,bh,ln,h1,hm,h2,h3⟩:=H.blk id _ hi;have aj:=Jq (R:=R) z;have J:((Xy z).cellsOf.map purify).length=s:=by rw[bA,aj.1,Y]
 let Z:=(Builtin.zeroCells z.cells len).toList;have U:Z.length=len*s:=by simp[Z,Builtin.zeroCells,Y]
 have ab:∀j c,((Xy z).cellsOf.map purify)[j]? =some c->PR R.w R.ok c (z.cells.getD j undef):=fun j c I=>by
  rw[aO,aG]at I;obtain⟨c0,ah,rfl⟩:=I;rw[bL]at e3;exact(aj.2 j c0 ah).purify (e3 _ (bE.2 ⟨c0,aZ ah,rfl⟩))
 have ai:∀k j,k<len->j<s->Z.getD (k*s+j) undef=z.cells.getD j undef:=fun k j A I=>by
  have ap:k*s+j<len*s:=by
   have:(k+1)*s<=len*s:=aL s A;rw[bI]at this;omega
  have em:(k*s+j)%s=j:=by rw[dZ,eK,eB I]
  simp only[Z,Builtin.zeroCells,Y,aA,bN,bZ];rw[show(fi (len*s))[k*s+j]? =some (k*s+j)from by simp[ap],cL,em];simp[aI,Y,I]
 have am:i*s+len*s<=ln*s:=by
  rw[<-dH];exact aL s (by omega)
 have aa:∀k:Nat,(k:Int)<m ()->∃row,Qq (fun _=>decide (o ()<=(k:Int)/\(k:Int)<o ()+n ())) ((Xy z).cellsOf.map purify) (f fun _=>(k:Int))=some row:=fun k A=>dV.1 (ak k A);obtain⟨S,V,H',aq,al⟩:=H.arrPut (P:=P) hi (i*s) Z (fun e=>(Qq (fun _=>decide (o ()<=e ()/\e ()<o ()+n ())) ((Xy z).cellsOf.map purify) (f e)).getD [])
  (by rw[show(m ()).toNat=ln from by omega,U];exact am)
  (fun v hv=>by
   obtain⟨k,A,rfl⟩:=ed hv;have hs:0<s:=eg (fun e=>by rw[U,e]at A;simp at A);have az:k/s<len:=(dL hs).2 (U▸A);have:=ai (k/s) (k%s) az (eF _ hs);rw[fa,aA,aD A]at this;rw[bY]at this;rw[this]
   exact(ab (k%s) _ (aD (by rw[J];exact eF _ hs))).one)
  (fun k A=>by
   obtain⟨row,hr⟩:=aa k A;simp only[hr,bY];obtain⟨g1,_,_⟩:=X8 hr;rw[<-g1]
   exact J)
  (fun k A j c I=>by
   obtain⟨row,hr⟩:=aa k A;simp only[hr,bY]at I;obtain⟨g1,g2,g3⟩:=X8 hr;obtain⟨a1,c1,n1,n2,mx⟩:=g3 j c I;have ar:j<s:=by rw[<-J];exact(aE.1 n1).1
   by_cases hin:o ()<=(k:Int)/\(k:Int)<o ()+n ()
   ·have au:i<=k:=by omega
    have e4:(k-i)*s=k*s-i*s:=gg ..;have e5:i*s<=k*s:=aL _ au;have e6:(k-i)*s+s<=len*s:=by
     have:(k-i+1)*s<=len*s:=aL s (by omega);rwa [bI]at this
    rw[if_pos (by omega),show k*s+j-i*s=(k-i)*s+j from by omega,ai (k-i) j (by omega) ar];exact mx.t (decide_eq_true hin) (ab j _ n1)
   rw[if_neg (by
    rcases Int.lt_or_le (k:Int) (o ())with a9|bm
    ·have:(k+1)*s<=i*s:=aL s (by omega);rw[bI]at this;omega
    have:(i+len)*s<=k*s:=aL s (by omega);rw[dH]at this
    omega)]
   exact⟨c1,n2,fun v h=>mx.f (decide_eq_false hin) h⟩)
 have aw:j.zero=some z:=hz.symm;refine⟨.tuple #[],S,?_,H',aq,al⟩;unfold Builtin.clear_;simp only[h0,aP,Zu hu,aH,ef,bJ];cases len with
 |zero=>
  have ao:Z=[]:=cQ (by rw[U];simp);rw[ao]at V;simp only[storeCells,bC,Result.ok.injEq]at V;simp[bC,V.2]
 |succ len=>
  simp only[zeroValue,Xh I,aH,aw,aP,bC];have:(storeCells ⟨(R.α id).b,(R.α id).o+i*s,none⟩ (Builtin.zeroCells z.cells (len+1)).toList).run P R.w= .ok () S.w:=V;simp only[this,aH]
end
end Vm
namespace Vm
open Go
instance decRow2 (n:Int) (m:Nat->Int) (f:Nat->Nat->Bool):Decidable (∀i:Nat,(i:Int)<n->∀j:Nat,(j:Int)<m i->f i j=true):=
 decidable_of_iff ((aR n.toNat).all fun i=>(aR (m i).toNat).all fun j=>f i j) (by
  simp only[bL,bW]
  exact⟨fun h i hi j hj=>h i (by omega) j (by omega),fun h i hi j hj=>h i (by omega) j (by omega)⟩)
def ZcF (T:TI) (id s:Nat) (e k:Unit->Int) (off:Nat) (x:AV) (h:List Zh):Option (AV×List Zh×Cd):=match h[id]? with
 |some (.fam z s' n m g)=>if ZD s s'&&plain x&&ZD x.cellsOf.length T.size&&Z7 (off+T.size) s&&(x.cellsOf.map purify).all XI then
   some (.undef,h.set id (.fam z s n m fun G A=>putC (g G A) off ((Qq (fun _=>decide (G ()=e ())&&decide (A ()=k ())) (x.cellsOf.map purify) (((g G A).drop off).take T.size)).getD [])),
    [dd fun _=>0<=e ()/\e ()<n ()/\0<=k ()/\k ()<m e (),dd fun _=>∀i:Nat,(i:Int)<n ()->∀j:Nat,(j:Int)<m (fun _=>(i:Int)) ()->(Qq (fun _=>decide ((i:Int)=e ())&&decide ((j:Int)=k ())) (x.cellsOf.map purify) (((g (fun _=>(i:Int)) fun _=>(j:Int)).drop off).take T.size)).isSome=true])else none
 |_=>none
section
variable {P:Program} {R:RC} {G:Nat->Nat->Nat->Prop} {h:List Zh}
theorem Zlb {lt:Unit->Bool} {A old:List AV} {off sz:Nat} (V:(Qq lt A ((old.drop off).take sz)).isSome=true) (hv:A.length=sz) (S:off+sz<=old.length):
  (putC old off ((Qq lt A ((old.drop off).take sz)).getD [])).length=old.length/\∀j c,(putC old off ((Qq lt A ((old.drop off).take sz)).getD []))[j]? =some c->
   (off<=j/\j<off+sz/\∃I H,A[j-off]? =some I/\old[j]? =some H/\Mx lt I H c)\/(¬(off<=j/\j<off+sz)/\old[j]? =some c):=by
 obtain⟨row,hr⟩:=dV.1 V;obtain⟨g1,g2,Y⟩:=X8 hr;have J:row.length=sz:=by rw[<-g1];exact hv
 rw[hr,bY];refine⟨X2 _ _ _,fun j c G=>?_⟩;rw[ZaM _ _ _ _ (by rw[J];exact S),J]at G;by_cases hin:off<=j/\j<off+sz
 ·rw[if_pos hin]at G;obtain⟨I,H,n1,U,Z⟩:=Y _ c G;rw[cZ,if_pos (by omega),cY,show off+(j-off)=j from by omega]at U;exact .inl ⟨hin.1,hin.2,I,H,n1,U,Z⟩
 rw[if_neg hin]at G;exact .inr ⟨hin,G⟩
theorem Zkb {t:TypeId} {T:TI} (hT:ZC P t=some T) (H:HR G R h) {id s off:Nat} {e k:Unit->Int} {a x:Value} {ax v:AV} {h':List Zh} {c:Cd} (ha:VR R (.nptr id s e k off) a) (hx:VR R ax x)
  (hv:ZcF T id s e k off ax h=some (v,h',c)) (hc:ZT c):v= .undef/\∃V,(ep t a x).run P R.w= .ok () V.w/\HR G V h'/\Xd R h V h'/\R.le V:=by
 unfold ZcF at hv;split at hv;case h_2=>cases hv
 rename_i z s' n m g hi;split at hv;case isFalse=>cases hv
 rename_i aq;simp only[aT]at aq;obtain⟨⟨⟨⟨e1,e2⟩,e3⟩,e5⟩,e6⟩:=aq;have e1:=ZB e1;subst e1;have e3:=ZB e3;have e5:=QT e5;simp only[aC,aK]at hv;obtain⟨rfl,rfl,rfl⟩:=hv;obtain⟨r1,r2,r3,r4⟩:=(Cn.out (hc _ (aU ..)));have aw:=(Cn.out (hc _ (aQ _ (aN.2 rfl))));obtain⟨hl,hp⟩:=Zde hx e2 e6;obtain⟨i0,d,bp,_,bt,_,_,_⟩:=Xu hT;cases ha with
 |pure _ _ hp=>cases hp
 |nptr _ _ _ _ _ us i b o l cp j cn al he hu hk=>
 obtain⟨hz,bx,ct,ai,cg,ae,ah⟩:=H.blk id _ hi;rw[al]at ai;cases ai;have bm:e=fun _=>(i:Int):=funext fun _=>he;have cf:k=fun _=>(j:Int):=funext fun _=>hk;subst bm cf;simp only at r4 r3 r2 r1;obtain⟨len,Z,arr,ty,g1,g2,g3,g4,g5,g6⟩:∃(len Z:Nat) (arr:Array Value) (ty:TypeId),m (fun _=>(i:Int)) ()=(len:Int)/\len<=Z/\(l=len/\cp=Z)/\R.w.heap[b]? =some (.cells arr ty (0,0))/\o+Z*s<=arr.size/\
   ∀q:Nat,q<len->(g (fun _=>(i:Int)) fun _=>(q:Int)).length=s/\∀A c,(g (fun _=>(i:Int)) fun _=>(q:Int))[A]? =some c->PR R.w R.ok c (arr.getD (o+q*s+A) undef):=by
  rcases ae i _ hu with⟨ce,_⟩|⟨b',o',len,Z,arr,ty,g1,g2,g3,g4,g5,g6⟩
  ·exfalso;omega
  cases g3;exact⟨_,_,arr,ty,g1,g2,⟨rfl,rfl⟩,g4,g5,g6⟩
 obtain⟨rfl,rfl⟩:=g3;have bz:j<l:=by omega
 have cj:j*s+s<=l*s:=by
  have:(j+1)*s<=l*s:=aL s bz;rwa [bI]at this
 have ck:l*s<=cp*s:=aL s g2;have ao:(ax.cellsOf.map purify).length=T.size:=by rw[bA];exact e3
 have ar:x.cells.toList.length=T.size:=by rw[<-hl];exact e3
 let Y:=x.cells.toList;let J:=j*s+off;let U:=(arr.toList.take (o+J+0)++Y++arr.toList.drop (o+J+0+Y.length)).toArray;have aj:Y.length=T.size:=ar;have bk:=run_storeCells_at P b (o+J) ty Y 0 arr R.w g4 (by rw[aj];show o+(j*s+off)+0+T.size<=arr.size;omega) (Zf6 (by rw[ao,ar]) hp);have au:ZdY (.slice (some ⟨b,o,none⟩) l cp) b:=⟨_,_,_,rfl,by omega,rfl⟩;have am:Zz R id (.fam z s n m g) b:=⟨us,al,i,_,hu,au⟩;have az:U.size=arr.size:=by
  simp only[U,dU,bf,bX,dK,cV];show min (o+(j*s+off)+0) arr.size+Y.length+(arr.size-(o+(j*s+off)+0+Y.length))=_;omega
 let g':(Unit->Int)->(Unit->Int)->List AV:=fun e' k'=>putC (g e' k') off ((Qq (fun _=>decide (e' ()=(i:Int))&&decide (k' ()=(j:Int))) (ax.cellsOf.map purify) (((g e' k').drop off).take T.size)).getD []);obtain⟨V,w1,w2,w3,w4,H',b9,I⟩:=H.room1 (blk':=.fam z s n m g') hi rfl rfl (R.hw id) (R.hv id) (R.w.setRow b U) (fun _ _ _ h=>h) (fun _ _ _ _ h=>h) (bT _) (fun _=>rfl) (.refl _) rfl rfl rfl (by simp[World.setRow])
  (fun b' _ bl=>setRow_other R.w b b' _ (fun e=>bl (e▸am)))
  (fun V I hw bq bu bh=>by
   refine⟨by rw[bh];exact hz,bq.trans bx,us,bu.trans al,cg,fun a v ha=>?_,ah⟩;have bg:(a:Int)<n ():=by have:=(aM.1 ha).1;omega
   have ab:∀q:Nat,(q:Int)<m (fun _=>(a:Int)) ()->(g (fun _=>(a:Int)) fun _=>(q:Int)).length=s->(g' (fun _=>(a:Int)) fun _=>(q:Int)).length=s/\∀A c,(g' (fun _=>(a:Int)) fun _=>(q:Int))[A]? =some c->
     (off<=A/\A<off+T.size/\∃a1 c1,(ax.cellsOf.map purify)[A-off]? =some a1/\(g (fun _=>(a:Int)) fun _=>(q:Int))[A]? =some c1/\Mx (fun _=>decide ((a:Int)=(i:Int))&&decide ((q:Int)=(j:Int))) a1 c1 c)\/(¬(off<=A/\A<off+T.size)/\(g (fun _=>(a:Int)) fun _=>(q:Int))[A]? =some c):=fun q S ap=>by
    obtain⟨t1,t2⟩:=Zlb (aw a bg q S) ao (by rw[ap];exact e5);exact⟨t1.trans ap,t2⟩
   by_cases hai:a=i
   ·subst hai;rw[hu]at ha;cases ha;refine .inr ⟨b,o,l,cp,U,ty,g1,g2,rfl,?_,by rw[az];exact g5,fun q S=>?_⟩
    ·rw[hw];exact setRow_heap R.w _ arr _ ty _ g4
    obtain⟨f1,f2⟩:=g6 q S;obtain⟨t1,t2⟩:=ab q (by omega) f1;refine⟨t1,fun A c hj=>?_⟩;have cq:A<s:=by rw[<-t1];exact(aE.1 hj).1
    have cr:q*s+s<=l*s:=by
     have:(q+1)*s<=l*s:=aL s S;rwa [bI]at this
    have a9:U.getD (o+q*s+A) undef=if o+J+0<=o+q*s+A/\o+q*s+A<o+J+0+Y.length then Y.getD (o+q*s+A-(o+J+0)) undef else arr.getD (o+q*s+A) undef:=
     XF arr Y (o+J+0) _ (by rw[aj];show o+(j*s+off)+0+T.size<=arr.size;omega)
    rw[a9,aj];rcases t2 A c hj with⟨u1,u2,a1,c1,u3,u4,mx⟩|⟨u1,u2⟩
    ·by_cases hqj:q=j
     ·subst hqj;rw[if_pos (by show o+(q*s+off)+0<=_/\_<o+(q*s+off)+0+T.size;omega),show o+q*s+A-(o+J+0)=A-off from by show o+q*s+A-(o+(q*s+off)+0)=_;omega];exact(mx.t (by simp) (hp _ _ u3)).mono I.ok I.keep I.keepM
     rw[if_neg (by
      show¬(o+(j*s+off)+0<=_/\_<o+(j*s+off)+0+T.size);rcases fh hqj with aa|ak
      ·have:(q+1)*s<=j*s:=aL s aa;rw[bI]at this;omega
      have:(j+1)*s<=q*s:=aL s ak;rw[bI]at this
      omega)]
     exact(mx.f (by show(decide ((a:Int)=(a:Int))&&decide ((q:Int)=(j:Int)))=false;rw[decide_eq_false (by omega:¬((q:Int)=(j:Int))),Bool.and_false]) (f2 _ _ u4)).mono I.ok I.keep I.keepM
    rw[if_neg (by
     show¬(o+(j*s+off)+0<=_/\_<o+(j*s+off)+0+T.size);by_cases hqj:q=j
     ·subst hqj;omega
     rcases fh hqj with aa|ak
     ·have:(q+1)*s<=j*s:=aL s aa;rw[bI]at this;omega
     have:(j+1)*s<=q*s:=aL s ak;rw[bI]at this
     omega)]
    exact(f2 _ _ u2).mono I.ok I.keep I.keepM
   have h0:=ae a v ha;have h1:JQ (PR V.w V.ok) V.w s (m fun _=>(a:Int)) (g fun _=>(a:Int)) v:=h0.mono (fun _ _ h=>h.mono I.ok I.keep I.keepM) fun b' bo=>by
    rw[hw];exact setRow_other R.w b b' _ (fun e=>ah a i v _ b hai ha hu (e▸bo) au)
   have ac:∀q:Nat,(q:Int)<m (fun _=>(a:Int)) ()->(g (fun _=>(a:Int)) fun _=>(q:Int)).length=s:=fun q S=>by
    rcases h0 with⟨ce,_⟩|⟨_,_,ci,_,_,_,k1,_,_,_,_,k6⟩
    ·omega
    exact(k6 q (by omega)).1
   refine h1.cong rfl (fun q S=>?_) fun q S A c hj=>?_
   ·rw[(ab q S (ac q S)).1,ac q S]
   rcases(ab q S (ac q S)).2 A c hj with⟨_,_,a1,c1,_,u4,mx⟩|⟨_,u2⟩
   ·exact⟨_,u4,fun u bw=>mx.f (by show(decide ((a:Int)=(i:Int))&&decide ((q:Int)=(j:Int)))=false;rw[decide_eq_false (by omega:¬((a:Int)=(i:Int))),Bool.false_and]) bw⟩
   exact⟨_,u2,fun _ h=>h⟩)
  (fun V ba b' ca=>.inr (by
   obtain⟨bc,q1,q2⟩:=ca
   exact⟨bc,ba.symm.trans q1,q2⟩))
 refine⟨rfl,V,?_,H',b9,I⟩;simp only[ep,cP,aP,bC,aH,storeVar,Z0 bp];rw[if_neg (by rw[<-bt,<-e3,hl];simp),w1,dG];exact bk
end
end Vm
namespace Vm
open Go
section
variable {P:Program} {R:RC} {G:Nat->Nat->Nat->Prop} {h:List Zh}
theorem HR.vgar (H:HR G R h) {id s:Nat} {n0:Unit->Int} {f:(Unit->Int)->List AV} (hi:h[id]? =some (.vgar s n0 f)) (J:Unit->Int) (U:(Unit->Int)->List AV) (I:Value) (w':World)
  (S:n0 ()<=J ()) (ab:n0 ()=J ()->I=R.hv id)
  (ah:w'.os=R.w.os) (aa:w'.tape=R.w.tape) (ai:w'.output=R.w.output) (ae:R.w.heap.size<=w'.heap.size)
  (hh:∀b,b<R.w.heap.size->¬Zz R id (.vgar s n0 f) b->w'.heap[b]? =R.w.heap[b]?)
  (Z:∀A:RC,R.le A->A.w=w'->Zvy A s J U I)
  (ak:∀b,ZdY I b->R.w.heap.size<=b\/Zz R id (.vgar s n0 f) b):
  ∃A,A.w=w'/\A.hv id=I/\A.hw id=J ()/\A.m=R.m/\HR G A (h.set id (.vgar s J U))/\Xd R h A (h.set id (.vgar s J U))/\R.le A:=by
 obtain⟨V,Y⟩:=H.blk id _ hi;exact H.room1 (blk':=.vgar s J U) hi rfl rfl (J ()) I w' (fun _ _ _ h=>h) (fun _ _ _ _ h=>h) (by rw[V];exact S) (fun e=>ab (V.symm.trans e)) (.of (JQ.no Y)) ah aa ai ae hh
  (fun A S hw ac aj _=>⟨ac,by rw[aj];exact Z A S hw⟩)
  (fun A hv b ⟨a,n,c,h1,h2,h3⟩=>ak b ⟨a,n,c,hv.symm.trans h1,h2,h3⟩)
theorem ZkT {s:Nat} {n0:Unit->Int} {f:(Unit->Int)->List AV} {row:List AV} {id:Nat} {at_:Array TypeId} {t t' e e' ty:TypeId} {j:TypeInfo} {z:Value} {b0 o0:Nat} {us:Nat->Value}
  (H:HR G R h) (hi:h[id]? =some (.vgar s n0 f)) (ap:row.length=s) (bu:∀k c,row[k]? =some c->R.w.cell? ⟨b0,o0+k,none⟩=some (us k)) (aq:∀k c,row[k]? =some c->VR R c (us k)) (c8:row.all Zlw=true)
  (h0:at_[0]? =some t) (h1:at_[1]? =some t') (hu:P.underlying t=some (.slice e)) (b9:P.underlying t'=some (.slice e')) (hj:P.info? e=some j) (hz:j.zero=some z) (cu:z.cells.size=s) (c6:j.size=s) (hb:j.bytes<=1000000)
  (dg:n0 ()+1<=1000000):
  ∃u A,(Builtin.append_ at_ ty #[R.hv id,.slice (some ⟨b0,o0,none⟩) 1 1]).run P R.w= .ok u A.w/\HR G A (h.set id (.vgar s (fun _=>n0 ()+1) (ZV n0 f fun _=>row)))/\Xd R h A (h.set id (.vgar s (fun _=>n0 ()+1) (ZV n0 f fun _=>row)))/\R.le A/\VR A (.gsl id fun _=>n0 ()+1) u:=by
 have bo:id<R.m:=H.len▸(aE.1 hi).1;subst c6;obtain⟨dh,cy⟩:=H.blk id _ hi;let new:List Value:=(aR j.size).map us;have am:new.length=j.size:=by simp[new]
 have aw:∀k,k<j.size->new.getD k undef=us k:=fun k J=>by
  rw[aA];simp[new,J]
 have cr:∀k,k<j.size->R.w.cell? ⟨b0,o0+k,none⟩=some (us k):=fun k J=>bu k _ (aD (by omega));have a9:∀Z:World,Z.heap=R.w.heap->(Builtin.firstCells j.size 1 (.slice (some ⟨b0,o0,none⟩) 1 1)).run P Z= .ok new.toArray Z:=fun Z hw=>by
  have:=run_loadCells (P:=P) Z ⟨b0,o0,none⟩ (1*j.size) us (fun k J=>by
   rw[Qx];rw[<-cr k (by omega)]
   simp only[bU,hw])
  simpa [Builtin.firstCells,new]using this
 have cf:∀v∈new,v.oneCell'=true:=fun v cz=>by
  obtain⟨k,J,rfl⟩:=bE.1 cz;have J:=bW.1 J;have hg:row[k]? =some row[k]:=aD (by omega);exact ZjW ((bL.1 c8) _ (aZ hg)) (aq k _ hg)
 have al:∀ {i k c len:Nat},k<c->i<len->i*c+k<len*c:=fun {i k c len} J hi=>by
  have:(i+1)*c<=len*c:=aL _ hi;rw[bI]at this;omega
 have bl:∀(base:Option Addr) (Y vc:Nat) (old:List Value),R.hv id= .slice base Y vc->n0 ()=(Y:Int)->(base=none->vc=0)->Y<=vc->old.length=Y*j.size->(∀Z:World,Z.heap=R.w.heap->(Builtin.firstCells j.size Y (.slice base Y vc)).run P Z= .ok old.toArray Z)->
   (∀i:Nat,i<Y->(f (fun _=>(i:Int))).length=j.size/\∀k c,(f (fun _=>(i:Int)))[k]? =some c->VR R c (old.getD (i*j.size+k) undef))->¬Y+1<=vc->
   ∃u A,(Builtin.append_ at_ ty #[R.hv id,.slice (some ⟨b0,o0,none⟩) 1 1]).run P R.w= .ok u A.w/\HR G A (h.set id (.vgar j.size (fun _=>n0 ()+1) (ZV n0 f fun _=>row)))/\Xd R h A (h.set id (.vgar j.size (fun _=>n0 ()+1) (ZV n0 f fun _=>row)))/\R.le A/\VR A (.gsl id fun _=>n0 ()+1) u:=by
  intro base Y vc old hv hn di au bz cj bk bq;obtain⟨U,d,V,cg,c9,ci⟩:=Jx (P:=P) (ty:=ty) h0 h1 hu b9 hj hz hb base (some ⟨b0,o0,none⟩) Y vc 1 1 old.toArray new.toArray R.w (fun Z hw=>a9 Z hw) cj bq (by omega);have cw:(old.toArray++new.toArray++V).size=U*j.size:=by
   rw[eS,eS,c9,cu];simp only[dU,bz,am];have:Y*j.size+j.size=(Y+1)*j.size:=by rw[bI]
   rw[this,<-dH];congr 1;omega
  have bt:∀b,b<R.w.heap.size->(R.w.heap.push (.cells (old.toArray++new.toArray++V) e))[b]? =R.w.heap[b]? :=fun b hb=>by rw[bK,if_neg (by omega)]
  have bw:(R.w.heap.push (.cells (old.toArray++new.toArray++V) e))[R.w.heap.size]? =some (.cells (old.toArray++new.toArray++V) e (0,0)):=by simp
  have ah:∀k,(old.toArray++new.toArray++V).getD k undef=if k<old.length then old.getD k undef else if k<old.length+new.length then new.getD (k-old.length) undef else V.getD (k-old.length-new.length) undef:=fun k=>by
   simp only[aI,aA];by_cases h1:k<old.length
   ·rw[if_pos h1,dB,dF (by simpa using h1)];simp
   rw[if_neg h1];by_cases h2:k<old.length+new.length
   ·rw[if_pos h2,dF (by simpa using h2),dW (by simpa using fx h1)];simp
   rw[if_neg h2,dW (by simpa using fx h2)];simp[iL]
  have ar:∀A:RC,R.le A->∀i:Nat,i<Y+1->(ZV n0 f (fun _=>row) (fun _=>(i:Int))).length=j.size/\∀k c,(ZV n0 f (fun _=>row) (fun _=>(i:Int)))[k]? =some c->VR A c ((old.toArray++new.toArray++V).getD (0+i*j.size+k) undef):=fun A I i aa=>by
   by_cases hil:i<Y
   ·rw[QF hn hil];refine⟨(bk i hil).1,fun k c J=>?_⟩;have ab:k<j.size:=by rw[<-(bk i hil).1];exact(aE.1 J).1
    have:=al ab hil;rw[dA,ah,if_pos (by omega)];exact((bk i hil).2 k c J).mono I
   rw[Qz hn (by omega)];have bc:i=Y:=by omega
   subst bc;refine⟨ap,fun k c J=>?_⟩;have ab:k<j.size:=by rw[<-ap];exact(aE.1 J).1
   rw[dA,ah,if_neg (by omega),if_pos (by omega),bz,show i*j.size+k-i*j.size=k from by omega,aw k ab];exact(aq k c J).mono I
  obtain⟨A,hw,bg,ba,bh,H',hx,I⟩:=H.vgar hi (fun _=>n0 ()+1) (ZV n0 f fun _=>row) (.slice (some ⟨R.w.heap.size,0,none⟩) (Y+1) U) {R.w with drawn:=d,heap:=R.w.heap.push (.cells (old.toArray++new.toArray++V) e)}
   (by show n0 ()<=n0 ()+1;omega) (fun e=>by have e:n0 ()=n0 ()+1:=e;omega) rfl rfl rfl (by show _<=(R.w.heap.push _).size;simp) (fun b hb _=>bt b hb)
   (fun A I az=>.inr ⟨R.w.heap.size,0,Y+1,U,_,e,by show n0 ()+1=_;omega,cg,rfl,by rw[az];exact bw,by rw[cw];omega,fun i aa=>ar A I i aa⟩)
   (fun b ⟨a,k,c,he,_,bp⟩=>by cases he;exact .inl (by rw[<-bp];exact aJ _))
  exact⟨_,A,by rw[hv,ci,hw],H',hx,I,.gsl _ _ _ _ _ (by rw[bh];exact bo) (by rw[ba];exact bT _) (fun _=>bg.symm) ⟨by show n0 ()+1=_;omega,.inr ⟨_,_,rfl⟩⟩⟩
 have zero:∀a0:Option Addr,n0 ()=0->R.hv id= .slice a0 0 0->∃u A,(Builtin.append_ at_ ty #[R.hv id,.slice (some ⟨b0,o0,none⟩) 1 1]).run P R.w= .ok u A.w/\HR G A (h.set id (.vgar j.size (fun _=>n0 ()+1) (ZV n0 f fun _=>row)))/\Xd R h A (h.set id (.vgar j.size (fun _=>n0 ()+1) (ZV n0 f fun _=>row)))/\R.le A/\VR A (.gsl id fun _=>n0 ()+1) u:=by
  intro a0 ca ae
  exact bl a0 0 0 [] ae (by omega) (fun _=>rfl) (aJ _) (by simp) (fun Z _=>by
   cases a0 with
   |none=>rfl
   |some a0=>exact JV Z a0 _ 0 0) (fun i hi=>by omega) (by omega)
 rcases cy with⟨ca,a0,ae⟩|⟨b,o,len,U,arr,aj,hn,au,ae,ak,ck,ac⟩
 ·exact zero a0 ca ae
 rcases cI U with ai|ai
 ·exact zero (some ⟨b,o,none⟩) (by omega) (by rw[ae,ai,show len=0 by omega])
 have ao:Zz R id (.vgar j.size n0 f) b:=⟨_,_,_,ae,ai,rfl⟩;have da:len*j.size<=U*j.size:=aL _ au;by_cases hrm:len+1<=U
 ·have dc:(len+1)*j.size<=U*j.size:=aL _ hrm;have db:(len+1)*j.size=len*j.size+j.size:=by rw[bI]
  let S:=(arr.toList.take (o+len*j.size+0)++new++arr.toList.drop (o+len*j.size+0+new.length)).toArray;have cn:=run_storeCells_at P b (o+len*j.size) aj new 0 arr R.w ak (by rw[am];omega) cf;have bm:∀b',b'≠b->(R.w.setRow b S).heap[b']? =R.w.heap[b']? :=fun b' hb=>setRow_other R.w b b' _ hb;have bx:(R.w.setRow b S).heap[b]? =some (.cells S aj (0,0)):=setRow_heap R.w b arr _ aj _ ak;have ce:S.size=arr.size:=by
   simp only[S,dU,bf,bX,dK,cV,am];omega
  have ah:∀k,S.getD k undef=if o+len*j.size<=k/\k<o+len*j.size+new.length then new.getD (k-(o+len*j.size)) undef else arr.getD k undef:=fun k=>
   XF arr new (o+len*j.size+0) k (by rw[am];omega)
  have ar:∀A:RC,R.le A->∀i:Nat,i<len+1->(ZV n0 f (fun _=>row) (fun _=>(i:Int))).length=j.size/\∀k c,(ZV n0 f (fun _=>row) (fun _=>(i:Int)))[k]? =some c->VR A c (S.getD (o+i*j.size+k) undef):=fun A I i aa=>by
   by_cases hil:i<len
   ·rw[QF hn hil];refine⟨(ac i hil).1,fun k c J=>?_⟩;have ab:k<j.size:=by rw[<-(ac i hil).1];exact(aE.1 J).1
    have:=al ab hil;rw[ah,if_neg (by omega)];exact((ac i hil).2 k c J).mono I
   rw[Qz hn (by omega)];have bc:i=len:=by omega
   subst bc;refine⟨ap,fun k c J=>?_⟩;have ab:k<j.size:=by rw[<-ap];exact(aE.1 J).1
   rw[ah,if_pos (by omega),show o+i*j.size+k-(o+i*j.size)=k from by omega,aw k ab];exact(aq k c J).mono I
  obtain⟨A,hw,bg,ba,bh,H',hx,I⟩:=H.vgar hi (fun _=>n0 ()+1) (ZV n0 f fun _=>row) (.slice (some ⟨b,o,none⟩) (len+1) U) (R.w.setRow b S)
   (by show n0 ()<=n0 ()+1;omega) (fun e=>by have e:n0 ()=n0 ()+1:=e;omega) rfl rfl rfl (by simp[World.setRow]) (fun b' _ cq=>bm b' (fun e=>cq (e▸ao)))
   (fun A I az=>.inr ⟨b,o,len+1,U,S,aj,by show n0 ()+1=_;omega,hrm,rfl,by rw[az];exact bx,by rw[ce];exact ck,fun i aa=>ar A I i aa⟩)
   (fun b' ⟨a,k,c,he,_,bp⟩=>by cases he;exact .inr (bp▸ao))
  refine⟨_,A,?_,H',hx,I,.gsl _ _ _ _ _ (by rw[bh];exact bo) (by rw[ba];exact bT _) (fun _=>bg.symm) ⟨by show n0 ()+1=_;omega,.inr ⟨_,_,rfl⟩⟩⟩;rw[ae,hw]
  exact Qg h0 h1 hu b9 hj _ (some ⟨b0,o0,none⟩) len U 1 1 new.toArray R.w _ (a9 _ rfl) hrm (fun a ha=>by
   cases ha;rw[Qx]
   exact cn) (fun h=>by cases h)
 have ct:∀k,k<len*j.size->o+k<arr.size:=fun k J=>by omega
 refine bl (some ⟨b,o,none⟩) len U ((aR (len*j.size)).map fun k=>arr.getD (o+k) undef) ae hn (fun h=>by cases h) au (by simp) (fun Z hw=>?_) (fun i aa=>⟨(ac i aa).1,fun k c J=>?_⟩) hrm
 ·have:=run_loadCells (P:=P) Z ⟨b,o,none⟩ (len*j.size) (fun k=>arr.getD (o+k) undef) (fun k J=>by
   rw[Qx];have:Z.heap[b]? =some (.cells arr aj (0,0)):=by rw[hw];exact ak
   exact ZY this (ct k J))
  simpa [Builtin.firstCells]using this
 have ab:k<j.size:=by rw[<-(ac i aa).1];exact(aE.1 J).1
 have:=al ab aa;rw[aA,aO,cK (by omega)];show VR R c (arr.getD (o+(i*j.size+k)) undef);rw[<-dG];exact(ac i aa).2 k c J
theorem Zgw:∀ {l:List AV} {j k:Nat} {n:Unit->Int},ZiO l=some (j,k,n)->l[j]? =some (.gsl k n)
 |[],j,k,n,h=>by cases h
 |a::r,j,k,n,h=>by
  unfold ZiO at h;split at h
  ·rename_i e;cases e
  ·rename_i e;cases e;simp only[aC,aK]at h;obtain⟨rfl,rfl,rfl⟩:=h;rfl
  rename_i e;cases e;split at h
  ·rename_i A;simp only[aC,aK]at h;obtain⟨rfl,rfl,rfl⟩:=h;simpa using Zgw A
  cases h
theorem ZjG {a:AV} (h:XI a=true):Zlw a=true:=by cases a<;>first|rfl|cases h
theorem Zi8 (H:HR G R h) {t t' e e' ty:TypeId} {at_:Array TypeId} {q s:Nat} {n:Unit->Int} {cs:List AV} {v:AV} {h':List Zh} {c:Cd} {u x:Value} (hd:VR R (.gsl q n) u) (hs:VR R (.lit s cs) x) (h0:at_[0]? =some t) (h1:at_[1]? =some t')
  (hu:P.underlying t=some (.slice e)) (aq:P.underlying t'=some (.slice e')) (hv:Za3 (Zap P e s) q n s cs h=some (v,h',c)) (hc:ZT c):∃r U,(Builtin.append_ at_ ty #[u,x]).run P R.w= .ok r U.w/\HR G U h'/\Xd R h U h'/\R.le U/\VR U v r:=by
 unfold Za3 at hv;split at hv;case isFalse=>cases hv
 rename_i bk;obtain⟨j,z,hj,hz,al,az,bg⟩:=YH bk;split at hv;case h_2=>cases hv
 rename_i s' n0 f zf sf N m g jj k nk Y ac ak;split at hv;case h_2=>cases hv
 rename_i sk V f1 hk;split at hv;case isFalse=>cases hv
 rename_i ah;simp only[aT]at ah;obtain⟨⟨⟨⟨e1,e2⟩,e3⟩,e4⟩,e5⟩:=ah;have e1:=ZB e1;have e2:=ZB e2;have e3:=QT e3;have e4:=ZB e4;subst e1 e2;simp only[aC,aK]at hv;obtain⟨rfl,rfl,rfl⟩:=hv;obtain⟨c1,c2,c3⟩:=(Cn.out (hc _ (aU ..)));have c4:=(Cn.out (hc _ (aQ _ (aN.2 rfl))));obtain⟨ai,w1,m1,aw,H1,x1,l1,aa,i,bc,ba,bq⟩:=H.adopt ac hk e3;have bo:q<R.m:=H.len▸(aE.1 Y).1;have bl:q≠k:=fun e=>by rw[e,hk]at Y;cases Y
 have ao:q≠q+1:=by omega
 have bh:((h.set k .dead).set (q+1) (.fam zf sf (fun _=>N ()+1) (Zby N m V) (Y1 N g f1)))[q]? =some (.vgar s n0 f):=by
  rw[bP,if_neg (by omega),bP,if_neg (Ne.symm bl)];exact Y
 have a9:u=R.hv q:=by
  cases hd with
  |pure _ _ Z=>cases Z
  |gsl _ _ a l A ap hn he _=>exact he (by rw[(H.blk q _ Y).1,c1])
 have bm:ai.hv q=R.hv q:=(aw q ao).1;cases hs with
 |pure _ _ Z=>cases Z
 |lit _ _ b0 o0 us bp g1 g2 g3=>
 have ae:=Zgw ak;have ab:=g2 _ _ ae;have aj:(cs.set jj (.nsub (q+1) n0 V)).length=s:=by rw[cA];exact e4
 have J:∀(I:Nat) (A:AV),(cs.set jj (.nsub (q+1) n0 V))[I]? =some A->(I=jj/\A= .nsub (q+1) n0 V)\/(I≠jj/\cs[I]? =some A/\XI A=true):=fun I A h'=>by
  rw[bP]at h';split at h'
  ·rename_i e;split at h'
   ·simp only[aC]at h';exact .inl ⟨e.symm,h'.symm⟩
   cases h'
  rename_i e;refine .inr ⟨fun h=>e h.symm,h',?_⟩;exact bL.1 e5 A (aZ (i:=I) (by rw[bP,if_neg e];exact h'))
 obtain⟨r,U,q1,q2,q3,q4,q5⟩:=ZkT (P:=P) (at_:=at_) (ty:=ty) (row:=cs.set jj (.nsub (q+1) n0 V)) (b0:=b0) (o0:=o0) (us:=us) H1 bh aj (fun I A S=>by
   rw[w1];rcases J I A S with⟨rfl,rfl⟩|⟨_,h2,_⟩
   ·exact g1 _ _ ae
   ·exact g1 _ _ h2) (fun I A S=>by
   rcases J I A S with⟨rfl,rfl⟩|⟨_,h2,_⟩
   ·
    generalize bt:us I=ux at ab;cases ab with
    |pure _ _ Z=>cases Z
    |gsl _ _ a l cc ap hn he au=>
     have ar: .slice a l cc=R.hv k:=he (by rw[(H.blk k _ hk).1,c3]);refine .nsub (q+1) n0 V a l cc aa i ?_ bc (by omega) (by rw[ba,ar]) ⟨by omega,au.2⟩;have:=(aE.1 ac).1;rw[m1,<-H.len];exact this
   ·exact(g2 _ _ h2).mono l1) (bL.2 fun A am=>by
   obtain⟨I,S⟩:=fp.1 am;rcases J I A S with⟨_,rfl⟩|⟨_,_,h3⟩
   ·rfl
   exact ZjG h3) h0 h1 hu aq hj hz al az bg c4
 refine⟨r,U,?_,q2,x1.trans q3,l1.trans q4,q5⟩;rw[a9,<-bm,<-w1];exact q1
end
end Vm
namespace Vm
open Go
def ZaT (T:TI) (z:Option Value) (n c:AV) (h:List Zh):Option (AV×List Zh×Cd):=match T.k,n,c,z with
 |.slice _ s b,.int _ x,.int _ y,some z=>if ZD z.cells.size s&&Z7 b 1000000&&((Xy z).cellsOf.map purify).all XI then
   some (.gsl h.length x,h++[.gar s x fun _=>(Xy z).cellsOf.map purify],[dd fun _=>0<=x ()/\x ()=y ()/\x ()<=1000000])else none
 |_,_,_,_=>none
section
variable {P:Program} {R:RC} {G:Nat->Nat->Nat->Prop} {h:List Zh}
theorem HR.garFresh (H:HR G R h) (s:Nat) (x:Unit->Int) (f:(Unit->Int)->List AV) (l:Nat) (hl:x ()=(l:Int)) (arr:Array Value) (Y:TypeId) (ae:arr.size=l*s)
  (I:∀A:RC,R.le A->∀i:Nat,i<l->(f (fun _=>(i:Int))).length=s/\∀j c,(f (fun _=>(i:Int)))[j]? =some c->PR A.w A.ok c (arr.getD (i*s+j) undef)):
  ∃A,A.w={R.w with heap:=R.w.heap.push (.cells arr Y)}/\HR G A (h++[.gar s x f])/\Xd R h A (h++[.gar s x f])/\R.le A/\A.m=R.m+1/\A.hw R.m=x ()/\A.hv R.m= .slice (some ⟨R.w.heap.size,0,none⟩) l l:=by
 have aa:∀i y,(h++[Zh.gar s x f])[i]? =some y->(i=R.m/\y= .gar s x f)\/(i≠R.m/\h[i]? =some y):=fun i y S=>by
  rcases Qr S with S|⟨rfl,rfl⟩
  ·exact .inr ⟨fun e=>by have:=(aE.1 S).1;rw[H.len]at this;omega,S⟩
  exact .inl ⟨H.len,rfl⟩
 obtain⟨A,a1,a2,a3,a4,a5,a6,a7,_⟩:=H.room R.m (R.m+1) (.gar s x f) (x ()) (.slice (some ⟨R.w.heap.size,0,none⟩) l l) {R.w with heap:=R.w.heap.push (.cells arr Y)} (h++[.gar s x f]) (by rw[bf,H.len];rfl) (eG _) aa (fun U=>absurd U (dI _)) (fun _=>False)
  (fun b=>⟨fun h=>h.elim,fun h=>absurd h.1 (dI _)⟩) rfl rfl rfl (by simp) (fun b hb _=>by show(R.w.heap.push _)[b]? =_;rw[bK,if_neg (by omega)])
  (fun b o n Z j _=>by
   have hb:=((H.okd _ _ _).1 Z).1;simp only[bU]
   rw[bK,if_neg (by omega)])
  (fun A V hw ab ac _=>⟨ab,.inr ⟨R.w.heap.size,0,l,l,arr,Y,hl,aJ _,ac,by rw[hw];simp,by omega,fun i U=>⟨(I A V i U).1,fun j c hj=>by rw[dA];exact(I A V i U).2 j c hj⟩⟩⟩)
  (fun A hv _ b ⟨a,n,c,J,_,h2⟩=>.inl (by rw[hv]at J;cases J;rw[<-h2];exact aJ _))
  (fun A hv b o n Z ⟨a,n',c,J,_,h2⟩=>by
   have hb:=((H.okd _ _ _).1 Z).1;rw[hv]at J;cases J;simp only at h2
   omega) rfl
 exact⟨A,a1,a5,a6,a7,a2,a4,a3⟩
theorem Zlq {t:TypeId} {T:TI} (hT:ZC P t=some T) {z:Option Value} (hz:∀e s b,T.k= .slice e s b->z=(ZC P e).bind (·.zero)) (H:HR G R h) {n c v:AV} {un uc:Value} {h':List Zh} {cd:Cd} (hn:VR R n un) (aw:VR R c uc)
  (hv:ZaT T z n c h=some (v,h',cd)) (hc:ZT cd):∃u J,(Instr.makeSlice t un uc).run P R.w= .ok u J.w/\HR G J h'/\Xd R h J h'/\R.le J/\VR J v u:=by
 unfold ZaT at hv;split at hv;case h_2=>cases hv
 rename_i el s b k x k' y z hk;split at hv;case isFalse=>cases hv
 rename_i aa;simp only[aT]at aa;obtain⟨⟨V,Y⟩,e3⟩:=aa;have V:=ZB V;have Y:=QT Y;simp only[aC,aK]at hv;obtain⟨rfl,rfl,rfl⟩:=hv;obtain⟨ak,bc,ba⟩:=(Cn.out (hc _ (aN.2 rfl)));obtain rfl:=hn.int_inv;obtain rfl:=aw.int_inv;obtain⟨j,hu,A,hs,hb⟩:=Jo hT hk;have au:=hz _ _ _ hk;obtain⟨TE,az,aj⟩:=ek.1 au.symm;obtain⟨Z,d0,ae,_,_,_,aq,_⟩:=Xu az;have:Z=j:=by rw[A]at ae;simpa using ae.symm
 subst this;have ar:Z.zero=some z:=aq▸aj;obtain⟨l,hl⟩:=bS ak;have ao:y ()=(l:Int):=by omega
 have w1:IntKind.i64.wrap (l:Int)=(l:Int):=ZbP _ (by omega);let arr:Array Value:=(fi (l*s)).map ((if l*s=0 then(#[]:Array Value)else z.cells)[· %(if l*s=0 then(#[]:Array Value)else z.cells).size]!);have ap:arr.size=l*s:=by simp[arr]
 have ac:=Jq (R:=R) z;have ah:∀i j,i<l->j<s->arr.getD (i*s+j) undef=z.cells.getD j undef:=fun i j hi A=>by
  have al:i*s+j<l*s:=by
   have:(i+1)*s<=l*s:=aL s hi;rw[bI]at this;omega
  have S:¬l*s=0:=by omega
  simp only[arr,if_neg S,aI,bZ];rw[show(fi (l*s))[i*s+j]? =some (i*s+j)from by simp[al],cL,V];have Y:(i*s+j)%s=j:=by rw[dZ,eK,eB A]
  rw[Y];simp[V,A]
 obtain⟨J,hw,H',hx,I,hm,ai,a9⟩:=H.garFresh s x (fun _=>(Xy z).cellsOf.map purify) l hl arr el ap (fun J I i hi=>by
  have U:((Xy z).cellsOf.map purify).length=s:=by rw[bA,ac.1,V]
  refine⟨U,fun j c A=>?_⟩;have am:j<s:=by rw[<-U];exact(aE.1 A).1
  rw[ah i j hi am];rw[aO,aG]at A;obtain⟨c0,ab,rfl⟩:=A;rw[bL]at e3
  exact((ac.2 j c0 ab).purify (e3 _ (bE.2 ⟨c0,aZ ab,rfl⟩))).mono I.ok I.keep I.keepM)
 refine⟨.slice (some ⟨R.w.heap.size,0,none⟩) l l,J,?_,H',hx,I,?_⟩
 ·rw[hw];have t1:¬((Z.bytes:Int)*(l:Int)>2^ 48):=by
   have:(Z.bytes:Int)*(l:Int)<=1000000*1000000:=gQ (by omega) (by omega) (by omega) (by omega);omega
  have ha:∀(k:IntKind) (n:Int) (w:World),(asInt (.int k n)).run P w= .ok n w:=fun k n w=>by simp[asInt,asIntOf]
  unfold Instr.makeSlice
  simp only[aP,Zu hu,aH,ha,Xh A,hl,ao,w1,aV,run_askRoom,Z0 A,hs,t1,decide_false,eN,cC,
   show¬((l:Int)<0)from by omega,show¬((l:Int)>(l:Int))from by omega,aX,if_false,zeroValue]
  by_cases S:l*s=0
  ·simp[S,newRow,arr]
  simp[S,newRow,arr,Xh A,ar]
 rw[H.len];exact .gsl R.m x _ l l (by rw[hm];omega) (by rw[ai];exact bT _) (fun _=>a9.symm) ⟨hl,.inr ⟨_,_,rfl⟩⟩
end
end Vm
namespace Vm
open Go
def ZdA (s:Nat) (m:Unit->Int) (f:(Unit->Int)->List AV):Nat->Nat->List AV->Option (List AV)
 |_,0,_=>some []
 |i,k+1,old=>(match Qq (fun _=>decide ((i:Int)<m ())) (f fun _=>(i:Int)) (old.take s),ZdA s m f (i+1) k (old.drop s)with
  |some a,some b=>some (a++b)
  |_,_=>none)
def ZmM (s0:Nat) (dst A:AV) (h:List Zh):Option (AV×List Zh×Cd):=match dst,A with
 |.msl id s lo n _,.isl s' m f _=>if ZD s s0&&ZD s s' then(match Jm h id with
  |some cs=>if Z7 ((lo ()).toNat*s+(n ()).toNat*s) cs.length then(match ZdA s m f 0 (n ()).toNat ((cs.drop ((lo ()).toNat*s)).take ((n ()).toNat*s))with
   |some l=>some (.int .i64 fun _=>min (n ()) (m ()),h.set id (.cells (putC cs ((lo ()).toNat*s) l)),[])
   |none=>none)else none
  |none=>none)else none
 |_,_=>none
section
variable {P:Program} {R:RC} {G:Nat->Nat->Nat->Prop} {h:List Zh}
theorem Ze1 {s:Nat} {m:Unit->Int} {f:(Unit->Int)->List AV}:∀ {k i:Nat} {old l:List AV},ZdA s m f i k old=some l->old.length=k*s->l.length=k*s/\
  ∀(r j:Nat) (x:AV),r<k->j<s->l[r*s+j]? =some x->∃a c,(f fun _=>((i+r:Nat):Int))[j]? =some a/\old[r*s+j]? =some c/\Mx (fun _=>decide (((i+r:Nat):Int)<m ())) a c x
 |0,_,_,l,h,_=>by
  simp only[ZdA,aC]at h;subst h;exact⟨by simp,fun r j x hr=>by omega⟩
 |k+1,i,old,l,h,ho=>by
  simp only[ZdA]at h;split at h;case h_2=>cases h
  rename_i a b ha U;simp only[aC]at h;subst h;rw[bI]at ho;obtain⟨h1,Y,V⟩:=X8 ha;obtain⟨h4,Z⟩:=Ze1 U (by rw[dK];omega);have J:a.length=s:=by rw[<-Y,bX];omega
  refine⟨by rw[bf,J,h4,bI];omega,fun r j x hr S A=>?_⟩;cases r with
  |zero=>
   rw[ey,dA]at A|-;rw[bO (by omega)]at A;obtain⟨p,q,H,G,I⟩:=V j x A;rw[cZ,if_pos S]at G;exact⟨p,q,H,G,I⟩
  |succ r=>
   rw[bI]at A|-;rw[dE (by omega),J,show r*s+s+j-s=r*s+j from by omega]at A;obtain⟨p,q,H,G,I⟩:=Z r j x (by omega) S A;rw[cY]at G;rw[show i+1+r=i+(r+1)from by omega]at H I;exact⟨p,q,H,by rw[show r*s+s+j=s+(r*s+j)from by omega];exact G,I⟩
theorem ZsX {t el ty:TypeId} {at_:Array TypeId} {j:TypeInfo} (h0:at_[0]? =some t) (hu:P.underlying t=some (.slice el)) (hj:P.info? el=some j) (H:HR G R h) {dst aq v:AV} {ud ah:Value} {h':List Zh} {c:Cd} (hd:VR R dst ud) (I:VR R aq ah)
  (hv:ZmM j.size dst aq h=some (v,h',c)):∃u' U,(Builtin.copy_ at_ ty #[ud,ah]).run P R.w= .ok u' U.w/\HR G U h'/\Xd R h U h'/\R.le U/\VR U v u':=by
 unfold ZmM at hv;split at hv;case h_2=>cases hv
 rename_i id s lo n cc s' m f tk;split at hv;case isFalse=>cases hv
 rename_i ai;simp only[aT]at ai;have e1:=ZB ai.1;have e2:=ZB ai.2;subst e2;split at hv;case h_2=>cases hv
 rename_i cs ao;split at hv;case isFalse=>cases hv
 rename_i ac;have ac:=QT ac;split at hv;case h_2=>cases hv
 rename_i l hl;simp only[aC,aK]at hv;obtain⟨rfl,rfl,rfl⟩:=hv;cases hd with
 |pure _ _ hp=>cases hp
 |msl _ _ _ _ _ i len au bx b9 hn bt bq=>
 have aa:(lo ()).toNat=i:=by omega
 have al:(n ()).toNat=len:=by omega
 rw[aa,al]at ac;rw[aa,al]at hl;rw[aa];obtain⟨bg,bo⟩:=Ze1 hl (by rw[bX,dK];omega);obtain⟨arr,ae,h1,h2,h3⟩:=H.blk id _ (Jg ao);have hp:=I.isl_inv;obtain⟨nn,V,xa,xc,rfl,hm,ak,am⟩:∃(nn:Nat) (V:Nat->Nat->Value) (xa:Option Addr) (xc:Nat),ah= .slice xa nn xc/\m ()=(nn:Int)/\
   (∀k,k<=nn->(Builtin.firstCells s k (.slice xa nn xc)).run P R.w= .ok ((aR (k*s)).map fun q=>V (q/s) (q%s)).toArray R.w)/\
   (∀i j c,i<nn->(f (fun _=>(i:Int)))[j]? =some c->PR R.w R.ok c (V i j)):=by
  cases hp with
  |isl0 _ _ _ _ hz _=>
   exact⟨0,fun _ _=>undef,none,0,rfl,by omega,fun k hk=>by
    have:k=0:=by omega
    subst this
    simp[Builtin.firstCells],fun i j c hi=>by omega⟩
  |islE _ _ _ _ a hz _=>
   exact⟨0,fun _ _=>undef,some a,0,rfl,by omega,fun k hk=>by
    have:k=0:=by omega
    subst this;rw[ey]
    exact JV R.w a s 0 0,fun i j c hi=>by omega⟩
  |isl _ _ _ _ b o ln au V hn hc ht he hl h1 h2 h3=>
   refine⟨ln,V,some ⟨b,o,none⟩,au,rfl,hn,fun k hk=>?_,h2⟩
   have:=run_loadCells (P:=P) R.w ⟨b,o,none⟩ (k*s) (fun q=>V (q/s) (q%s)) (fun q A=>by
    have I:0<s:=eg (fun e=>by subst e;simp at A);have h4:q/s<k:=(dL I).2 A;have h5:=eF q I;have h6:=fa q s;rw[Qx];have:=h1 (q/s) (q%s) _ (by omega) (aD (by rw[hl _ (by omega)];exact h5));rw[show o+q/s*s+q%s=o+q from by omega]at this
    exact this)
   simpa [Builtin.firstCells]using this
 let k:=gR nn len;have bh:k<=nn:=iw _ _;have bl:k<=len:=Nat.min_le_right _ _;let S:=(aR (k*s)).map fun q=>V (q/s) (q%s);have bz:S.length=k*s:=by simp[S]
 have bu:k*s<=len*s:=aL s bl;have aj:∀r jj,r<len->jj<s->∃a c x,(f fun _=>(r:Int))[jj]? =some a/\((cs.drop (i*s)).take (len*s))[r*s+jj]? =some c/\l[r*s+jj]? =some x/\Mx (fun _=>decide ((r:Int)<m ())) a c x:=fun r jj hr bc=>by
  have bp:r*s+jj<len*s:=by
   have:(r+1)*s<=len*s:=aL s hr;rw[bI]at this;omega
  obtain⟨a,c,g1,g2,Z⟩:=bo r jj _ hr bc (aD (by omega));rw[dA]at g1 Z;exact⟨a,c,_,g1,g2,aD (by omega),Z⟩
 have aw:∀v∈S,v.oneCell'=true:=fun v hv=>by
  obtain⟨q,A,rfl⟩:=bE.1 hv;rw[bW]at A;have I:0<s:=eg (fun e=>by rw[e]at A;simp at A);have h4:q/s<k:=(dL I).2 A;obtain⟨a,c,_,g1,_,_⟩:=aj (q/s) (q%s) (by omega) (eF q I);exact(am _ _ _ (by omega) g1).one
 have a9:=run_storeCells_at P (R.α id).b ((R.α id).o+i*s) ae S 0 arr R.w h1 (by omega) aw;let Y:=(arr.toList.take ((R.α id).o+i*s+0)++S++arr.toList.drop ((R.α id).o+i*s+0+S.length)).toArray
 obtain⟨U,hw,bw,ab,H',hx,J⟩:=H.upd (Jg ao) rfl (blk':=.cells (putC cs (i*s) l)) rfl (R.w.setRow (R.α id).b Y) rfl rfl rfl (by simp[World.setRow]) (fun b hb=>setRow_other R.w (R.α id).b b _ hb) (fun U J ab hw=>by
  refine⟨Y,ae,by rw[hw,ab];exact setRow_heap R.w _ arr _ ae _ h1,?_,fun q c A=>?_⟩
  ·rw[X2,ab];simp only[Y,dU,bf,bX,dK,cV];omega
  rw[ab,XF arr S ((R.α id).o+i*s+0) _ (by omega)];rw[ZaM l cs (i*s) q (by omega)]at A;by_cases hin:i*s<=q/\q<i*s+l.length
  ·rw[if_pos hin]at A;have I:0<s:=eg (fun e=>by rw[e,Nat.mul_zero]at bg;omega);have ap:q-i*s<len*s:=by omega
   have h4:(q-i*s)/s<len:=(dL I).2 ap;have h5:=eF (q-i*s) I;have h6:=fa (q-i*s) s;obtain⟨a,c0,x0,g1,g2,Z,mx⟩:=aj _ _ h4 h5;rw[h6]at g2 Z;rw[A]at Z;simp only[aC]at Z;subst Z;by_cases hr:(q-i*s)/s<nn
   ·have ar:q-i*s<k*s:=by
     rw[<-dL I];show _<gR nn len;exact Nat.lt_min.2 ⟨hr,h4⟩
    rw[if_pos (by omega),show(R.α id).o+q-((R.α id).o+i*s+0)=q-i*s from by omega];have bm:S.getD (q-i*s) undef=V ((q-i*s)/s) ((q-i*s)%s):=by
     simp only[S,aA,aO];rw[cK ar];rfl
    rw[bm];exact(mx.vt (decide_eq_true (show((((q-i*s)/s:Nat):Int)<m ()) by omega)) (VR.pure _ _ (am _ _ _ hr g1):VR R _ _)).mono J
   have ar:¬q-i*s<k*s:=by
    rw[<-dL I];show¬_<gR nn len;intro h;exact hr (Nat.lt_of_lt_of_le h (iw _ _))
   rw[if_neg (by omega)];have bk:cs[q]? =some c0:=by
    rw[cZ,if_pos ap,cY,show i*s+(q-i*s)=q from by omega]at g2;exact g2
   exact(mx.vf (decide_eq_false (show¬((((q-i*s)/s:Nat):Int)<m ()) by omega)) (h3 q _ bk)).mono J
  rw[if_neg hin]at A;rw[if_neg (by omega)]
  exact(h3 q c A).mono J)
 refine⟨.int .i64 (k:Int),U,?_,H',hx,J,VR.mkInt (by show min (n ()) (m ())=((gR nn len:Nat):Int);rw[hn,hm,show gR nn len=min nn len from rfl];omega)⟩;unfold Builtin.copy_;have az:(storeCells ⟨(R.α id).b,(R.α id).o+i*s,none⟩ S).run P R.w= .ok () U.w:=by rw[a9,hw]
 have ba:=ak k bh;simp only[h0,aP,Zu hu,aH,ef,bJ,cN,Builtin.lenOf,bC,Z0 hj,<-e1];rw[show gR nn len=k from rfl,ba];simp only[aH];rw[az];rfl
end
end Vm
namespace Vm
open Go
def ZcC (E:Operand->AV) (s:Nat):Nat->List (Nat×Operand)->Option (List (List AV))
 |_,[]=>some []
 |k,(i,x)::r=>if ZD i k&&plain (E x)&&ZD (E x).cellsOf.length s&&((E x).cellsOf.map purify).all XI then(ZcC E s (k+1) r).map (((E x).cellsOf.map purify)::·)else none
def Zuj:AV->Bool
 |.gsl _ _=>true
 |c=>XI c
def ZiN (E:Operand->AV) (s:Nat):List (Nat×Operand)->Option AV
 |[(i,x)]=>if ZD i 0&&plain (E x)&&ZD (E x).cellsOf.length s&&((E x).cellsOf.map purify).all Zuj then some (.lit s ((E x).cellsOf.map purify))else none
 |_=>none
def ZgB (s:Nat) (A:List (List AV)):AV:=.isl s (fun _=>(A.length:Int)) (fun e=>A.getD (e ()).toNat (A.headD [])) .exact
def Ya (P:Program) (E:Operand->AV) (t:TypeId) (n:Nat) (ps:List (Nat×Operand)):Option AV:=
 match ZC P t with
 |some T=>(match T.k with
  |.slice e s _=>if Zap P e s&&ZD ps.length n&&Z7 (n*s) 16777216 then(match ZcC E s 0 ps with
   |some A=>some (ZgB s A)
   |none=>ZiN E s ps)else none
  |_=>none)
 |none=>none
def ZjY (A:TyF) (G:TypeId):Option Nat:=zN ((A.ti G).bind (·.zero))
def ZaS (A:TyF) (t:TypeId):Option Zh:=match A.un t with
 |some (.map kt et)=>(match(A.ti et).bind (·.zero)with
  |some (.bool _)=>some (.mapB fun _ _=>false)
  |some (.map none)=>(match A.un et with
   |some (.map kt2 et2)=>(match ZjY A kt,ZjY A kt2,zN ((A.ti et2).bind (·.zero))with
    |some ka,some kb,some n=>some (.gob (.mapM ka kb n fun _=>[]))
    |_,_,_=>none)
   |_=>none)
  |z=>(match ZjY A kt,zN z with
   |some ka,some n=>some (.gob (.mapL ka n fun _=>[]))
   |_,_=>none))
 |_=>none
def Jp {α:Type} (L:List (List Int×α)) (k:List Int) (d:α):List (List Int×α):=if L.any (fun p=>p.1==k)then L.map (fun p=>if p.1==k then(k,d)else p)else L++[(k,d)]
def Zuz (n:Nat):AV->Option (Unit->List Int)
 |.int .i64 a=>if ZD n 0 then some fun _=>[a ()]else none
 |.agg cs=>if ZD n cs.length&&ltN 0 cs.length then Zem cs else none
 |_=>none
def XJ (A:TyF) (t:TypeId) (m k x:AV) (h:List Zh):Option (AV×List Zh×Cd):=match A.un t,m with
 |some (.map kt et),.map id=>(match h[id]? with
  |some (.mapB f)=>(match k,x,A.un kt with
   |.int .i64 n,.bool b,some (.int .i64)=>some (.undef,h.set id (.mapB fun e u=>if e ()=n ()then b u else f e u),[])
   |_,_,_=>none)
  |some (.gob (.mapL ka n L))=>(match Zhk A kt ka k,Zuz n x with
   |some g,some d=>some (.undef,h.set id (.gob (.mapL ka n fun _=>Jp (L ()) (g ()) (d ()))),[])
   |_,_=>none)
  |some (.gob (.mapM ka kb n L))=>(match Zhk A kt ka k,x with
   |some g,.imap kb' n' L2=>if ZD kb kb'&&ZD n n' then some (.undef,h.set id (.gob (.mapM ka kb n fun _=>Jp (L ()) (g ()) (L2 ()))),[])else none
   |_,_=>none)
  |_=>none)
 |_,_=>none
def evE (gr:Bool) (P:Program) (E:Operand->AV) (h:List Zh):Op->Option (AV×List Zh×Cd)
 |.alloc t=>(match ZC P t with
  |some T=>(match T.zero with
   |some z=>some (.ptr h.length 0,h++[.cells (Xy z).cellsOf],[])
   |none=>none)
  |none=>none)
 |.box _ x=>if plain (E x)then some (.ptr h.length 0,h++[.cells (E x).cellsOf],[])else none
 |.store t a x=>(match E a,ZC P t with
  |.ptr id off,some T=>(match Jm h id with
   |some cs=>if plain (E x)&&ZD (E x).cellsOf.length T.size&&Z7 (off+T.size) cs.length&&(E x).cellsOf.all Zlw then some (.undef,h.set id (.cells (putC cs off (E x).cellsOf)),[])else none
   |none=>none)
  |.aptr id s e off,some T=>ZcJ T id s e off (E x) h
  |.gptr id s n e off,some T=>ZcE T id s n e off (E x) h
  |.nptr id s e k off,some T=>ZcF T id s e k off (E x) h
  |_,_=>none)
 |.makeSlice t n c=>(match ZC P t with
  |some T=>(if gr then ZaT else Ja) T (match T.k with
   |.slice e _ _=>(ZC P e).bind (·.zero)
   |_=>none) (E n) (E c) h
  |none=>none)
 |.buildSlice t n ps=>(Ya P E t n ps.toList).map fun v=>(v,h,[])
 |.makeMap t none=>(match ZaS (tyP P) t with
  |some b=>some (.map h.length,h++[b],[])
  |none=>none)
 |.mapUpdate t m k x=>XJ (tyP P) t (E m) (E k) (E x) h
 |.range t x=>(match E x,P.underlying t with
  |.imap ka n L,some (.map _ _)=>some (.mit h.length,h++[.gob (.mapIt ka n L (fun _=>[]) fun _=>([],[]))],[])
  |_,_=>none)
 |.call {callee:=.builtin .append,args,argTypes}=>(match args.toList,argTypes.toList with
  |[x,y],[t,t']=>ZdS gr P t t' (E x) (E y) h
  |_,_=>none)
 |.call {callee:=.builtin .copy,args,argTypes}=>(match args.toList,argTypes.toList with
  |[x,y],t::_=>(match P.underlying t with
   |some (.slice e)=>(match ZC P e with
    |some J=>ZmM J.size (E x) (E y) h
    |none=>none)
   |_=>none)
  |_,_=>none)
 |.call {callee:=.builtin .clear,args,argTypes}=>(match args.toList,argTypes.toList with
  |[x],t::_=>(match P.underlying t with
   |some (.slice e)=>(match ZC P e with
    |some J=>ZgS J.zero J.size (E x) h
    |none=>none)
   |_=>none)
  |_,_=>none)
 |_=>none
section
variable {P:Program} {R:RC} {G:Nat->Nat->Nat->Prop} {h:List Zh}
def JP (R:RC) (G:Nat->Nat->Nat->Prop) (h:List Zh) (v:AV) (h':List Zh) (r:Result Next):Prop:=
 ∃H u A,r= .ok H A.w/\(H= .value u\/(H= .skip/\u=undef))/\HR G A h'/\Xd R h A h'/\R.le A/\VR A v u
theorem JP.ofValue {v:AV} {h':List Zh} {s:Sem Value} (H:∃u A,s.run P R.w= .ok u A.w/\HR G A h'/\Xd R h A h'/\R.le A/\VR A v u):
  JP R G h v h' ((do let x<-s;pure (Next.value x):Sem Next).run P R.w):=by
 obtain⟨u,A,V,S,J,I,U⟩:=H;exact⟨.value u,u,A,by rw[aP,V];rfl,.inl rfl,S,J,I,U⟩
theorem JP.ofUnit {h':List Zh} {s:Sem Unit} (H:∃A,s.run P R.w= .ok () A.w/\HR G A h'/\Xd R h A h'/\R.le A):
  JP R G h .undef h' ((do s;pure Next.skip:Sem Next).run P R.w):=by
 obtain⟨A,S,J,I,U⟩:=H;exact⟨.skip,undef,A,by rw[aP,S];rfl,.inr ⟨rfl,rfl⟩,J,I,U,.undef _⟩
theorem HR.garNew (H:HR G R h) (s:Nat) (n:Unit->Int) (f:(Unit->Int)->List AV) (J:Option Addr) (Z:n ()=0):
  ∃A,A.w=R.w/\HR G A (h++[.gar s n f])/\Xd R h A (h++[.gar s n f])/\R.le A/\A.hv h.length= .slice J 0 0:=by
 have V:∀i x,(h++[Zh.gar s n f])[i]? =some x->(i=R.m/\x= .gar s n f)\/(i≠R.m/\h[i]? =some x):=fun i x S=>by
  rcases Qr S with S|⟨rfl,rfl⟩
  ·exact .inr ⟨fun e=>by have:=(aE.1 S).1;rw[H.len]at this;omega,S⟩
  exact .inl ⟨H.len,rfl⟩
 have I:∀A:RC,A.hv R.m= .slice J 0 0->∀b,¬Zz A R.m (.gar s n f) b:=fun A hv b U=>by
  obtain⟨a,k,c,h1,h2,_⟩:=U;rw[hv]at h1;cases h1;omega
 obtain⟨A,a1,a2,a3,a4,a5,a6,a7,_⟩:=H.room R.m (R.m+1) (.gar s n f) 0 (.slice J 0 0) R.w (h++[.gar s n f]) (by rw[bf,H.len];rfl) (eG _) V (fun hi=>absurd hi (dI _)) (fun _=>False)
  (fun b=>⟨fun h=>h.elim,fun h=>absurd h.1 (dI _)⟩) rfl rfl rfl (aJ _) (fun _ _ _=>rfl) (fun _ _ _ _ _ _=>rfl)
  (fun A _ _ Y aa _=>⟨by rw[Y,Z],.inl ⟨Z,J,aa⟩⟩)
  (fun A hv _ b U=>absurd U (I A hv b))
  (fun A hv b o n _=>I A hv b) rfl
 exact⟨A,a1,a5,a6,a7,by rw[H.len];exact a3⟩
theorem Zl3 {gr:Bool} (H:HR G R h) {t t' ty:TypeId} {at_:Array TypeId} {dst bt v:AV} {h':List Zh} {c:Cd} {u x:Value} (hd:VR R dst u) (hs:VR R bt x) (h0:at_[0]? =some t) (S:at_[1]? =some t')
  (hv:ZdS gr P t t' dst bt h=some (v,h',c)) (hc:ZT c):∃r J,(Builtin.append_ at_ ty #[u,x]).run P R.w= .ok r J.w/\HR G J h'/\Xd R h J h'/\R.le J/\VR J v r:=by
 unfold ZdS at hv;split at hv;case h_2=>cases hv
 rename_i e e' hu I;split at hv;case h_5=>cases hv
 case h_4=>
  rename_i s n f id a l;unfold ZcK at hv;split at hv;case isFalse=>cases hv
  rename_i al;simp only[aT]at al;obtain⟨j,z,Z,hz,ai,V,ak⟩:=YH al.2;split at hv;case h_2=>cases hv
  rename_i zf sf N m g hi;split at hv;case isFalse=>cases hv
  rename_i U;have U:=ZB U;subst U;simp only[aC,aK]at hv;obtain⟨rfl,rfl,rfl⟩:=hv;obtain⟨ac,ce⟩:=(Cn.out (hc _ (aU ..)));have am:n ()+l ()<=1000000:=(Cn.out (hc _ (aQ _ (aN.2 rfl))));obtain⟨a0,rfl⟩:∃a0:Option Addr,u= .slice a0 0 0:=by
   cases hd with
   |pure _ _ hp=>
    cases hp with
    |isl0 _ _ _ _ hz _=>exact⟨none,rfl⟩
    |islE _ _ _ _ a _ _=>exact⟨some a,rfl⟩
    |isl _ _ _ _ b o len A us cg _ ht he _ _ _ _=>
     have S:=he rfl;have h2:len=0:=by omega
     exact⟨some ⟨b,o,none⟩,by rw[S,h2]⟩
  obtain⟨bg,w1,H1,x1,l1,v1⟩:=H.garNew s n f a0 ac;have bu:Src P bg s l (g a) x:=by
   obtain⟨_,_,us,ci,_,bz,_⟩:=H1.blk id _ (by rw[bO (aE.1 hi).1];exact hi);have ab:=hs.mono l1;generalize x=x0 at ab;cases ab with
   |pure _ _ hp=>cases hp
   |nsub _ _ _ q ll cc cr i aj bp he I hl=>
    rw[ci]at bp;cases bp;have ca:a=fun _=>(i:Int):=funext fun _=>he;subst ca;exact .arr ((bz i _ I).cong ce (fun _ _=>rfl) fun _ _ _ c hc=>⟨c,hc,fun _ h=>h⟩)
  obtain⟨r,J,q1,q2,q3,q4,q5⟩:=Zer (P:=P) (at_:=at_) (ty:=ty) (n0:=n) (f:=f) H1 (id:=h.length) (by simp) bu h0 S hu I Z hz ai V ak am;have e:(h++[Zh.gar s n f]).set h.length (.gar s (fun _=>n ()+l ()) (ZV n f (g a)))=h++[.gar s (fun _=>n ()+l ()) (ZV n f (g a))]:=by simp
  rw[e]at q2 q3;rw[v1,w1]at q1;exact⟨r,J,q1,q2,x1.trans q3,l1.trans q4,q5⟩
 case h_3=>exact Zi8 H hd hs h0 S hu I hv hc
 case h_2=>
  rename_i id n sz m g cj;split at hv;case isFalse=>cases hv
  rename_i al;obtain⟨j,z,Z,hz,ai,V,ak⟩:=YH al;split at hv;case h_2=>cases hv
  rename_i s n0 f hi;split at hv;case isFalse=>cases hv
  rename_i U;have U:=ZB U;subst U;simp only[aC,aK]at hv;obtain⟨rfl,rfl,rfl⟩:=hv;have aq:=(Cn.out (hc _ (aU ..)));have ba:=(Cn.out (hc _ (aQ _ (aN.2 rfl))));cases hd with
  |pure _ _ hp=>cases hp
  |gsl _ _ a l c' aj hn he _=>
  rw[he (by rw[aq];exact(H.blk id _ hi).1.symm)];exact Zer H hi (.of hs.isl_inv) h0 S hu I Z hz ai V ak ba
 rename_i bw n f tk sz m g cj;split at hv;case isFalse=>cases hv
 rename_i al;obtain⟨j,z,Z,hz,ai,V,ak⟩:=YH al;have ae:=hs.isl_inv;have aa:=hd.isl_inv;have cu:0<=n ():=by cases aa<;>omega
 have cq:0<=m ():=by cases ae<;>omega
 have fresh:(bw=sz\/n ()=0)->n ()+m ()<=1000000->(∀a len A,u= .slice a len A->A=len)->
   ∃r J,(Builtin.append_ at_ ty #[u,x]).run P R.w= .ok r J.w/\HR G J (h++[.tok sz fun _=>n ()+m ()])/\Xd R h J (h++[.tok sz fun _=>n ()+m ()])/\R.le J/\VR J (.isl sz (fun _=>n ()+m ()) (ZV n f g) (.own h.length)) r:=by
  intro U am bq;have ah:∀i y,(h++[.tok sz fun _=>n ()+m ()])[i]? =some y->(i=h.length/\y= .tok sz fun _=>n ()+m ())\/(i≠h.length/\h[i]? =some y):=fun i y hy=>by
   rcases Qr hy with hy|⟨rfl,rfl⟩
   ·exact .inr ⟨fun e=>by have:=(aE.1 hy).1;omega,hy⟩
   exact .inl ⟨rfl,rfl⟩
  have aj:(h++[.tok sz fun _=>n ()+m ()])[h.length]? =some (.tok sz fun _=>n ()+m ()):=by simp
  have ar:¬h.length<R.m:=by rw[H.len];omega
  by_cases hm0:m ()=0
  ·obtain⟨J,hw,H',hx,ap,bh⟩:=Zfd H aa U hm0 (m':=R.m+1) (by rw[bf,H.len];rfl) (eG _) ah aj (fun h=>absurd h ar) (fun _=>by
     cases aa with
     |isl0 _ _ _ _ _ _=>exact .inl ⟨_,rfl⟩
     |islE _ _ _ _ _ _ _=>exact .inl ⟨_,rfl⟩
     |isl _ _ _ _ b o len A us _ _ _ _ _ _ _ _=>have:=bq _ _ _ rfl;subst this;exact .inr ⟨_,_,rfl⟩)
    (fun h=>absurd h ar) (fun h=>absurd h ar) (fun s0 az h=>by rw[cD (aJ _)]at h;cases h)
   obtain⟨xa,nn,xc,cf,new,rfl,hm,_,_,bc,Y,_⟩:=Xw (P:=P) ae;have ac:nn=0:=by omega
   subst ac;have ao:new=[]:=cQ (by simpa using bc);subst ao;subst V;refine⟨u,J,?_,H',hx,ap,bh⟩;rw[hw];cases aa with
   |isl0 _ _ _ _ _ _=>exact Qg h0 S hu I Z none xa 0 0 xc 0 #[] R.w R.w (Y _ rfl) (by omega) (fun a h=>by cases h) (fun _=>rfl)
   |islE _ _ _ _ a _ _=>exact Qg h0 S hu I Z (some a) xa 0 0 xc 0 #[] R.w R.w (Y _ rfl) (by omega) (fun a _=>rfl) (fun h=>by cases h)
   |isl _ _ _ _ b o len A us _ bx _ _ _ _ _ _=>exact Qg h0 S hu I Z _ xa len A xc 0 #[] R.w R.w (Y _ rfl) (by omega) (fun a _=>rfl) (fun h=>by cases h)
  exact Zg1 H aa U ae h0 S hu I Z hz ai V ak am (fun a len A hh=>by have:=bq _ _ _ hh;omega) (m':=R.m+1) (by rw[bf,H.len];rfl) (eG _) ah aj (fun h=>absurd h ar)
 split at hv
 ·simp only[aC,aK]at hv;obtain⟨rfl,rfl,rfl⟩:=hv;have a9:u= .slice none 0 0/\n ()=0:=by
   cases hd with
   |pure _ _ hp=>
    cases hp with
    |isl0 _ _ _ _ hz _=>exact⟨rfl,hz⟩
    |islE _ _ _ _ _ _ ht=>rcases ht with h|h<;>cases h
    |isl _ _ _ _ _ _ _ _ _ _ _ ht _ _ _ _ _=>rcases ht with h|h<;>cases h
  exact fresh (.inr a9.2) ((Cn.out (hc _ (aN.2 rfl)))) (fun a len A hh=>by rw[a9.1]at hh;cases hh;rfl)
 ·split at hv;case isFalse=>cases hv
  rename_i ab;split at hv
  ·simp only[aC,aK]at hv;obtain⟨rfl,rfl,rfl⟩:=hv;have ac:n ()=0:=(Cn.out (hc _ (aU ..)));have am:n ()+m ()<=1000000:=(Cn.out (hc _ (aQ _ (aN.2 rfl))));obtain⟨a0,rfl⟩:∃a0:Option Addr,u= .slice a0 0 0:=by
    cases hd with
    |pure _ _ hp=>
     cases hp with
     |isl0 _ _ _ _ hz _=>exact⟨none,rfl⟩
     |islE _ _ _ _ a _ _=>exact⟨some a,rfl⟩
     |isl _ _ _ _ b o len A us cg _ ht he _ _ _ _=>
      have S:=he rfl;have h2:len=0:=by omega
      exact⟨some ⟨b,o,none⟩,by rw[S,h2]⟩
   obtain⟨bg,w1,H1,x1,l1,v1⟩:=H.garNew sz n f a0 ac;obtain⟨r,J,q1,q2,q3,q4,q5⟩:=Zer (P:=P) (at_:=at_) (ty:=ty) (n0:=n) (f:=f) H1 (id:=h.length) (by simp) (.of (ae.mono l1.ok l1.keep l1.keepM)) h0 S hu I Z hz ai V ak am;have e:(h++[Zh.gar sz n f]).set h.length (.gar sz (fun _=>n ()+m ()) (ZV n f g))=h++[.gar sz (fun _=>n ()+m ()) (ZV n f g)]:=by simp
   rw[e]at q2 q3;rw[v1,w1]at q1;exact⟨r,J,q1,q2,x1.trans q3,l1.trans q4,q5⟩
  simp only[aC,aK]at hv;obtain⟨rfl,rfl,rfl⟩:=hv;refine fresh (.inl (ZB ab)) ((Cn.out (hc _ (aN.2 rfl)))) (fun a len A hh=>?_);cases hd with
  |pure _ _ hp=>
   cases hp with
   |isl0 _ _ _ _ hz _=>cases hh;rfl
   |islE _ _ _ _ _ _ _=>cases hh;rfl
   |isl _ _ _ _ _ _ _ _ _ _ _ ht he _ _ _ _=>cases hh;exact he rfl
 ·rename_i id;split at hv;case isFalse=>cases hv
  rename_i ab;have ab:=ZB ab;subst ab;split at hv;case h_2=>cases hv
  rename_i s az hi;split at hv;case isFalse=>cases hv
  rename_i bl;have bl:=ZB bl;subst bl;simp only[aC,aK]at hv;obtain⟨rfl,rfl,rfl⟩:=hv;have aq:n ()=az ():=(Cn.out (hc _ (aU ..)));have ba:n ()+m ()<=1000000:=(Cn.out (hc _ (aQ _ (aU ..))));have b9:id<R.m:=H.len▸(aE.1 hi).1;obtain⟨au,bo⟩:=H.blk id _ hi;have aw:R.hv id=u:=by
   cases hd with
   |pure _ _ hp=>
    cases hp with
    |isl0 _ _ _ _ _ ht=>cases ht
    |islE _ _ _ _ _ _ ht=>rcases ht with h|h<;>cases h
    |isl _ _ _ _ _ _ _ _ _ _ _ ht _ _ _ _ _=>rcases ht with h|h<;>cases h
   |own _ _ _ _ _ _ _ _ he=>exact(he (by rw[au];exact aq)).symm
  have ah:∀i y,(h.set id (.tok s fun _=>n ()+m ()))[i]? =some y->(i=id/\y= .tok s fun _=>n ()+m ())\/(i≠id/\h[i]? =some y):=fun i y hx=>by
   rw[bP]at hx;split at hx
   ·rename_i e;subst e;split at hx
    ·simp only[aC]at hx;exact .inl ⟨rfl,hx.symm⟩
    cases hx
   rename_i e;exact .inr ⟨fun h=>e h.symm,hx⟩
  have aj:(h.set id (.tok s fun _=>n ()+m ()))[id]? =some (.tok s fun _=>n ()+m ()):=by rw[bP];simp[(aE.1 hi).1]
  have bk:(h.set id (.tok s fun _=>n ()+m ())).length=R.m:=by rw[cA];exact H.len
  by_cases hm0:m ()=0
  ·obtain⟨J,hw,H',hx,ap,bh⟩:=Zfd H aa (.inl rfl) hm0 bk (aJ _) ah aj (fun _=>⟨s,az,hi,by rw[au];omega,fun _=>aw.symm⟩) (fun h=>absurd b9 h)
    (fun _=>by
     rw[aw]at bo;rcases bo with⟨a1,a2⟩|⟨b,o,len,A,a1,a2,a3,a4⟩
     ·exact .inl ⟨by omega,a2⟩
     exact .inr ⟨b,o,len,A,by omega,a2,a3,a4⟩) (fun _=>aw.symm) (fun s0 ct h=>by rw[hi]at h;cases h;rfl)
   obtain⟨xa,nn,xc,cf,new,rfl,hm,_,_,bc,Y,_⟩:=Xw (P:=P) ae;have ac:nn=0:=by omega
   subst ac;have ao:new=[]:=cQ (by simpa using bc);subst ao;subst V;refine⟨u,J,?_,H',hx,ap,bh⟩;rw[hw];cases aa with
   |isl0 _ _ _ _ _ _=>exact Qg h0 S hu I Z none xa 0 0 xc 0 #[] R.w R.w (Y _ rfl) (by omega) (fun a h=>by cases h) (fun _=>rfl)
   |islE _ _ _ _ a _ _=>exact Qg h0 S hu I Z (some a) xa 0 0 xc 0 #[] R.w R.w (Y _ rfl) (by omega) (fun a _=>rfl) (fun h=>by cases h)
   |isl _ _ _ _ b o len A us _ bx _ _ _ _ _ _=>exact Qg h0 S hu I Z _ xa len A xc 0 #[] R.w R.w (Y _ rfl) (by omega) (fun a _=>rfl) (fun h=>by cases h)
  by_cases hroom:∀a len A,u= .slice a len A->(len:Int)+m ()<=A
  ·exact Zn0 H aa ae h0 S hu I Z V hi aw (by rw[au];exact aq.symm) (by omega) hroom
  refine Zg1 H aa (.inl rfl) ae h0 S hu I Z hz ai V ak ba (fun a len A hh hl=>hroom (fun a' cn ck bm=>?_)) bk (aJ _) ah aj (fun _=>⟨s,az,hi,by rw[au];omega⟩);rw[hh]at bm;cases bm;exact hl
 ·cases hv
 cases hv
theorem Zqv (A:Nat):∀(H:List Value) (q:Nat) (G:Array Value),((H.zipIdx q).foldl (fun cs (p:Value×Nat)=>cs.setIfInBounds (A+p.2) p.1) G).size=G.size/\
  ∀t,((H.zipIdx q).foldl (fun cs (p:Value×Nat)=>cs.setIfInBounds (A+p.2) p.1) G)[t]? =if A+q<=t/\t<A+q+H.length/\t<G.size then H[t-(A+q)]? else G[t]? :=by
 intro H;induction H with
 |nil=>intro q G;exact⟨rfl,fun t=>by simp;omega⟩
 |cons v H I=>
  intro q G;simp only[gF,dP];obtain⟨J,S⟩:=I (q+1) (G.setIfInBounds (A+q) v);refine⟨by rw[J];simp,fun t=>?_⟩;rw[S];simp only[eZ,bF];by_cases c1:A+(q+1)<=t/\t<A+(q+1)+H.length/\t<G.size
  ·rw[if_pos c1,if_pos (by omega),show t-(A+q)=(t-(A+(q+1)))+1 from by omega,cN]
  rw[if_neg c1,bR];by_cases c2:A+q=t
  ·subst c2;by_cases c3:A+q<G.size
   ·rw[if_pos rfl,if_pos c3,if_pos (by omega)];simp
   rw[if_pos rfl,if_neg c3,if_neg (by omega),eE (by omega)]
  rw[if_neg c2,if_neg (by omega)]
theorem Zqw {s:Nat} {v:Value} {cells:Array Value} (hv:v.cells.size=s) (G:cells.size=s):∃arr,Instr.fill (fun i=>some (i*s,s)) cells [(0,v)]=some arr/\arr.size=s/\∀k,k<s->arr[k]? =v.cells[k]? :=by
 obtain⟨A,H⟩:=Zqv (0*s) v.cells.toList 0 cells;refine⟨(v.cells.toList.zipIdx 0).foldl (fun cs (p:Value×Nat)=>cs.setIfInBounds (0*s+p.2) p.1) cells,?_,A.trans G,fun k I=>?_⟩
 ·simp only[Instr.fill];rw[if_neg (by rw[hv];simp;omega)];rw[<-fF];have e:v.cells.zipIdx.toList=v.cells.toList.zipIdx:=by simp
  rw[e]
 rw[H,if_pos (by simp[hv];omega)];simp
theorem Zqj {c:AV} {u:Value} (hv:VR R c u) (G:Zuj (purify c)=true):VR R (purify c) u:=by
 by_cases hp:XI (purify c)=true
 ·exact .pure _ _ (hv.purify hp)
 have A:purify c=c:=by
  cases c with
  |isl s n f tk=>cases tk<;>first|rfl|exact absurd rfl hp
  |_=>rfl
 rw[A];exact hv
theorem Zev {E:Operand->AV} {ρ:Operand->Value} {s:Nat}:∀(ps:List (Nat×Operand)) (k:Nat) (A:List (List AV)) (cells:Array Value),ZcC E s k ps=some A->(k+ps.length)*s=cells.size->(∀p∈ps,VR R (E p.2) (ρ p.2))->
  ∃arr,Instr.fill (fun i=>some (i*s,s)) cells (ps.map fun p=>(p.1,ρ p.2))=some arr/\arr.size=cells.size/\A.length=ps.length/\(∀i,i<k*s->arr[i]? =cells[i]?)/\
   ∀i r,A[i]? =some r->r.length=s/\∀j c,r[j]? =some c->PR R.w R.ok c (arr.getD ((k+i)*s+j) undef)
 |[],k,A,cells,hl,hsz,_=>by
  simp only[ZcC,aC]at hl;subst hl;exact⟨cells,rfl,rfl,rfl,fun _ _=>rfl,fun i r h=>by simp at h⟩
 |(i,x)::ps,k,A,cells,hl,hsz,hE=>by
  simp only[ZcC]at hl;split at hl;case isFalse=>cases hl
  rename_i ac;simp only[aT]at ac;obtain⟨⟨⟨S,J⟩,I⟩,ab⟩:=ac;have S:=ZB S;have I:=ZB I;subst S;simp only[aG]at hl;obtain⟨aa,hr,rfl⟩:=hl;have V:=Jf (hE (i,x) (aU ..)) (fun g y e=>by rw[e]at J;cases J) (fun e=>by rw[e]at J;cases J);have ae:(ρ x).cells.size=s:=by rw[<-V.1,I]
  have ah:(i+1+ps.length)*s=cells.size:=by rw[<-hsz,bF];congr 1;omega
  have Y:∀(H:List Value) (q:Nat) (G:Array Value),((H.zipIdx q).foldl (fun cs (p:Value×Nat)=>cs.setIfInBounds (i*s+p.2) p.1) G).size=G.size/\
    ∀t,((H.zipIdx q).foldl (fun cs (p:Value×Nat)=>cs.setIfInBounds (i*s+p.2) p.1) G)[t]? =if i*s+q<=t/\t<i*s+q+H.length/\t<G.size then H[t-(i*s+q)]? else G[t]? :=by
   intro H;induction H with
   |nil=>intro q G;exact⟨rfl,fun t=>by simp;omega⟩
   |cons v H ih=>
    intro q G;simp only[gF,dP];obtain⟨i1,i2⟩:=ih (q+1) (G.setIfInBounds (i*s+q) v);refine⟨by rw[i1];simp,fun t=>?_⟩;rw[i2];simp only[eZ,bF];by_cases c1:i*s+(q+1)<=t/\t<i*s+(q+1)+H.length/\t<G.size
    ·rw[if_pos c1,if_pos (by omega),show t-(i*s+q)=(t-(i*s+(q+1)))+1 from by omega,cN]
    rw[if_neg c1,bR];by_cases c2:i*s+q=t
    ·subst c2;by_cases c3:i*s+q<G.size
     ·rw[if_pos rfl,if_pos c3,if_pos (by omega)];simp
     rw[if_pos rfl,if_neg c3,if_neg (by omega),eE (by omega)]
    rw[if_neg c2,if_neg (by omega)]
  obtain⟨f1,f2⟩:=Y (ρ x).cells.toList 0 cells;have aj:i*s+s<=cells.size:=by
   have:(i+1)*s<=(i+1+ps.length)*s:=aL _ (by omega);rw[bI]at this;omega
  obtain⟨arr,a1,a2,a3,a4,a5⟩:=Zev ps (i+1) aa _ hr (by rw[f1];exact ah) (fun p hp=>hE p (aQ _ hp));refine⟨arr,?_,by rw[a2,f1],by simp[a3],fun t ht=>?_,fun q r Z=>?_⟩
  ·simp only[bV,Instr.fill];rw[if_neg (by rw[ae];simp;omega)];rw[<-fF];have e:(ρ x).cells.zipIdx.toList=(ρ x).cells.toList.zipIdx:=by simp
   rw[e];exact a1
  ·rw[a4 t (by rw[bI];omega),f2,if_neg (by omega)]
  cases q with
  |zero=>
   simp only[bJ,aC]at Z;subst Z;refine⟨by simp[I],fun j c hj=>?_⟩;rw[aO,aG]at hj;obtain⟨c0,U,rfl⟩:=hj;have ak:j<s:=by rw[<-I];exact(aE.1 U).1
   have hv:=V.2 j c0 U;have ai:XI (purify c0)=true:=by
    rw[bL]at ab;exact ab _ (bE.2 ⟨c0,aZ U,rfl⟩)
   have:=hv.purify ai;have e:arr.getD ((i+0)*s+j) undef=(ρ x).cells.getD j undef:=by
    rw[aI,aI,dQ,a4 _ (by rw[bI];omega),f2,if_pos (by simp[ae];omega)];simp
   rw[e];exact this
  |succ q=>
   rw[cN]at Z;obtain⟨b1,b2⟩:=a5 q r Z;exact⟨b1,fun j c hj=>by rw[show i+(q+1)=i+1+q from by omega];exact b2 j c hj⟩
theorem ZgX (H:HR G R h) {E:Operand->AV} {ρ:Operand->Value} {t:TypeId} {n:Nat} {ps:Array (Nat×Operand)} {v:AV} (hE:∀p∈ps.toList,VR R (E p.2) (ρ p.2)) (hv:Ya P E t n ps.toList=some v):
  ∃u S,(Instr.buildSlice t n (ps.map fun(i,x)=>(i,ρ x))).run P R.w= .ok u S.w/\HR G S h/\Xd R h S h/\R.le S/\VR S v u:=by
 unfold Ya at hv;split at hv;case h_2=>cases hv
 rename_i T hT;split at hv;case h_2=>cases hv
 rename_i e s eb I;split at hv;case isFalse=>cases hv
 rename_i Y;simp only[aT]at Y;obtain⟨⟨a9,U⟩,aj⟩:=Y;have U:=ZB U;have aj:=QT aj;obtain⟨j,hu,hj,hs,_⟩:=Jo hT I;obtain⟨j',z,aq,hz,bl,bk,_⟩:=YH a9;rw[hj]at aq;cases aq;split at hv;case h_2=>
  unfold ZiN at hv;split at hv;case h_2=>cases hv
  rename_i i x ah;split at hv;case isFalse=>cases hv
  rename_i Y;simp only[aT]at Y;obtain⟨⟨⟨ao,ac⟩,ae⟩,aw⟩:=Y;have ao:=ZB ao;have ae:=ZB ae;simp only[aC]at hv;subst hv ao;have ar:n=1:=by rw[<-U,ah];rfl
  subst ar;have am:=Jf (hE (0,x) (by rw[ah];exact aN.2 rfl)) (fun g y e=>by rw[e]at ac;cases ac) (fun e=>by rw[e]at ac;cases ac);have bg:(ρ x).cells.size=s:=by rw[<-am.1,ae]
  obtain⟨arr,V,a2,a3⟩:=Zqw (s:=s) (cells:=(fi (1*s)).map fun k=>(if 1*s=0 then #[]else z.cells)[k%(if 1*s=0 then #[]else z.cells).size]!) bg (by simp);obtain⟨S,hw,hm,az,bc,au,H',hx,J,ab⟩:=H.make (.cells arr e);refine⟨.slice (some ⟨R.w.heap.size,0,none⟩) 1 1,S,?_,H',hx,J,?_⟩
  ·have al:(ps.map fun(i,x)=>(i,ρ x)).toList=[(0,ρ x)]:=by simp[ah]
   unfold Instr.buildSlice;simp only[aP,Zu hu,aH,Z0 hj,hs,al];rw[if_neg (by omega)];rw[hw];by_cases hns:1*s=0
   ·simp only[if_pos hns]at V|-;simp only[aP,bC,aH];rw[V];rfl
   simp only[if_neg hns]at V|-;simp only[aP,bC,aH,zeroValue,Xh hj,hz];rw[V];rfl
  have aa:S.w.heap[R.w.heap.size]? =some (.cells arr e (0,0)):=by rw[hw];simp
  have ak:((E x).cellsOf.map purify).length=s:=by rw[bA];exact ae
  refine .lit s _ R.w.heap.size 0 (fun k=>arr.getD k undef) ak (fun k c I=>?_) (fun k c I=>?_) (ab _ _)
  ·have ai:k<s:=by rw[<-ak];exact(aE.1 I).1
   rw[dA];exact ZY aa (by omega)
  have ai:k<s:=by rw[<-ak];exact(aE.1 I).1
  rw[aO,aG]at I;obtain⟨c0,ap,rfl⟩:=I;have e1:arr.getD k undef=(ρ x).cells.getD k undef:=by
   rw[aI,aI,a3 k ai]
  rw[e1];exact(Zqj (am.2 k c0 ap) (bL.1 aw _ (bE.2 ⟨c0,aZ ap,rfl⟩))).mono J
 rename_i A hr;simp only[aC]at hv;subst hv;obtain⟨arr,V,a2,a3,a4,a5⟩:=Zev (R:=R) (ρ:=ρ) ps.toList 0 A ((fi (n*s)).map fun k=>(if n*s=0 then #[]else z.cells)[k%(if n*s=0 then #[]else z.cells).size]!) hr (by simp[U]) hE;obtain⟨S,hw,hm,az,bc,au,H',hx,J,ab⟩:=H.make (.cells arr e);refine⟨.slice (some ⟨R.w.heap.size,0,none⟩) n n,S,?_,H',hx,J,.pure _ _ ?_⟩
 ·have al:(ps.map fun(i,x)=>(i,ρ x)).toList=ps.toList.map fun p=>(p.1,ρ p.2):=by simp
  unfold Instr.buildSlice;simp only[aP,Zu hu,aH,Z0 hj,hs,al];rw[if_neg (by omega)];rw[hw];by_cases hns:n*s=0
  ·simp only[if_pos hns]at V|-;simp only[aP,bC,aH];rw[V];rfl
  simp only[if_neg hns]at V|-;simp only[aP,bC,aH,zeroValue,Xh hj,hz];rw[V];rfl
 have ba:A.length=n:=by rw[a3,cV];rw[cV]at U;exact U
 have aa:S.w.heap[R.w.heap.size]? =some (.cells arr e (0,0)):=by rw[hw];simp
 have bm:arr.size=n*s:=by rw[a2];simp
 refine .isl _ _ _ _ R.w.heap.size 0 n n (fun i k=>arr.getD (i*s+k) undef) (by show(A.length:Int)=n;rw[ba]) (aJ _) (.inr rfl) (fun _=>rfl) (fun i hi=>?_) (fun i k c hi I=>?_) (fun i k c hi I=>?_) (ab _ _)
 ·have:A[i]? =some A[i]:=aD (by omega);show(A.getD (i:Int).toNat (A.headD [])).length=s;rw[aV,aA,this];exact(a5 i _ this).1
 ·have Z:A[i]? =some A[i]:=aD (by omega);replace I:(A.getD (i:Int).toNat (A.headD []))[k]? =some c:=I;rw[aV,aA,Z]at I;have ai:k<s:=by rw[<-(a5 i _ Z).1];exact(aE.1 I).1
  have bh:i*s+s<=n*s:=by
   have:(i+1)*s<=n*s:=aL _ hi;rwa [bI]at this
  rw[dA];exact ZY aa (by omega)
 have Z:A[i]? =some A[i]:=aD (by omega);replace I:(A.getD (i:Int).toNat (A.headD []))[k]? =some c:=I;rw[aV,aA,Z]at I;have:=(a5 i _ Z).2 k c I;rw[dA]at this;exact this.mono J.ok J.keep J.keepM
end
end Vm
namespace Vm
open Go
section
variable {P:Program} {R:RC} {G:Nat->Nat->Nat->Prop} {h:List Zh}
theorem Zhc (d n:Nat) (x:List Int):Instr.sameBits (d+2) (Xf n x) (Xf n x)=true:=by
 cases n with
 |zero=>simp[Xf,Instr.sameBits]
 |succ n=>
  have A:∀(m:Nat) (x:List Int),((Qv m x).zip (Qv m x)).all (fun p=>Instr.sameBits (d+1) p.1 p.2)=true:=by
   intro m;induction m with
   |zero=>intro x;rfl
   |succ m G=>intro x;simp only[Qv,List.zip_cons_cons,List.all_cons,G];simp[Instr.sameBits]
  simp only[Xf,Instr.sameBits,beq_self_eq_true,Bool.true_and];exact A (n+1) x
theorem ZaJ {α A:Type} {f:A->A} {k:A->List Int} {x:List Int} {d:A}:∀(l:List (α×A)) (i:Nat) (p:α×A),l[i]? =some p->k p.2=x->(l.map fun q=>k q.2).Nodup->(∀q,k q=x->f q=d)->(∀q,k q≠x->f q=q)->∀a:α,(l.set i (a,d)).map (·.2)=(l.map (·.2)).map f
 |[],i,p,h,_,_,_,_,a=>by simp at h
 |q::l,0,p,h,hp,hn,h1,h2,a=>by
  simp only[bJ,aC]at h;subst h;rw[bV,ee]at hn;simp only[List.set_cons_zero,bV,h1 _ hp,cB,true_and];rw[List.map_map];refine List.map_congr_left fun r hr=>?_;exact(h2 r.2 fun e=>hn.1 (bE.2 ⟨r,hr,e.trans hp.symm⟩)).symm
 |q::l,i+1,p,h,hp,hn,h1,h2,a=>by
  rw[bV,ee]at hn;have h:l[i]? =some p:=by simpa using h
  have G:k q.2≠x:=fun e=>hn.1 (bE.2 ⟨p,aZ h,hp.trans e.symm⟩);simp only[List.set_cons_succ,bV,h2 _ G,cB,true_and];exact ZaJ l i p h hp hn.2 h1 h2 a
theorem ZfW {α:Type} {V:α->Value->Prop} {t kt et:TypeId} {A:Nat} (hu:P.underlying t=some (.map kt et)) (ac:keyT P kt A=true) {x:List Int} (hx:x.length=ZjX A) (R:RC) {w:World} {b:Nat} {es:Array MapEntry} {clk:Nat} {L:List (List Int×α)} (S:w.heap[b]? =some (.map es clk))
  (hm:ZeJ A V es clk L) {v:Value} {d:α} (hd:V d v):∃aa Y,(Instr.mapUpdate t (.map (some b)) (Xf A x) v).run P w=(setObj b (.map aa Y)).run P w/\ZeJ A V aa Y (Jp L x d):=by
 obtain⟨l,hm⟩:=hm;have ai:=fun em=>ZcW (P:=P) em ac hx w;have ab:(getObj b).run P w= .ok (.map es clk) w:=by simp[getObj,Sem.run,S]
 have al:=hm.keys;unfold Instr.mapUpdate;rcases Zdv ac hx R w hm with⟨I,J⟩|⟨i,p,I,J,h3⟩
 ·refine⟨es.push {key:=Xf A x,val:=v,born:=clk},clk+1,?_,l++[({key:=Xf A x,val:=v,born:=clk},(x,d))],?_,?_,?_,?_,?_⟩
  ·simp only[aP,Zu hu,aH,ab,ai,I]
  ·simp[hm.es]
  ·have ak:L.any (fun p=>p.1==x)=false:=by
    rw[List.any_eq_false];intro p H;have:p∈l.map (·.2):=hm.L.mem_iff.2 H;obtain⟨q,G,rfl⟩:=bE.1 this;simpa using J q G
   unfold Jp;rw[ak];simp only[aX,if_false,dD,bV,List.map_nil];exact hm.L.append_right _
  ·rw[dD,fL];refine⟨hm.nd,by simp,fun a ha b S=>?_⟩;simp at S;subst S;obtain⟨q,G,rfl⟩:=bE.1 ha;exact J q G
  ·rw[dD,fL];refine⟨hm.bn,by simp,fun a ha b S=>?_⟩;simp at S;subst S;obtain⟨q,G,rfl⟩:=bE.1 ha;have:=(hm.e q G).2.2.2;omega
  intro p H;rcases cJ.1 H with H|H
  ·obtain⟨a1,a2,a3,a4⟩:=hm.e p H;exact⟨a1,a2,a3,by omega⟩
  simp at H;subst H;exact⟨rfl,hd,hx,Nat.lt_succ_self _⟩
 have ah:=aZ I;obtain⟨k1,k2,k3,k4⟩:=hm.e p ah;have U:i<l.length:=(aE.1 I).1;have ae:es[i]? =some p.1:=by
  rw[<-bN,<-hm.es,aO,I];rfl
 have Z:(Instr.keyThatStays (((es[i]?).map (·.key)).getD (Xf A x)) (Xf A x)).run P w= .ok (Xf A x) w:=by
  rw[ae];simp only[cL,bY,k1,J];have:=Zhc 9998 A x;simp only[Instr.keyThatStays,this,if_true,bC]
 refine⟨es.modify i fun e=>{e with key:=Xf A x,val:=v},clk,?_,l.set i ({p.1 with key:=Xf A x,val:=v},(x,d)),?_,?_,?_,?_,?_⟩
 ·simp only[aP,Zu hu,aH,ab,ai,h3,Z]
 ·rw[g9,hm.es];apply en;intro j;simp only[bP,bN,cU];by_cases hj:i=j
  ·subst hj;have:i<es.toList.length:=by rw[<-hm.es];simpa using U
   rw[if_pos rfl,if_pos this,if_pos rfl,ae];rfl
  rw[if_neg hj,if_neg hj]
 ·have aj:L.any (fun p=>p.1==x)=true:=by
   rw[List.any_eq_true];exact⟨p.2,hm.L.mem_iff.1 (bE.2 ⟨p,ah,rfl⟩),by simpa using J⟩
  unfold Jp;rw[aj,if_pos rfl];rw[ZaJ (k:=(·.1)) (x:=x) (f:=fun p=>if p.1==x then(x,d)else p) l i p I J hm.nd (fun q G=>by rw[if_pos (by simpa using G)]) (fun q G=>by rw[if_neg (by simpa using G)])];exact hm.L.map _
 ·have:(l.set i ({p.1 with key:=Xf A x,val:=v},(x,d))).map (·.2.1)=l.map (·.2.1):=by
   rw[g9];refine en fun j=>?_;rw[bP];by_cases hj:i=j
   ·subst hj;rw[if_pos rfl,if_pos (by simpa using U),aO,I];simp[J]
   rw[if_neg hj]
  rw[this];exact hm.nd
 ·have:(l.set i ({p.1 with key:=Xf A x,val:=v},(x,d))).map (·.1.born)=l.map (·.1.born):=by
   rw[g9];refine en fun j=>?_;rw[bP];by_cases hj:i=j
   ·subst hj;rw[if_pos rfl,if_pos (by simpa using U),aO,I];rfl
   rw[if_neg hj]
  rw[this];exact hm.bn
 intro q G;rcases List.mem_or_eq_of_mem_set G with G|rfl
 ·exact hm.e q G
 exact⟨rfl,hd,hx,k4⟩
theorem Zrr {n:Nat} {x:AV} {d:Unit->List Int} {u:Value} (h:Zuz n x=some d) (I:VR R x u):u=Xf n (d ()):=by
 unfold Zuz at h;split at h
 ·split at h
  ·rename_i S;cases h;have e:=ZB S;subst e;rw[I.int_inv];rfl
  cases h
 ·rename_i cs;split at h
  ·rename_i A;simp only[aT]at A;have e:=ZB A.1;have Y:=Zaw A.2;obtain⟨H,rfl,J,hr⟩:=I.agg_inv;obtain⟨Z,V⟩:=Zel (R:=R) h;have G:=V H.toList (by simpa using J) fun j c U=>by simpa using hr j c U
   subst e;obtain⟨m,hm⟩:∃m,cs.length=m+1:=⟨cs.length-1,by omega⟩;rw[hm]at G|-;show Value.agg H= .agg (Qv (m+1) (d ())).toArray;rw[<-G]
  cases h
 cases h
theorem ZiH (H:HR G R h) {t kt et:TypeId} {id:Nat} {n:Unit->Int} {S:Unit->Bool} {f:(Unit->Int)->Unit->Bool} {m k x:Value} (hm:VR R (.map id) m) (Z:VR R (.int .i64 n) k) (hx:VR R (.bool S) x)
  (hu:P.underlying t=some (.map kt et)) (hi:h[id]? =some (.mapB f)) (ah:P.underlying kt=some (.int .i64)):
  ∃U,(Instr.mapUpdate t m k x).run P R.w= .ok () U.w/\HR G U (h.set id (.mapB fun e u=>if e ()=n ()then S u else f e u))/\Xd R h U (h.set id (.mapB fun e u=>if e ()=n ()then S u else f e u))/\R.le U:=by
 obtain⟨es,cl,h1,h2,h3⟩:=H.blk id _ hi;rw[hm.map_inv,Z.int_inv,hx.bool_inv];have ap:=Zdw (P:=P) ah false (n ()) R.w;have al:=ZfX (P:=P) h1;have upd:∀(aa:Array MapEntry) (ac:Nat),ZwY aa.toList (fun e u=>if e ()=n ()then S u else f e u)->
   ∃U,(setObj (R.α id).b (.map aa ac)).run P R.w= .ok () U.w/\HR G U (h.set id (.mapB fun e u=>if e ()=n ()then S u else f e u))/\Xd R h U (h.set id (.mapB fun e u=>if e ()=n ()then S u else f e u))/\R.le U:=by
  intro aa ac hM;obtain⟨U,hw,_,am,H',aq,ak⟩:=H.upd hi rfl (blk':=.mapB fun e u=>if e ()=n ()then S u else f e u) rfl {R.w with heap:=R.w.heap.setIfInBounds (R.α id).b (.map aa ac)} rfl rfl rfl (by simp)
   (fun b hb=>by simp[aF (Ne.symm hb)]) (fun U ak am hw=>⟨aa,ac,by rw[hw,am];simp[(aM.1 h1).1],hM⟩)
  exact⟨U,by rw[hw];simp[setObj,Sem.run,h1],H',aq,ak⟩
 have ae:∀x:Int,(fun(e:Unit->Int) u=>if e ()=n ()then S u else f e u) (fun _=>x) ()=if x=n ()then S ()else f (fun _=>x) ():=fun x=>rfl
 unfold Instr.mapUpdate;rcases Zch (n ()) es.toList 0 h2 with⟨a1,a2⟩|⟨i,e,a1,a2,a3,a4⟩
 ·obtain⟨U,hr,ab⟩:=upd (es.push {key:=.int .i64 (n ()),val:=.bool (S ()),born:=cl}) (cl+1) ⟨fun e I=>by
    rw[ic,cJ]at I;rcases I with I|I
    ·exact h2 e I
    ·simp only[aN]at I;subst I;exact⟨_,_,rfl,rfl⟩,fun x=>by
    rw[ae,ic];by_cases hxn:x=n ()
    ·subst hxn;refine .inr ⟨es.toList.length,{key:=.int .i64 (n ()),val:=.bool (S ()),born:=cl},by simp,rfl,by simp,fun j J A V=>?_⟩;rw[bO A]at V;exact a2 J (aZ V)
    rw[if_neg hxn];rcases h3 x with⟨b1,b2⟩|⟨i,e,b1,b2,b3,b4⟩
    ·refine .inl ⟨fun e I=>?_,b2⟩;rw[cJ]at I;rcases I with I|I
     ·exact b1 e I
     simp only[aN]at I;subst I;intro hh;injection hh with _ hh;exact hxn hh.symm
    have hl:=(aE.1 b1).1
    exact .inr ⟨i,e,by rw[bO hl];exact b1,b2,b3,fun j J A V=>b4 j J A (by rwa [bO (by omega)]at V)⟩⟩
  refine⟨U,?_,ab⟩;simp only[aP,Zu hu,aH,al,ap,dN,Zu ah,a1,bC];exact hr
 have au:i<es.size:=by have:=(aE.1 a1).1;simpa using this
 have ao:es[i]? =some e:=by rw[<-bN];exact a1
 have aj:(Instr.keyThatStays e.key (.int .i64 (n ()))).run P R.w= .ok (.int .i64 (n ())) R.w:=by
  rw[a2];have:∀d,Instr.sameBits d (.int .i64 (n ())) (.int .i64 (n ()))=true:=fun d=>by cases d<;>simp[Instr.sameBits]
  simp only[Instr.keyThatStays,this,if_true,bC]
 have Y:∀j,(es.modify i fun e=>{e with key:=.int .i64 (n ()),val:=.bool (S ())}).toList[j]? =if j=i then some {e with key:=.int .i64 (n ()),val:=.bool (S ())}else es.toList[j]? :=fun j=>by
  rw[bN,cU];by_cases A:i=j
  ·subst A;simp[ao]
  rw[if_neg A,if_neg (fun h=>A h.symm),bN]
 obtain⟨U,hr,ab⟩:=upd (es.modify i fun e=>{e with key:=.int .i64 (n ()),val:=.bool (S ())}) cl ⟨fun J I=>by
   obtain⟨j,A⟩:=fp.1 I;rw[Y]at A;split at A
   ·simp only[aC]at A;subst A;exact⟨_,_,rfl,rfl⟩
   ·exact h2 J (aZ A),fun x=>by
   rw[ae];by_cases hxn:x=n ()
   ·subst hxn;refine .inr ⟨i,{e with key:=.int .i64 (n ()),val:=.bool (S ())},by rw[Y,if_pos rfl],rfl,by simp,fun j J A V=>?_⟩;rw[Y,if_neg (by omega)]at V;exact a3 j J A V
   rw[if_neg hxn];have ai:∀(j:Nat) (J:MapEntry),(es.modify i fun e=>{e with key:=.int .i64 (n ()),val:=.bool (S ())}).toList[j]? =some J->J.key= .int .i64 x->es.toList[j]? =some J:=fun j J A Z=>by
    rw[Y]at A;split at A
    ·simp only[aC]at A;subst A;injection Z with _ Z;exact absurd Z.symm hxn
    exact A
   rcases h3 x with⟨b1,b2⟩|⟨i',J,b1,b2,b3,b4⟩
   ·refine .inl ⟨fun J I Z=>?_,b2⟩;obtain⟨j,A⟩:=fp.1 I;exact b1 J (aZ (ai j J A Z)) Z
   have ar:i'≠i:=fun hh=>by
    subst hh;rw[a1]at b1;cases b1;rw[a2]at b2;injection b2 with _ b2;exact hxn b2.symm
   exact .inr ⟨i',J,by rw[Y,if_neg ar];exact b1,b2,b3,fun j e1 A V Z=>b4 j e1 A (ai j e1 V Z) Z⟩⟩
 refine⟨U,?_,ab⟩;simp only[aP,Zu hu,aH,al,ap,dN,Zu ah,a4,bC,dA,ao,cL,bY,aj];exact hr
theorem Zhi (H:HR G R h) {t:TypeId} {a b q v:AV} {m k x:Value} {h':List Zh} {c:Cd} (hm:VR R a m) (hk:VR R b k) (hx:VR R q x) (hv:XJ (tyP P) t a b q h=some (v,h',c)):
  v= .undef/\∃I,(Instr.mapUpdate t m k x).run P R.w= .ok () I.w/\HR G I h'/\Xd R h I h'/\R.le I:=by
 unfold XJ at hv;split at hv;case h_2=>cases hv
 rename_i kt et id hu;have put:∀(g:Gob) (J:Array MapEntry) (A:Nat),(∃o,R.w.heap[(R.α id).b]? =some o/\ZsN o=true)->(∃blk,h[id]? =some blk/\αk blk=true)->(Instr.mapUpdate t m k x).run P R.w=(setObj (R.α id).b (.map J A)).run P R.w->(∀I:RC,R.le I->Zjg I (R.α id).b (.map J A) g)->
   ∃I,(Instr.mapUpdate t m k x).run P R.w= .ok () I.w/\HR G I (h.set id (.gob g))/\Xd R h I (h.set id (.gob g))/\R.le I:=by
  rintro g J A ⟨o,Y,V⟩ ⟨blk,U,hk⟩ ae hg;obtain⟨I,hw,_,aa,H',ak,S⟩:=H.upd U hk (blk':=.gob g) rfl {R.w with heap:=R.w.heap.setIfInBounds (R.α id).b (.map J A)} rfl rfl rfl (by simp)
   (fun b hb=>by simp[aF (Ne.symm hb)]) (fun I S aa hw=>⟨.map J A,by rw[hw,aa];simp[(aM.1 Y).1],rfl,by rw[aa];exact hg I S⟩)
  refine⟨I,?_,H',ak,S⟩;rw[ae,hw];cases o<;>first|(simp[ZsN]at V;done)|simp[setObj,Sem.run,Y]
 split at hv
 ·rename_i f U;split at hv;case h_2=>cases hv
  rename_i n bv aj;cases hv;exact⟨rfl,ZiH H hm hk hx hu U aj⟩
 ·rename_i ka n L U;split at hv;case h_2=>cases hv
  rename_i g d hg hd;cases hv;obtain⟨o,Y,V,es,ai,rfl,ac⟩:=H.blk id _ U;obtain⟨rfl,h1,h2⟩:=ZdI hg hk;rw[hm.map_inv]at put|-;obtain⟨J,A,r1,r2⟩:=ZfW (P:=P) hu h2 h1 R Y ac (Zrr hd hx);exact⟨rfl,put (.mapL ka n fun _=>Jp (L ()) (g ()) (d ())) J A ⟨_,Y,V⟩ ⟨_,U,rfl⟩ r1 fun I S=>⟨J,A,rfl,r2⟩⟩
 ·rename_i ka kb n L U;split at hv;case h_2=>cases hv
  rename_i g al n' L2 hg;split at hv;case isFalse=>cases hv
  rename_i ab;simp only[aT]at ab;obtain rfl:=ZB ab.1;obtain rfl:=ZB ab.2;cases hv;obtain⟨o,Y,V,es,ai,rfl,ac⟩:=H.blk id _ U;obtain⟨rfl,h1,h2⟩:=ZdI hg hk;rw[hm.map_inv]at put|-;have ah:PR R.w R.ok (.imap kb n fun _=>L2 ()) x:=by
   cases hx with
   |pure _ _ hp=>exact hp
  obtain⟨J,A,r1,r2⟩:=ZfW (P:=P) hu h2 h1 R Y ac (v:=x) (d:=L2 ()) ah
  exact⟨rfl,put (.mapM ka kb n fun _=>Jp (L ()) (g ()) (L2 ())) J A ⟨_,Y,V⟩ ⟨_,U,rfl⟩ r1 fun I S=>by
   obtain⟨l,Z⟩:=r2
   exact⟨J,A,rfl,l,Z.es,Z.L,Z.nd,Z.bn,fun p hp=>⟨(Z.e p hp).1,(Z.e p hp).2.1.mono S.ok S.keep S.keepM,(Z.e p hp).2.2⟩⟩⟩
 cases hv
theorem ZqA {gr:Bool} (H:HR G R h) {o:Oper} {E:Operand->AV} {ρ:Operand->Value} (Y:∀x∈o.op.operands,VR R (E x) (ρ x)) {v:AV} {h':List Zh} {c:Cd} (hv:evE gr P E h o.op=some (v,h',c)) (hc:ZT c):
  JP R G h v h' ((execOp ρ o).run P R.w):=by
 obtain⟨bu,op,ty,pos,bq,bt⟩:=o;dsimp only at Y hv;cases op with
 |alloc t=>
  simp only[evE]at hv;split at hv;case h_2=>cases hv
  rename_i T hT;split at hv;case h_2=>cases hv
  rename_i z hz;simp only[aC,aK]at hv;obtain⟨rfl,rfl,rfl⟩:=hv;obtain⟨i,d,hi,_,_,_,bm,_⟩:=Xu hT;obtain⟨A,hw,hm,U,H',hx,S⟩:=H.allocCells (Xy z).cellsOf z.cells t (Jq z);refine JP.ofValue ⟨.pointer (some ⟨R.w.heap.size,0,none⟩),A,?_,H',hx,S,?_⟩
  ·rw[hw];simp[Instr.alloc,zeroValue,Xh hi,<-bm,hz,newVar,newRow]
  have:=VR.ptr (R:=A) h.length 0 (by rw[hm,H.len];omega);rw[H.len,U]at this;rw[H.len];exact this
 |box t x=>
  simp only[evE]at hv;split at hv;case isFalse=>cases hv
  rename_i Z;simp only[aC,aK]at hv;obtain⟨rfl,rfl,rfl⟩:=hv;have hr:=Jf (Y x (by simp[bD])) (fun g y e=>by rw[e]at Z;cases Z) (fun e=>by rw[e]at Z;cases Z);obtain⟨A,hw,hm,U,H',hx,S⟩:=H.allocCells (E x).cellsOf (ρ x).cells t hr;refine JP.ofValue ⟨.pointer (some ⟨R.w.heap.size,0,none⟩),A,?_,H',hx,S,?_⟩
  ·rw[hw];simp[Instr.box,newVar,newRow]
  have:=VR.ptr (R:=A) h.length 0 (by rw[hm,H.len];omega);rw[H.len,U]at this;rw[H.len];exact this
 |store t a x=>
  have V:=Y a (by simp[bD]);have aj:=Y x (by simp[bD]);simp only[evE]at hv;split at hv;case h_5=>cases hv
  case h_2=>
   rename_i id s e ai T ac hT;rw[ac]at V;obtain⟨rfl,h1⟩:=Zkw hT H V aj hv hc;exact JP.ofUnit h1
  case h_3=>
   rename_i id s n e ai T ac hT;rw[ac]at V;obtain⟨rfl,h1⟩:=Zj5 hT H V aj hv hc;exact JP.ofUnit h1
  case h_4=>
   rename_i id s e k ai T ac hT;rw[ac]at V;obtain⟨rfl,h1⟩:=Zkb hT H V aj hv hc;exact JP.ofUnit h1
  rename_i id ai T ac hT;split at hv;case h_2=>cases hv
  rename_i cs bh;split at hv;case isFalse=>cases hv
  rename_i aq;simp only[aT]at aq;obtain⟨⟨⟨Z,ah⟩,am⟩,ar⟩:=aq;have ah:=ZB ah;have am:=QT am;simp only[aC,aK]at hv;obtain⟨rfl,rfl,rfl⟩:=hv;rw[ac]at V;have bo:ρ a= .pointer (some ⟨(R.α id).b,(R.α id).o+ai,none⟩):=by
   generalize ρ a=u at V;cases V with
   |pure _ _ hp=>cases hp
   |ptr _ _ _=>rfl
  have hr:=Jf aj (fun g y e=>by rw[e]at Z;cases Z) (fun e=>by rw[e]at Z;cases Z);obtain⟨i,d,hi,_,bl,_,_,_⟩:=Xu hT;obtain⟨A,bk,hm,U,H',hx,S⟩:=H.store (P:=P) (Jg bh) (E x).cellsOf (ρ x).cells.toList (by rw[hr.1];simp) (by rw[ah];exact am) (fun a V=>by rw[bL]at ar;exact ar a V) (fun j c hj=>by simpa using hr.2 j c hj);refine JP.ofUnit ⟨A,?_,H',hx,S⟩;rw[bo];simp only[ep,cP,aP,bC,aH,storeVar,Z0 hi];rw[if_neg (by rw[<-hr.1,ah,bl];simp)];exact bk
 |makeSlice t n c=>
  have hn:=Y n (by simp[bD]);have au:=Y c (by simp[bD]);simp only[evE]at hv;split at hv;case h_2=>cases hv
  rename_i T hT;cases gr with
  |true=>exact JP.ofValue (Zlq hT (fun e s b hk=>by rw[hk]) H hn au hv hc)
  |false=>exact JP.ofValue (ZiI hT (fun e s b hk=>by rw[hk]) H hn au hv hc)
 |buildSlice t n ps=>
  simp only[evE,aG,aK]at hv;obtain⟨v',a9,rfl,rfl,rfl⟩:=hv;obtain⟨u,A,h1,h2⟩:=ZgX H (ρ:=ρ) (fun p hp=>Y p.2 (by simp only[bD];rw[<-Array.mem_toList_iff];exact bE.2 ⟨p,hp,rfl⟩)) a9;exact JP.ofValue ⟨u,A,h1,h2⟩
 |makeMap t r=>
  cases r with
  |some r=>simp[evE]at hv
  |none=>
   simp only[evE]at hv;split at hv;case h_2=>cases hv
   rename_i b hb;simp only[aC,aK]at hv;obtain⟨rfl,rfl,rfl⟩:=hv;have ap:b= .mapB (fun _ _=>false)\/(∃ka n,b= .gob (.mapL ka n fun _=>[]))\/∃ka kb n,b= .gob (.mapM ka kb n fun _=>[]):=by
    unfold ZaS at hb;split at hb;case h_2=>cases hb
    split at hb
    ·cases hb;exact .inl rfl
    ·split at hb
     ·split at hb
      ·cases hb;exact .inr (.inr ⟨_,_,_,rfl⟩)
      cases hb
     cases hb
    split at hb
    ·cases hb;exact .inr (.inl ⟨_,_,rfl⟩)
    cases hb
   have bp:∀A:RC,Zz A R.m b (A.α R.m).b/\(∀x,Zz A R.m b x->x=(A.α R.m).b)/\∀x o n,Qe A R.m b x o n↔¬Zz A R.m b x:=fun A=>by
    rcases ap with rfl|⟨ka,n,rfl⟩|⟨ka,kb,n,rfl⟩<;>exact⟨rfl,fun b hp=>hp.symm,fun b o n=>Iff.rfl⟩
   obtain⟨A,hw,hm,U,H',hx,S⟩:=H.alloc b (.map #[] 0) bp (fun A S U hh=>by
    rcases ap with rfl|⟨ka,n,rfl⟩|⟨ka,kb,n,rfl⟩
    ·exact⟨#[],0,by rw[U];exact hh,fun e he=>by simp at he,fun x=>.inl ⟨fun e he=>by simp at he,rfl⟩⟩
    ·exact⟨_,by rw[U];exact hh,rfl, #[],0,rfl,.nil⟩
    exact⟨_,by rw[U];exact hh,rfl, #[],0,rfl,.nil⟩)
   refine JP.ofValue ⟨.map (some R.w.heap.size),A,?_,H',hx,S,?_⟩
   ·rw[hw];simp[Instr.makeMap]
   have:=VR.map (R:=A) h.length (by rw[hm,H.len];omega);rw[H.len,U]at this;rw[H.len];exact this
 |mapUpdate t m k x=>
  simp only[evE]at hv;obtain⟨rfl,hd⟩:=Zhi H (Y m (by simp[bD])) (Y k (by simp[bD])) (Y x (by simp[bD])) hv;exact JP.ofUnit hd
 |range t x=>
  simp only[evE]at hv;split at hv;case h_2=>cases hv
  rename_i ka n L kt et ba hu;simp only[aC,aK]at hv;obtain⟨rfl,rfl,rfl⟩:=hv;have hx:=Y x (by simp[bD]);rw[ba]at hx;have al:∀o:Obj,(∀A:RC,R.le A->Zjg A R.w.heap.size o (.mapIt ka n L (fun _=>[]) fun _=>([],[])))->ZsN o=true->(∀it,it=o->(Instr.range t (ρ x)).run P R.w= .ok (.pointer (some ⟨R.w.heap.size,0,none⟩)) {R.w with heap:=R.w.heap.push it})->JP R G h (.mit h.length) (h++[.gob (.mapIt ka n L (fun _=>[]) fun _=>([],[]))]) ((do let z<-Instr.range t (ρ x);pure (Next.value z):Sem Next).run P R.w):=by
   intro o ho hk aw;obtain⟨A,hw,hm,U,H',bg,S⟩:=H.alloc (.gob (.mapIt ka n L (fun _=>[]) fun _=>([],[]))) o (fun A=>⟨rfl,fun b hp=>hp.symm,fun b o n=>Iff.rfl⟩) (fun A S U hh=>⟨o,by rw[U];exact hh,hk,by rw[U];exact ho A S⟩);refine JP.ofValue ⟨.pointer (some ⟨R.w.heap.size,0,none⟩),A,?_,H',bg,S,?_⟩
   ·rw[hw];exact aw o rfl
   have:=VR.mit (R:=A) h.length (by rw[hm,H.len];omega) (by rw[H.len,U]);rw[H.len,U]at this;rw[H.len];exact this
  show JP R G h _ _ ((do let z<-Instr.range t (ρ x);pure (Next.value z):Sem Next).run P R.w);generalize ρ x=u at hx al|-;cases hx with
  |pure _ _ hp=>
   cases hp with
   |imap _ _ _ b es ae h1 h2 h3=>
    obtain⟨l,hl⟩:=h2;refine al (.mapIter (some b) ae #[] ae) (fun A S=>.inr ⟨b,es,ae, #[],l,rfl,S.keepM b h3 es ae h1,S.ok _ _ _ h3,hl,fun p hp=>by simp,fun az=>absurd rfl az⟩) rfl fun it ak=>?_;have bc:(getObj b).run P R.w= .ok (.map es ae) R.w:=by simp[getObj,Sem.run,h1]
    subst ak;simp[Instr.range,Zu hu,bc]
   |imap0 _ _ _ h0=>
    refine al (.mapIter none 0 #[] 0) (fun A S=>.inl ⟨h0,rfl, #[],rfl⟩) rfl fun it ak=>?_;subst ak;simp[Instr.range,Zu hu]
 |lookup t m k ok=>simp[evE]at hv
 |call cl=>
  obtain⟨ao,ab,I⟩:=cl;cases ao with
  |builtin b=>
   cases b with
   |append=>
    simp only[evE]at hv;split at hv;case h_2=>cases hv
    rename_i x y t t' V ht;have aa:ab= #[x,y]:=by
     obtain⟨l⟩:=ab;simp only at V;rw[V]
    subst aa;have h0:I[0]? =some t:=by rw[<-bN,ht];rfl
    have h1:I[1]? =some t':=by rw[<-bN,ht];rfl
    have e:(#[x,y]:Array Operand).map ρ= #[ρ x,ρ y]:=by simp
    refine JP.ofValue (s:=Builtin.append_ I ty ((#[x,y]:Array Operand).map ρ)) ?_;rw[e];exact Zl3 H (ty:=ty) (Y x (by simp[bD,Call.operands])) (Y y (by simp[bD,Call.operands])) h0 h1 hv hc
   |copy=>
    simp only[evE]at hv;split at hv;case h_2=>cases hv
    rename_i x y t r V ht;have aa:ab= #[x,y]:=by
     obtain⟨l⟩:=ab;simp only at V;rw[V]
    subst aa;have h0:I[0]? =some t:=by rw[<-bN,ht];rfl
    split at hv;case h_2=>cases hv
    rename_i el hu;split at hv;case h_2=>cases hv
    rename_i J hJ;obtain⟨j,d,hj,_,hs,_,_,_⟩:=Xu hJ;rw[hs]at hv;have e:(#[x,y]:Array Operand).map ρ= #[ρ x,ρ y]:=by simp
    refine JP.ofValue (s:=Builtin.copy_ I ty ((#[x,y]:Array Operand).map ρ)) ?_;rw[e];exact ZsX h0 hu hj H (Y x (by simp[bD,Call.operands])) (Y y (by simp[bD,Call.operands])) hv
   |clear=>
    simp only[evE]at hv;split at hv;case h_2=>cases hv
    rename_i x t r V ht;have aa:ab= #[x]:=by
     obtain⟨l⟩:=ab;simp only at V;rw[V]
    subst aa;have h0:I[0]? =some t:=by rw[<-bN,ht];rfl
    split at hv;case h_2=>cases hv
    rename_i el hu;split at hv;case h_2=>cases hv
    rename_i J hJ;obtain⟨j,d,hj,_,hs,_,hz,_⟩:=Xu hJ;rw[hs,hz]at hv;have e:(#[x]:Array Operand).map ρ= #[ρ x]:=by simp
    refine JP.ofValue (s:=Builtin.clear_ I ty ((#[x]:Array Operand).map ρ)) ?_;rw[e];obtain⟨rfl,u',A,h1,h2,h3,h4⟩:=ZqN h0 hu hj rfl H (ty:=ty) (Y x (by simp[bD,Call.operands])) hv hc;exact⟨u',A,h1,h2,h3,h4,.undef _⟩
   |_=>simp[evE]at hv
  |_=>simp[evE]at hv
 |_=>simp[evE]at hv
end
end Vm
end Go.Proofs.YtjgpiclllehgmaaGreat
