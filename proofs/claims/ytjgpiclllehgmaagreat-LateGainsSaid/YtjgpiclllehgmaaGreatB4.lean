/- Lemmas. -/
import Derived.Test.YtjgpiclllehgmaaGreatB0
import Derived.Test.YtjgpiclllehgmaaGreatB3
import Derived.Test.YtjgpiclllehgmaaGreatB1
import Derived.Test.YtjgpiclllehgmaaGreatB2
set_option linter.all false
open Bool renaming and_eq_true->aS,false_ne_true->aO
open Decidable renaming of_not_not->bO
open Int renaming le_refl->bR,max_def->iM,toNat_natCast->aW,toNat_of_nonneg->f9
open List renaming all_eq_true->bM,any_eq_true->dY,flatMap_map->io,foldl_cons->dR,getD_eq_getElem?_getD->aA,getElem?_eq_getElem->aC,getElem?_eq_none->cD,getElem?_eq_some_iff->aE,getElem?_map->aP,getElem?_range->cV,getElem?_set->bQ,getElem?_set_ne->cQ,getElem?_set_self->cS,getElem_map->fw,getElem_mem->bL,length->fA,length_append->bf,length_map->bA,length_range->cZ,length_set->bW,map->eN,map_append->dD,map_congr_left->fD,map_map->fp,mem_append->cK,mem_cons->bG,mem_cons_of_mem->aR,mem_cons_self->aU,mem_map->bE,mem_of_getElem?->aZ,mem_range->bZ,mem_singleton->aN,not_mem_nil->dM,range->aT,range_succ->eL
open List.cons renaming injEq->cB
open Nat renaming le_refl->aJ,le_succ->eF,le_trans->cF,lt_irrefl->dJ
open Option renaming isSome_iff_exists->dW,map_eq_some_iff->aG
open Prod renaming ext->iK
open Prod.mk renaming injEq->aK
open Go.Proofs.Tryz renaming prog->aB
namespace Go.Proofs.YtjgpiclllehgmaaGreat
namespace Vm
open Go Go.Proofs
set_option maxRecDepth 100000
section
variable {n k:Nat}
theorem ZC.nsub {id:Nat} {e l G A:Unit->Int} (Y:e ()=G ()) (Z:l ()=A ()):ZC n k (.nsub id e l) (.nsub id G A):=⟨λR v _ hv=>by
 cases hv with
 |pure _ _ H=>cases H
 |nsub _ _ _ a S c I i h U h2 V J=>exact .nsub id G A a S c I i h U (by omega) V ⟨by omega,J.2⟩⟩
theorem ZM.vgar {s:Nat} {m m':Unit->Int} {f H:(Unit->Int)->List AV} (hm:m ()=m' ()) (U:∀i:Nat,(i:Int)<m ()->Yz n k (f λ_=>(i:Int)) (H λ_=>(i:Int))):ZM n k (.vgar s m f) (.vgar s m' H):=
 ⟨λR id hN ⟨h1,h2⟩=>by
  refine⟨h1.trans hm,?_⟩;rcases h2 with⟨Y,A⟩|⟨b,o,len,I,arr,ty,Y,A,g3,S,V,G⟩
  ·exact .inl ⟨by omega,A⟩
  refine .inr ⟨b,o,len,I,arr,ty,by omega,A,g3,S,V,λi J=>?_⟩;have hw:=U i (by omega);refine⟨by rw[<-hw.len];exact(G i J).1,λj c hj=>?_⟩;obtain⟨a,Z,e2⟩:=hw.get hj
  exact e2.f R _ hN ((G i J).2 j a Z),λ_ _ _=>Iff.rfl,λ_ _ _ _ _=>Iff.rfl,rfl⟩
theorem ZM.fam {z s:Nat} {N I:Unit->Int} {m m':(Unit->Int)->Unit->Int} {g g':(Unit->Int)->(Unit->Int)->List AV} (J:N ()=I ()) (hm:∀i:Nat,(i:Int)<N ()->m (λ_=>(i:Int)) ()=m' (λ_=>(i:Int)) ())
  (H:∀i:Nat,(i:Int)<N ()->∀j:Nat,(j:Int)<m (λ_=>(i:Int)) ()->g (λ_=>(i:Int)) (λ_=>(j:Int))=g' (λ_=>(i:Int)) λ_=>(j:Int)):ZM n k (.fam z s N m g) (.fam z s I m' g'):=
 ⟨λR id _ ⟨U,Z,us,S,h3,Y,h5⟩=>⟨U,Z.trans J,us,S,J.symm.trans h3,λi v hv=>by
  have aa:=(Array.getElem?_eq_some_iff.1 hv).1;have A:(i:Int)<N ():=by omega
  refine(Y i v hv).cong (hm i A).symm (λj G=>by rw[H i A j G]) λj G c q V=>⟨q,by rw[H i A j G];exact V,λ_ h=>h⟩,h5⟩,λ_ _ _=>Iff.rfl,λ_ _ _ _ _=>Iff.rfl,rfl⟩
end
theorem ZM.famZ {n k z A s:Nat} (I:z<=A) {N:Unit->Int} {m:(Unit->Int)->Unit->Int} {g:(Unit->Int)->(Unit->Int)->List AV}:ZM n k (.fam z s N m g) (.fam A s N m g):=⟨λR id _ ⟨H,G⟩=>⟨cF H I,G⟩,λ_ _ _=>Iff.rfl,λ_ _ _ _ _=>Iff.rfl,rfl⟩
theorem ZM.dead {n k s:Nat} {m:Unit->Int} {f:(Unit->Int)->List AV}:ZM n k (.fro s m f) .dead:=⟨λ_ _ _ _=>trivial,λ_ _ _=>Iff.rfl,λ_ _ _ _ _=>Iff.rfl,rfl⟩
theorem ZM.vgar0 {n k s:Nat} {m m':Unit->Int} {f A:(Unit->Int)->List AV} (I:m ()=0) (G:m' ()=0):ZM n k (.vgar s m f) (.vgar s m' A):=.vgar (by omega) λi H=>by omega
theorem ZM.fam0 {n k z s:Nat} {N A:Unit->Int} {m m':(Unit->Int)->Unit->Int} {g g':(Unit->Int)->(Unit->Int)->List AV} (I:N ()=0) (H:A ()=0):ZM n k (.fam z s N m g) (.fam z s A m' g'):=.fam (by omega) (λi G=>by omega) λi G=>by omega
def Zca (z G A:Nat):List Zi:=[.vgar G (λ_=>0) (λ_=>[]),.fam z A (λ_=>0) (λ_ _=>0) (λ_ _=>[])]
theorem HR.nest {G:Nat->Nat->Nat->Prop} {R:RC} {h:List Zi} (H:HR G R h) (I S:Nat):
  ∃A,A.w=R.w/\HR G A (h++Zca h.length I S)/\Xs R h A (h++Zca h.length I S)/\R.le A/\ZrB A h.length 1:=by
 have e2:h++Zca h.length I S=(h++[.vgar I (λ_=>0) (λ_=>[])])++[.fam h.length S (λ_=>0) (λ_ _=>0) (λ_ _=>[])]:=by simp[Zca]
 have ae:∀i x,(h++[Zi.vgar I (λ_=>0) (λ_=>[])])[i]? =some x->(i=R.m/\x= .vgar I (λ_=>0) (λ_=>[]))\/(i≠R.m/\h[i]? =some x):=λi x J=>by
  rcases QD J with J|⟨rfl,rfl⟩
  ·exact .inr ⟨λe=>by have:=(aE.1 J).1;rw[H.len]at this;omega,J⟩
  exact .inl ⟨H.len,rfl⟩
 have ab:∀A:RC,A.hv R.m= .slice none 0 0->∀b,¬ZE A R.m (.vgar I (λ_=>0) (λ_=>[])) b:=λA hv b U=>by
  obtain⟨a,n,c,Y,_⟩:=U;rw[hv]at Y;cases Y
 obtain⟨R1,a1,a2,a3,a4,a5,a6,a7,_⟩:=H.room R.m (R.m+1) (.vgar I (λ_=>0) (λ_=>[])) 0 (.slice none 0 0) R.w (h++[.vgar I (λ_=>0) (λ_=>[])]) (by rw[bf,H.len];rfl) (eF _) ae (λhi=>absurd hi (dJ _)) (λ_=>False)
  (λb=>⟨λh=>h.elim,λh=>absurd h.1 (dJ _)⟩) rfl rfl rfl (aJ _) (λ_ _ _=>rfl) (λ_ _ _ _ _ _=>rfl)
  (λA _ _ Z aa _=>⟨Z,.inl ⟨rfl,none,aa⟩⟩)
  (λA hv _ b U=>absurd U (ab A hv b))
  (λA hv b o n _=>ab A hv b) rfl
 have ac:∀i x,((h++[Zi.vgar I (λ_=>0) (λ_=>[])])++[Zi.fam h.length S (λ_=>0) (λ_ _=>0) (λ_ _=>[])])[i]? =some x->(i=R1.m/\x= .fam h.length S (λ_=>0) (λ_ _=>0) (λ_ _=>[]))\/(i≠R1.m/\(h++[Zi.vgar I (λ_=>0) (λ_=>[])])[i]? =some x):=λi x J=>by
  rcases QD J with J|⟨rfl,rfl⟩
  ·exact .inr ⟨λe=>by have:=(aE.1 J).1;rw[a5.len]at this;omega,J⟩
  exact .inl ⟨a5.len,rfl⟩
 have V:∀A:RC,A.hv R1.m= .tuple #[]->∀b,¬ZE A R1.m (.fam h.length S (λ_=>0) (λ_ _=>0) (λ_ _=>[])) b:=λA hv b U=>by
  obtain⟨us,Y,i,v,h2,_⟩:=U;rw[hv]at Y;cases Y;simp at h2
 obtain⟨R2,b1,b2,b3,b4,b5,b6,b7,_⟩:=a5.room R1.m (R1.m+1) (.fam h.length S (λ_=>0) (λ_ _=>0) (λ_ _=>[])) 0 (.tuple #[]) R1.w _ (by rw[bf,a5.len];rfl) (eF _) ac (λhi=>absurd hi (dJ _)) (λ_=>False)
  (λb=>⟨λh=>h.elim,λh=>absurd h.1 (dJ _)⟩) rfl rfl rfl (aJ _) (λ_ _ _=>rfl) (λ_ _ _ _ _ _=>rfl)
  (λA _ _ Z aa hl=>⟨by rw[hl.1,a6.n0,H.len];exact H.n0m,Z, #[],aa,rfl,λi v hv=>by simp at hv,λi j v v' b _ hv=>by simp at hv⟩)
  (λA hv _ b U=>absurd U (V A hv b))
  (λA hv b o n _=>V A hv b) rfl
 rw[e2];refine⟨R2,b1.trans a1,b5,a6.trans b6,a7.trans b7,λid Y h2=>?_⟩;have ah:id=R.m:=by rw[<-H.len];omega
 subst ah;obtain⟨hb,_⟩:=b5.blk R.m (.vgar I (λ_=>0) (λ_=>[])) (by rw[List.getElem?_append_left (by simp[H.len]),List.getElem?_append_right (by rw[H.len];exact aJ _),H.len,Nat.sub_self];rfl);refine⟨by omega,hb,?_⟩;rw[(b7.tk R.m (by omega)).2 (by rw[a4,hb])];exact a3
theorem To.nest (J U:Nat) {s s₂:List AV} {h h₂:List Zi} (Y:Yz h.length 1 s s₂/\Zeb h.length 1 (h++Zca h.length J U) h₂):To s h s₂ h₂:=λG R t H A=>by
 obtain⟨Z,V⟩:=Y;obtain⟨S,a1,a2,a3,I,a6⟩:=HR.nest H J U;refine⟨S,a1,a2.wk a6 V,a3.wk V,I,by rw[<-Z.len];exact A.1,λi b hi=>?_⟩;obtain⟨a,h1,h2⟩:=Z.get hi;exact h2.f S _ a6 ((A.2 i a h1).mono I)
def Zft (q A:Nat) (g:(Unit->Int)->(Unit->Int)->List AV):AV->AV
 |.nsub id e l=>if ZK id q then .isl A l (g e) .none else .nsub id e l
 |c=>purify c
def ZnF (h:List Zi):Nat->AV->AV
 |0,a=>a
 |k+1,a=>(match a with
  |.gsl id n=>(match h[id]? with
   |some (.fro s m f)=>.gd (λ_=>decide (n ()=m ())) (.isl s m f .none)
   |_=>.gsl id n)
  |.agg cs=>.agg (cs.map (ZnF h k))
  |a=>a)
def ZjW (h:List Zi):Zi->Zi
 |.cells cs=>.cells (cs.map (ZnF h 3))
 |b=>b
theorem ZmK {G:Nat->Nat->Nat->Prop} {R:RC} {h:List Zi} (H:HR G R h):∀(k:Nat) {a:AV} {u:Value},VR R a u->VR R (ZnF h k a) u:=by
 intro k;induction k with
 |zero=>intro a u hv;exact hv
 |succ k Y=>
  intro a u hv;unfold ZnF;split
  ·split
   ·rename_i id n _ s m f hb;cases hv with
    |pure _ _ J=>cases J
    |gsl _ _ a l c aa hn Z _=>
     refine .gd _ _ _ λA=>?_;have A:=iU A;obtain⟨U,h1⟩:=H.blk id _ hb;rw[Z (by rw[A,U])];exact .pure _ _ h1
   exact hv
  ·obtain⟨S,rfl,V,hr⟩:=hv.agg_inv;refine .agg _ S (by simpa using V) λj c I=>?_;rw[aP,aG]at I;obtain⟨x,hx,rfl⟩:=I;exact Y (hr j x hx)
  exact hv
theorem ZfJ {R:RC} {h:List Zi} {id:Nat} {blk:Zi} {b:Nat}:ZE R id (ZjW h blk) b↔ZE R id blk b:=by cases blk<;>exact Iff.rfl
theorem ZmL {R:RC} {h:List Zi} {id:Nat} {blk:Zi} {b o m:Nat}:Qo R id (ZjW h blk) b o m↔Qo R id blk b o m:=by cases blk<;>exact Iff.rfl
theorem ZsK {h:List Zi} {blk:Zi}:Zaz (ZjW h blk)=Zaz blk:=by cases blk<;>rfl
theorem To.rsv (s:List AV) (h:List Zi):To s h (s.map (ZnF h 4)) (h.map (ZjW h)):=λG R t H hs=>by
 have I:∀ {i x},(h.map (ZjW h))[i]? =some x->∃y,h[i]? =some y/\x=ZjW h y:=λA=>by
  rw[aP,aG]at A;obtain⟨y,J,e⟩:=A;exact⟨y,J,e.symm⟩
 refine⟨R,rfl,⟨by rw[bA];exact H.len,λb o m=>?_,λid x A=>?_,λi j bi bj b aa U V S ab=>?_,H.cl,H.fresh,λid x b A hk S o m=>?_,H.n0m⟩,⟨rfl,rfl,rfl,rfl,aJ _,aJ _,λ_ _=>rfl,λ_ _ _ h=>h,λ_ _ _ _ _ _=>rfl,λ_ _ _=>rfl,λid x b A S=>?_⟩,RC.le.refl _,?_⟩
 ·rw[H.okd];refine and_congr_right λ_=>and_congr_right λ_=>⟨λY id x A=>?_,λY id x A=>?_⟩
  ·obtain⟨y,J,rfl⟩:=I A;exact ZmL.2 (Y id y J)
  exact ZmL.1 (Y id (ZjW h x) (by rw[aP,A];rfl))
 ·obtain⟨y,J,rfl⟩:=I A;have hb:=H.blk id y J;cases y with
  |cells cs=>
   obtain⟨arr,ty,h1,h2,h3⟩:=hb;refine⟨arr,ty,h1,by rw[bA];exact h2,λj c V=>?_⟩;rw[aP,aG]at V;obtain⟨c0,Z,rfl⟩:=V;exact ZmK H 3 (h3 j c0 Z)
  |_=>exact hb
 ·obtain⟨y,J,rfl⟩:=I U;obtain⟨y',ac,rfl⟩:=I V;exact H.dis i j y y' b aa J ac (ZfJ.1 S) (ZfJ.1 ab)
 ·obtain⟨y,J,rfl⟩:=I A;exact H.tokG id y b J (ZsK▸hk) (ZfJ.1 S) o m
 ·obtain⟨y,J,rfl⟩:=I A;exact .inr ⟨id,y,J,ZfJ.1 S,.inl rfl⟩
 refine⟨by rw[bA];exact hs.1,λi a U=>?_⟩;rw[aP,aG]at U;obtain⟨x,A,rfl⟩:=U;exact ZmK H 4 (hs.2 i x A)
theorem To.freezeV {s:List AV} {h:List Zi} {q z sv V:Nat} {n N:Unit->Int} {f:(Unit->Int)->List AV} {m:(Unit->Int)->Unit->Int} {g:(Unit->Int)->(Unit->Int)->List AV} (hq:h[q]? =some (.vgar sv n f)) (hf:h[q+1]? =some (.fam z V N m g))
  (au:∀i:Nat,(i:Int)<n ()->∀(c:AV),c∈(f λ_=>(i:Int))->∀e l,c= .nsub (q+1) e l->l ()=m e ())
  (I:∀i:Nat,(i:Int)<n ()->((f λ_=>(i:Int)).map (Zft (q+1) V g)).all XY=true):
  To s h s ((h.set (q+1) .dead).set q (.fro sv n λe=>(f e).map (Zft (q+1) V g))):=λG R t H hs=>by
 let F:Zi:=.fro sv n λe=>(f e).map (Zft (q+1) V g);let h':=(h.set (q+1) .dead).set q F;let S:RC:={R with ok:=λb o k=>b<R.w.heap.size/\G b o k/\Zdb R h' b o k};have Y:∀ {j x},h'[j]? =some x->(j=q/\x=F)\/(j=q+1/\x= .dead)\/(j≠q/\j≠q+1/\h[j]? =some x):=λ{j x} A=>by
  rcases set_get A with⟨U,J⟩|⟨U,A⟩
  ·exact .inl ⟨U,J⟩
  rcases set_get A with⟨J,h3⟩|⟨J,h3⟩
  ·exact .inr (.inl ⟨J,h3⟩)
  exact .inr (.inr ⟨U,J,h3⟩)
 have ae:∀b o k,R.ok b o k->S.ok b o k:=λb o k hk=>by
  obtain⟨U,J,h3⟩:=(H.okd _ _ _).1 hk;refine⟨U,J,λj x A=>?_⟩;rcases Y A with⟨rfl,rfl⟩|⟨rfl,rfl⟩|⟨_,_,A⟩
  ·exact λh=>h
  ·exact λh=>h
  exact h3 j x A
 have ak:R.le S:=⟨aJ _,λ_ _=>rfl,λ_ _=>⟨bR _,λ_=>rfl⟩,λ_ _=>.refl _,ae,λ_ _ _ _ _ _=>rfl,λ_ _ _ _ h=>h,rfl⟩;have ab:∀ {j x b},h'[j]? =some x->ZE S j x b->j≠q/\j≠q+1/\h[j]? =some x/\ZE R j x b:=λ{j x b} A I=>by
  rcases Y A with⟨rfl,rfl⟩|⟨rfl,rfl⟩|⟨U,J,A⟩
  ·exact I.elim
  ·exact I.elim
  exact⟨U,J,A,(ZE.congr (R:=R) rfl rfl).1 I⟩
 have aa:∀(id:Nat) (blk:Zi) (b:Nat),(id=q\/id=q+1)->h[id]? =some blk->Zaz blk=true->ZE R id blk b->∀o k,S.ok b o k:=λid blk b ah hb be ai o k=>by
  refine⟨H.phys_lt hb ai,H.tokG _ _ _ hb be ai _ _,λi x A=>?_⟩;rcases Y A with⟨rfl,rfl⟩|⟨rfl,rfl⟩|⟨U,J,A⟩
  ·exact λh=>h
  ·exact λh=>h
  exact J0 λZ=>H.dis _ _ _ _ b (λe=>by rcases ah with rfl|rfl;exact U e.symm;exact J e.symm) hb A ai Z
 obtain⟨bm,aw⟩:=H.blk _ _ hq;obtain⟨_,bq,us,ao,hN,aq,_⟩:=H.blk _ _ hf;refine⟨S,rfl,⟨by show h'.length=_;simp only[h',bW];exact H.len,λ_ _ _=>Iff.rfl,λj x A=>?_,λi j bi bj b bg hi hj I Z=>?_,H.cl,H.fresh,λj x b A hk I o k=>?_,H.n0m⟩,⟨rfl,rfl,rfl,rfl,aJ _,aJ _,λ_ _=>rfl,ae,λ_ _ _ _ _ _=>rfl,λ_ _ _=>rfl,λj x b A I=>?_⟩,ak,hs.mono ak⟩
 ·rcases Y A with⟨rfl,rfl⟩|⟨rfl,rfl⟩|⟨_,_,A⟩
  ·refine⟨bm,?_⟩;refine J4.isl (ok:=S.ok) (w:=S.w) ?_ λb hb o k=>aa j _ b (.inl rfl) hq rfl hb o k;rcases aw with⟨g1,g2⟩|⟨b,o,len,bk,arr,ty,g1,g2,g3,g4,g5,g6⟩
   ·exact .inl ⟨g1,g2⟩
   refine .inr ⟨b,o,len,bk,arr,ty,g1,g2,g3,g4,g5,λi hi=>⟨by rw[bA];exact(g6 i hi).1,λjj c hj=>?_⟩⟩;have bc:=I i (by omega);have ba:c∈((f λ_=>(i:Int)).map (Zft (j+1) V g)):=aZ hj;have ac:=bM.1 bc c ba;rw[aP,aG]at hj;obtain⟨c0,al,rfl⟩:=hj;have aj:=(g6 i hi).2 jj c0 al;have ar:=au i (by omega) c0 (aZ al);generalize arr.getD (o+i*sv+jj) undef=u at aj;have other:Zft (j+1) V g c0=purify c0->PR S.w S.ok (Zft (j+1) V g c0) u:=λe=>by
    rw[e]at ac|-;exact(aj.purify ac).mono ae (λ_ _ _ _ _ _=>rfl) λ_ _ _ _ h=>h
   cases c0 with
   |nsub id e l=>
    by_cases ah:id=j+1
    ·subst ah;have e1:Zft (j+1) V g (.nsub (j+1) e l)= .isl V l (g e) .none:=by simp[Zft,ZK]
     rw[e1];have a9:=ar e l rfl;cases aj with
     |pure _ _ I=>cases I
     |nsub _ _ _ a ll c bp i' bo am bl ap bt=>
      rw[ao]at am;cases am;have bh:e=λ_=>(i':Int):=funext λ_=>bl;subst bh;have U:=aq i' _ ap;have J:J4 (PR S.w S.ok) S.w V l (g λ_=>(i':Int)) (.slice a ll c):=(U.mono (λ_ _ h=>h.mono ae (λ_ _ _ _ _ _=>rfl) λ_ _ _ _ h=>h) (λ_ _=>rfl)).cong a9 (λ_ _=>rfl) λ_ _ _ c hc=>⟨c,hc,λ_ h=>h⟩;exact J.isl λb hb o k=>aa (j+1) _ b (.inr rfl) hf rfl ⟨us,ao,i',_,ap,hb⟩ o k
    have e1:Zft (j+1) V g (.nsub id e l)= .nsub id e l:=by simp[Zft,ZK,ah]
    rw[e1]at ac;cases ac
   |_=>exact other rfl
  ·trivial
  exact(H.blk j x A).mono ak rfl rfl rfl rfl (λ_ _=>rfl)
 ·obtain⟨_,_,A,I⟩:=ab hi I;obtain⟨_,_,az,Z⟩:=ab hj Z;exact H.dis i j bi bj b bg A az I Z
 ·obtain⟨_,_,A,I⟩:=ab A I;exact H.tokG j x b A hk I o k
 obtain⟨_,_,A,I⟩:=ab A I;exact .inr ⟨j,x,A,I,.inl rfl⟩
theorem To.frozeV {s:List AV} {h:List Zi} {q z H A:Nat} {n N:Unit->Int} {f:(Unit->Int)->List AV} {m:(Unit->Int)->Unit->Int} {g:(Unit->Int)->(Unit->Int)->List AV} (S:h[q]? =some (.vgar H n f)) (J:h[q+1]? =some (.fam z A N m g))
  (G:∀i:Nat,(i:Int)<n ()->∀(c:AV),c∈(f λ_=>(i:Int))->∀e l,c= .nsub (q+1) e l->l ()=m e ())
  (I:∀i:Nat,(i:Int)<n ()->((f λ_=>(i:Int)).map (Zft (q+1) A g)).all XY=true) {h':List Zi} (U:h'=(h.set (q+1) .dead).set q (.fro H n λe=>(f e).map (Zft (q+1) A g))):
  To s h (s.map (ZnF h' 4)) (h'.map (ZjW h')):=by
 subst U;exact(To.freezeV S J G I).trans (To.rsv _ _)
def tbN (rs:Bool) (cs:List Nat) (ks:List Nat):Tb:={tb with kp:=true,rs,cuts:=cs,gr:=true,ks:=some ks}
theorem hTN (rs:Bool) (cs:List Nat) (ks:List Nat):(tbN rs cs ks).Of ((λ_=>aB:Unit->Program) ()):=⟨Zbi,Zbh,Zbj⟩
theorem ZwV (rs:Bool) (cs:List Nat) (ks:List Nat) {f:FuncId} {fn:Func} {body:Code} (G:aB.funcs[f]? =some fn) (H:fn.body=some body) (I:(fn.name== "runtime.NumGoroutine")=false) {xs:List AV} {h:List Zi} {A:AV->List Zi->Prop}
  (hW:Dn (tbN rs cs ks) (λ_=>aB) (Zfw (tbN rs cs ks) fn.results.toList h.length A) 100 .none [.code body] (entry fn.ntmps xs) h []) (J:zOk h=true:=by rfl):SC (λ_=>aB) f xs h A:=SC.ofD (T:=tbN rs cs ks) (hTN rs cs ks) hm G H I J (λh=>by cases h) hW
theorem Zkd (rs:Bool) (cs:List Nat) {x:Code} {Q:Ex->List AV->List Zi->Prop} {s:List AV} {h:List Zi} {ι:Type} (L:List Nat) (ex:List Zi) (ch:ι->List (Nat×AV)) (A:ι->List (Nat×Zi)) (inv:ι->Prop) (H:ι->Nat) (i:ι)
  (hi:inv i) (G:To (Vm.keep L s) h (Jj (Vm.keep L s) (ch i)) (Yx (h++ex) (A i)))
  (step:∀i,inv i->Dn (tbN rs cs []) (λ_=>aB) (ZfD L (λi=>Jj (Vm.keep L s) (ch i)) (λi=>Yx (h++ex) (A i)) inv H i (h++ex).length Q) 100 .none [.code x] (Jj (Vm.keep L s) (ch i)) (Yx (h++ex) (A i)) []):LP false (λ_=>aB) x Q s h:=
 LP.indD (T:=tbN rs cs []) (hTN rs cs []) hm rfl L (λi=>Jj (Vm.keep L s) (ch i)) (λi=>Yx (h++ex) (A i)) inv H i (h++ex).length (λ_=>Zb5 _ _) hi G step
theorem Zvf (rs:Bool) (cs:List Nat) {x:Code} {Q:Ex->List AV->List Zi->Prop} {s s₂:List AV} {h h₂:List Zi} (A:To s h s₂ h₂) (H:LP false (λ_=>aB) x Q s₂ h₂):LP false (λ_=>aB) x Q s h:=LP.to A H
section
variable {n k:Nat} {nt:(α:Type)->α->List α->Int->α} (O:∀(α:Type) (d:α) (l:List α) (i:Int),nt α d l i=l.getD i.toNat d)
include O
theorem ZM.snocVT {α:Type} {d:α} {encV:α->(Unit->Int)->List AV} {l:List α} {x:α} {s:Nat} {n0 m':Unit->Int} {row:List AV} {T:AV->AV} (hT:∀(x:α) e,(encV x e).map T=encV x e) (G:n0 ()=(l.length:Int)) (hm:m' ()=(l.length:Int)+1) (A:Yz n k (row.map T) (encV x λ_=>(l.length:Int))):
  ZM n k (.vgar s m' λe=>(Z2 n0 (λe=>encV (nt α d l (e ())) e) (λ_=>row) e).map T) (.vgar s (λ_=>((l++[x]).length:Int)) λe=>encV (nt α d (l++[x]) (e ())) e):=
 .vgar (by rw[hm];simp) λi H=>by
  rw[hm]at H;by_cases h:i<l.length
  ·rw[Q6 G h];have e:nt α d (l++[x]) (i:Int)=nt α d l (i:Int):=by rw[Zlx O,iQ h]
   simp only[e,hT];exact Yz.refl _
  obtain rfl:i=l.length:=by omega
  rw[QG G (aJ _)];have e:nt α d (l++[x]) (l.length:Int)=x:=by rw[O];simp
  simp only[e];exact A
theorem ZM.snocM {α A:Type} {d:α} {dβ:A} {enc:A->List AV} {inner:α->List A} {l:List α} {x:α} {z s:Nat} {N U G:Unit->Int} {J:(Unit->Int)->List AV} (h0:N ()=(l.length:Int)) (hm:U ()=(l.length:Int)+1) (Z:G ()=((inner x).length:Int))
  (Y:∀j:Nat,j<(inner x).length->J (λ_=>(j:Int))=enc (nt A dβ (inner x) (j:Int))):
  ZM n k (.fam z s U (ZbD N (λe _=>((inner (nt α d l (e ()))).length:Int)) G) (Jc N (λe q=>enc (nt A dβ (inner (nt α d l (e ()))) (q ()))) J))
   (.fam z s (λ_=>((l++[x]).length:Int)) (λe _=>((inner (nt α d (l++[x]) (e ()))).length:Int)) λe q=>enc (nt A dβ (inner (nt α d (l++[x]) (e ()))) (q ()))):=by
 have S:∀i:Nat,(i:Int)<U ()->(i<l.length/\nt α d (l++[x]) (i:Int)=nt α d l (i:Int))\/(i=l.length/\nt α d (l++[x]) (i:Int)=x):=λi I=>by
  rw[hm]at I;by_cases h:i<l.length
  ·exact .inl ⟨h,by rw[Zlx O,iQ h]⟩
  obtain rfl:i=l.length:=by omega
  exact .inr ⟨rfl,by rw[O];simp⟩
 refine .fam (by rw[hm];simp) (λi I=>?_) λi I j H=>?_
 ·rcases S i I with⟨h,e⟩|⟨h,e⟩
  ·show(bif decide ((i:Int)<N ())then((inner (nt α d l (i:Int))).length:Int)else G ())=((inner (nt α d (l++[x]) (i:Int))).length:Int);rw[iX (by omega),e];rfl
  show(bif decide ((i:Int)<N ())then((inner (nt α d l (i:Int))).length:Int)else G ())=((inner (nt α d (l++[x]) (i:Int))).length:Int);rw[iW (by omega),e];exact Z
 rcases S i I with⟨h,e⟩|⟨h,e⟩
 ·show(if(i:Int)<N ()then(λq:Unit->Int=>enc (nt A dβ (inner (nt α d l (i:Int))) (q ())))else J) (λ_=>(j:Int))=enc (nt A dβ (inner (nt α d (l++[x]) (i:Int))) (j:Int));rw[iQ (by omega),e]
 show(if(i:Int)<N ()then(λq:Unit->Int=>enc (nt A dβ (inner (nt α d l (i:Int))) (q ())))else J) (λ_=>(j:Int))=enc (nt A dβ (inner (nt α d (l++[x]) (i:Int))) (j:Int));have V:j<(inner x).length:=by
  have H:(j:Int)<(bif decide ((i:Int)<N ())then((inner (nt α d l (i:Int))).length:Int)else G ()):=H;rw[iW (by omega)]at H;have H:(j:Int)<G ():=H;omega
 rw[iP (by omega),e];exact Y j V
end
end Vm
namespace Vm
open Go Go.Proofs
theorem ZeV.perm {α:Type} {A:Nat} {V:α->Value->Prop} {es:Array MapEntry} {clk:Nat} {L G:List (List Int×α)} (h:ZeV A V es clk L) (H:L.Perm G):ZeV A V es clk G:=by
 obtain⟨l,h⟩:=h;exact⟨l,{h with L:=h.L.trans H}⟩
theorem ZC.imap {n k A m:Nat} {L G:Unit->List (List Int×List Int)} (h:(L ()).Perm (G ())):ZC n k (.imap A m L) (.imap A m G):=⟨λR v _ hv=>by
 cases hv with
 |pure _ _ I=>
  cases I with
  |imap _ _ _ b es H S J U=>exact .pure _ _ (.imap A m G b es H S (J.perm h) U)
  |imap0 _ _ _ V=>exact .pure _ _ (.imap0 A m G (by rw[V]at h;exact h.nil_eq.symm▸rfl))⟩
theorem YC.frame {p:Unit->Program} {id j:Nat} {xs:List AV} {h:List Zi} {I Q:AV->List Zi->Prop} (l:List Nat) (Z:l.Nodup) (V:∀i∈l,i<h.length) (S:l[j]? =some id) (H:YC p j (xs.map (QE false l h 5)) (sel false l h) Q)
  (hq:∀r J,Q r J->I (ren (Jg l h.length) 5 r) (back l h J)):YC p id xs h I:=
 ⟨λG R vs hr ha=>by
  obtain⟨A,Y,a0,a1,a2,a3,a4,a5,a6,a7,a8⟩:=hr.sel (fz:=false) (ι:=l) (ZtD R h l) (λb o n k=>.inl k) (λb o n o' n' k U h2=>by
    rcases k with k|k|k
    ·exact .inl (hr.sub k U h2)
    ·exact .inr (.inl k)
    exact .inr (.inr k)) (λb o n hb=>.inr (.inl hb)) (λi blk b hi hb hk hp o n=>.inr (.inr ⟨i,blk,hi,hb,hk,hp⟩)) Z V (λhf=>by cases hf) l.length (aJ _) (λhf=>by cases hf)
  have ab:Yf A (xs.map (QE false l h 5)) vs:=⟨by rw[bA];exact ha.1,λj c S=>by
   rw[aP,aG]at S;obtain⟨x,hx,rfl⟩:=S
   exact a8 5 x _ (ha.2 j x hx)⟩
  obtain⟨f,aa,a,x,U,h2⟩:=H.run _ A vs a6 ab;rw[a1,a3 j id S]at U;refine⟨f,aa,a,x,U,λc cs=>?_⟩;obtain⟨v,R',r,h',b1,b3,b4,b5,b6,b7⟩:=h2 c cs;rw[a1,Y,a3 j id S]at b1;obtain⟨ac,c1,c2,c3,c4,c5⟩:=ZgX hr Z V Y a0 a1 a2 a3 a4 a5 a7 b3 b4 b5
  exact⟨v,ac,_,_,by rw[c1];exact b1,c2,c3,c4,c5 5 r v b6,hq r h' b7⟩⟩
theorem YC.frameB {p:Unit->Program} {id j:Nat} {xs J:List AV} {h V h₂ h':List Zi} {b:Bool} {A:AV->List Zi->Prop} (l:List Nat) (U:l.Nodup) (I:∀i∈l,i<h.length) (Z:l[j]? =some id) (hx:xs.map (QE false l h 5)=J) (G:sel false l h=V)
  (H:YC p j J V λv h=>v= .bool (λ_=>b)/\h=h₂) (S:back l h h₂=h') (hP:A (.bool λ_=>b) h'):YC p id xs h A:=
 YC.frame l U I Z (by rw[hx,G];exact H) λr aa Y=>by
  obtain⟨rfl,rfl⟩:=Y;rw[S];exact hP
end Vm
namespace Sp
open Vm
def ZcW (h:Zix):List Int:=[h.comes,h.ready,h.goes]
theorem ZbA {α G:Type} [BEq α] [LawfulBEq α] {k:α} {v:G}:∀ {L:List (α×G)},L.lookup k=some v->(k,v)∈L
 |[],h=>by cases h
 |(a,b)::r,h=>by
  rw[List.lookup_cons]at h;split at h
  ·rename_i A;have A:=eq_of_beq A;subst A;cases h;exact aU ..
  exact aR _ (ZbA h)
theorem Zgj {α:Type} {L:List (List Int×α)} {k:List Int} {d:α} {p:List Int×α} (h:p∈Jz L k d):p=(k,d)\/p∈L:=by
 unfold Jz at h;split at h
 ·obtain⟨q,A,rfl⟩:=bE.1 h;split
  ·exact .inl rfl
  exact .inr A
 rcases cK.1 h with h|h
 ·exact .inr h
 exact .inl (aN.1 h)
theorem Zem {α:Type} {L:List (List Int×α)} {k:List Int} {d:α}:(k,d)∈Jz L k d:=by
 unfold Jz;split
 ·rename_i h;obtain⟨p,A,G⟩:=dY.1 h;exact bE.2 ⟨p,A,iQ G⟩
 exact cK.2 (.inr (aN.2 rfl))
theorem ZhW {α:Type} {L:List (List Int×α)} {k:List Int} {d:α} {p:List Int×α} (h:p∈L) (G:p.1=k->p.2=d):p∈Jz L k d:=by
 unfold Jz;split
 ·refine bE.2 ⟨p,h,?_⟩;split
  ·rename_i A;have A:=eq_of_beq A;rw[<-A,<-G A]
  rfl
 exact cK.2 (.inl h)
theorem Zen {α:Type} {L:List (List Int×α)} {k:List Int} {d:α} (h:(L.map (·.1)).Nodup):((Jz L k d).map (·.1)).Nodup:=by
 unfold Jz;split
 ·rw[fp];have:((λp:List Int×α=>p.1)∘λp=>if p.1==k then(k,d)else p)=λp=>p.1:=by
   funext p;simp only[Function.comp];split
   ·rename_i H;exact(eq_of_beq H).symm
   rfl
  rw[this];exact h
 rename_i J;rw[dD,List.nodup_append];refine⟨h,by simp,λa I b A=>?_⟩;rintro rfl;obtain⟨p,G,rfl⟩:=bE.1 I;have A:=aN.1 A;exact J (dY.2 ⟨p,G,by simpa using A⟩)
structure TmInv (t:Zb) (x:List Int) (C K:List (List Int×List Int)):Prop where
 c:∀p∈C,∃r a,StopIn (callsOf t) r a/\0<a/\p=([r,a],[comes t x r a])
 k:∀p∈K,∃r a,StopIn (callsOf t) r a/\p=([r,a],ZcW (ZR t x r a))
 nd:(K.map (·.1)).Nodup
 ndc:(C.map (·.1)).Nodup
theorem TmInv.cv {t:Zb} {x:List Int} {C K:List (List Int×List Int)} (h:TmInv t x C K) {r a:Int} {v:List Int} (A:C.lookup [r,a]=some v):v=[comes t x r a]:=by
 obtain⟨H,G,_,_,e⟩:=h.c _ (ZbA A);cases e;rfl
theorem TmInv.kv {t:Zb} {x:List Int} {C K:List (List Int×List Int)} (h:TmInv t x C K) {r a:Int} {v:List Int} (A:K.lookup [r,a]=some v):v=ZcW (ZR t x r a):=by
 obtain⟨H,G,_,e⟩:=h.k _ (ZbA A);cases e;rfl
theorem TmInv.putC {t:Zb} {x:List Int} {C K:List (List Int×List Int)} (h:TmInv t x C K) {r a:Int} (H:StopIn (callsOf t) r a) (I:0<a) {v:Int} (hv:comes t x r a=v):TmInv t x (Jz C [r,a] [v]) K/\(Jz C [r,a] [v]).lookup [r,a]=some [v]:=by
 have G:=Zen (k:=[r,a]) (d:=[v]) h.ndc;refine⟨⟨λp A=>?_,h.k,h.nd,G⟩,ZcH G Zem⟩;rcases Zgj A with rfl|A
 ·exact⟨r,a,H,I,by rw[hv]⟩
 exact h.c p A
theorem TmInv.putK {t:Zb} {x:List Int} {C K:List (List Int×List Int)} (h:TmInv t x C K) {r a:Int} (G:StopIn (callsOf t) r a) {v:List Int} (hv:ZcW (ZR t x r a)=v):TmInv t x C (Jz K [r,a] v)/\(∀p∈K,p∈Jz K [r,a] v)/\([r,a],v)∈Jz K [r,a] v:=by
 have H:=Zen (k:=[r,a]) (d:=v) h.nd;refine⟨⟨h.c,λp A=>?_,H,h.ndc⟩,λp A=>ZhW A λe=>?_,Zem⟩
 ·rcases Zgj A with rfl|A
  ·exact⟨r,a,G,by rw[hv]⟩
  exact h.k p A
 obtain⟨I,J,_,rfl⟩:=h.k p A;cases e;exact hv
def ZdA (c:List (List Call)):List (Int×Int):=(aT c.length).flatMap λ(r:Nat)=>(aT (Zm c r).length).map λ(a:Nat)=>((r:Int),(a:Int))
def Qu (t:Zb) (x:List Int):List (List Int×List Int):=(ZdA (callsOf t)).map λs=>([s.1,s.2],ZcW (ZR t x s.1 s.2))
theorem J5 {c:List (List Call)} {r a:Int}:(r,a)∈ZdA c↔StopIn c r a:=by
 unfold ZdA StopIn;simp only[List.mem_flatMap,bE,bZ,aK];constructor
 ·rintro⟨r',h1,a',h2,rfl,rfl⟩;omega
 rintro⟨h1,h2,h3,h4⟩;refine⟨r.toNat,by omega,a.toNat,?_,by omega,by omega⟩;rw[show((r.toNat:Nat):Int)=r by omega];omega
theorem Zb3 {c:List (List Call)}:(ZdA c).Nodup:=by
 unfold ZdA;refine List.pairwise_flatMap.2 ?_;refine⟨λr _=>List.Pairwise.map _ (λa b h e=>?_) List.nodup_range,List.nodup_range.imp λh=>?_⟩
 ·cases e;exact h rfl
 intro a A b G e;obtain⟨_,_,rfl⟩:=bE.1 A;obtain⟨_,_,rfl⟩:=bE.1 G;cases e;exact h rfl
theorem TmInv.perm {t:Zb} {x:List Int} {C K:List (List Int×List Int)} (h:TmInv t x C K) (A:∀r a,StopIn (callsOf t) r a->([r,a],ZcW (ZR t x r a))∈K):K.Perm (Qu t x):=by
 have J:K.Nodup:=List.Pairwise.of_map (λp:List Int×List Int=>p.1) (λa b h e=>h (by rw[e])) h.nd
 have S:(Qu t x).Nodup:=List.Pairwise.map _ (λa b H e=>by
  apply H;simp only[aK,cB,and_true]at e
  exact iK e.1.1 e.1.2) Zb3
 rw[List.perm_iff_count];intro p;rw[J.count,S.count];have:p∈K↔p∈Qu t x:=by
  unfold Qu;rw[bE];constructor
  ·intro I;obtain⟨r,a,G,rfl⟩:=h.k p I;exact⟨(r,a),J5.2 G,rfl⟩
  rintro⟨⟨r,a⟩,G,rfl⟩;exact A r a (J5.1 G)
 simp only[this]
end Sp
namespace Vm
attribute [local irreducible] Dn
open Go Go.Proofs Sp
set_option maxRecDepth 100000
set_option maxHeartbeats 4000000
def tmH (W:List AV) (X:List AV) (C K:List (List Int×List Int)):List Zi:=[.cells [.iptr W 0],.cells X,.gob (.mapL 2 0 λ_=>C),.gob (.mapL 2 3 λ_=>K),.cells [.map 2],.cells [.map 3],
 .cells [.fn 179 [] [.ptr 5 0,.ptr 0 0,.ptr 7 0]],.cells [.fn 177 [] [.ptr 4 0,.ptr 0 0,.ptr 6 0,.ptr 1 0]]]
def Zjy (a b:Int):AV:=.agg [.int .i64 λ_=>a,.int .i64 λ_=>b]
def Zoq (a b c:Int):AV:=.agg [.int .i64 λ_=>a,.int .i64 λ_=>b,.int .i64 λ_=>c]
theorem JJ {A:(α:Type)->α->List α->Int->α} (O:∀(α:Type) (d:α) (l:List α) (i:Int),A α d l i=l.getD i.toNat d) (c:List (List Sp.Call)) (r:Int):Sp.Zm c r=A (List Sp.Call) [] c r:=by rw[O];rfl
theorem Zjs {A:(α:Type)->α->List α->Int->α} (O:∀(α:Type) (d:α) (l:List α) (i:Int),A α d l i=l.getD i.toNat d) (c:List (List Sp.Call)) (r a:Int):Zu c r a=A Sp.Call default (A (List Sp.Call) [] c r) a:=by rw[O,O];rfl
theorem Jy {c:List (List Sp.Call)} (G:YJ c) {r a:Int} (A:StopIn c r a):c.length<=4/\2<=(Sp.Zm c r).length/\(Sp.Zm c r).length<=4:=by
 have:=G.row (Sp.Zm c r) (by
  unfold Sp.Zm;have:r.toNat<c.length:=by have:=A.2.1;have:=A.1;omega
  rw[aA,aC this]
  exact bL _)
 exact⟨G.len,this⟩
theorem cL1 (l:List Nat) {f:FuncId} {xs I:List AV} {h J:List Zi} {G Q:AV->List Zi->Prop} (H:SC (λ_=>aB) f I J Q) (S:∀ r A,Q r A->G (ren (Jg l h.length) 5 r) (back l h A)) (Z:l.Nodup:=by decide) (U:∀ i∈l,i<h.length:=by simp) (Y:xs.map (QE false l h 5)=I:=by first|rfl|(simp only[Ze,Zd,Zf,Zc,Za O];rfl)) (V:sel false l h=J:=by first|rfl|(simp only[Ze,Zd,Zf,Zc,Za O];rfl)):SC (λ_=>aB) f xs h G:=ZP l H Z U Y V S
theorem Zv3 (t:Zb) (x:List Int) (I:Zz t) (hx:JE t x) (n:Int)
  (ih:∀r a C K,StopIn (callsOf t) r a->2*(Zu (callsOf t) r a).depart+1<n->TmInv t x C K->SC (λ_=>aB) 179 [Zjy r a,.ptr 5 0,.ptr 0 0,.ptr 7 0] (tmH (Z1 t) (YB x) C K) λv h=>v=Zoq (ZR t x r a).comes (ZR t x r a).ready (ZR t x r a).goes/\∃J A,TmInv t x J A/\(∀p∈K,p∈A)/\([r,a],ZcW (ZR t x r a))∈A/\h=tmH (Z1 t) (YB x) J A)
  (r a:Int) (C K:List (List Int×List Int)) (G:StopIn (callsOf t) r a) (U:0<a) (hn:2*(Zu (callsOf t) r a).arrive<n+1) (hi:TmInv t x C K):
  SC (λ_=>aB) 177 [Zjy r a,.ptr 4 0,.ptr 0 0,.ptr 6 0,.ptr 1 0] (tmH (Z1 t) (YB x) C K) λv h=>v= .int .i64 (λ_=>comes t x r a)/\∃J A,TmInv t x J A/\(∀p∈K,p∈A)/\h=tmH (Z1 t) (YB x) J A:=by
 obtain⟨nt,O⟩:=Zn;have ak:=I.asc r a G U;have k:=ih r (a-1) C K (G.prev U) (by omega) hi;have k2:=ZxS t x r (a-1) hx I.dlen;have ap:=Zra I x G U;have Y:=Zji I x (G.prev U);have aq:=I.nn r a G;have ao:=I.nn r (a-1) (G.prev U);have am:=ZdZ I x r (a-1);have aj:=λv=> @TmInv.cv t x C K hi r a v;have ac:=λJ A (h:TmInv t x J A) v (e:comes t x r a=v)=>h.putC G U e;have V:=G;unfold StopIn at V;have ae:=Jy I.calls G;have hE:comes t x r a=(ZR t x r (a-1)).goes+(Zu (callsOf t) r a).arrive-(Zu (callsOf t) r (a-1)).depart+Zdq t x r (a-1):=rfl;unfold goes at Y;rw[JJ O]at Y V ae;rw[Zjs O]at*;rw[Zjs O]at*;unfold tmH Zjy Zoq YB at*;unfold Z1 at*;simp only[Za O,Zc]at*;generalize comes t x r a=e at*;generalize ZR t x r (a-1)=H at*;generalize Zdq t x r (a-1)=y at*;generalize al:callsOf t=c at*;refine SC.less (QO Tryz.func177 (body:=Zj Tryz.f177) rfl (by decide+kernel) ?_);refine wS ?_;refine⟨λh0=>?_,λh0=>?_⟩
 ·refine wS ?_;have ab:((C.lookup [r,a]).getD []).headD 0=e:=by
   obtain⟨v,hv⟩:=dW.1 h0;rw[hv,aj v hv];rfl
  refine⟨_,_,?_,rfl,C,K,hi,λp S=>S,rfl⟩;exact ZG
 refine wS ?_;refine cL1 [0,1,2,3,4,5,6,7] (k) λr aa S=>?_;(try simp only[Ze,Zd,Zf,Zc,Za O]at S);obtain⟨rfl,Z,K2,ah,ai,_,rfl⟩:=S;refine wS ?_;refine ZL (k2) (by first|rfl|(simp only[Ze,Zd,Zf,Zc,Za O];rfl)) λr aa S=>?_;(try simp only[Ze,Zd,Zf,Zc,Za O]at S);obtain⟨rfl,rfl⟩:=S;refine wS ?_;rw[<-hE];have q:=ac Z K2 ah e rfl;have ab:((List.lookup [r,a] (Jz Z [r,a] [e])).getD []).headD 0=e:=by rw[q.2];rfl
 refine⟨_,_,?_,rfl,Jz Z [r,a] [e],K2,q.1,ai,rfl⟩;exact ZG
theorem Zv2 (t:Zb) (x:List Int) (I:Zz t) (hx:JE t x) (n:Int)
  (ih:∀r a C K,StopIn (callsOf t) r a->0<a->2*(Zu (callsOf t) r a).arrive<n->TmInv t x C K->SC (λ_=>aB) 177 [Zjy r a,.ptr 4 0,.ptr 0 0,.ptr 6 0,.ptr 1 0] (tmH (Z1 t) (YB x) C K) λv h=>v= .int .i64 (λ_=>comes t x r a)/\∃Y J,TmInv t x Y J/\(∀p∈K,p∈J)/\h=tmH (Z1 t) (YB x) Y J)
  (r a:Int) (C K:List (List Int×List Int)) (hs:StopIn (callsOf t) r a) (hn:2*(Zu (callsOf t) r a).depart+1<n+1) (hi:TmInv t x C K):
  SC (λ_=>aB) 179 [Zjy r a,.ptr 5 0,.ptr 0 0,.ptr 7 0] (tmH (Z1 t) (YB x) C K) λv h=>v=Zoq (ZR t x r a).comes (ZR t x r a).ready (ZR t x r a).goes/\∃Y J,TmInv t x Y J/\(∀p∈K,p∈J)/\([r,a],ZcW (ZR t x r a))∈J/\h=tmH (Z1 t) (YB x) Y J:=by
 obtain⟨nt,O⟩:=Zn;have au:=hs;unfold StopIn at au;have bg:=Jy I.calls hs;have ah:=λv=> @TmInv.kv t x C K hi r a v;have ba:∀v,K.lookup [r,a]=some v->([r,a],v)∈K:=λv h=>ZbA h;have H:=λY J (h:TmInv t x Y J) v (e:ZcW (ZR t x r a)=v)=>h.putK hs e;have bc:=I.nn r a hs;have bh:=λh:0<a=>ih r a C K hs h (by have:=I.nn r a hs;omega) hi;obtain⟨ae,V⟩:∃m,m=if 0<a then comes t x r a else 0:=⟨_,rfl⟩
 obtain⟨rd,ab⟩:∃m,m=Zdg (callsOf t) r a ae:=⟨_,rfl⟩;obtain⟨gf,aj⟩:∃m,m=Za5 t (comes t x) r a rd:=⟨_,rfl⟩;obtain⟨cs,ac⟩:∃m,m=if a=0 then gf else ae:=⟨_,rfl⟩
 have az:ZR t x r a=⟨cs,rd,gf⟩:=by
  rw[ZgR I x hs,ac,aj,ab,V];rfl
 obtain⟨W,hW⟩:∃W:Int->Sp.QR->Int,∀g w,W g w=if a=((Sp.Zm (callsOf t) r).length:Int)-1 then g else JR (callsOf t) (comes t x) r (Zu (callsOf t) r a) g w:=⟨_,λ_ _=>rfl⟩
 have aj:gf=t.waits.foldl W rd:=by
  rw[aj];unfold Za5;split
  ·rename_i hl;have G:∀g w,W g w=g:=λg w=>by rw[hW,iQ hl]
   generalize t.waits=l;induction l with
   |nil=>rfl
   |cons w l ih=>rw[dR,G];exact ih
  rename_i hl;exact Zau _ _ λw _ g=>by rw[hW,iP hl]
 have bt:=I.wlen;have al:=λw (hw:w∈t.waits)=>And.intro (YP I hw) (And.intro (I.w w hw).2.2.1 (And.intro (I.w w hw).2.2.2.1 (I.w w hw).2.2.2.2.1));have ao:=λw (hw:w∈t.waits)=>Jy I.calls (YP I hw);have aq:=λw (hw:w∈t.waits) (G:w.train=r) (h2:w.station=(Zu (callsOf t) r a).station) (h3:a≠((Sp.Zm (callsOf t) r).length:Int)-1) Y J (h:TmInv t x Y J)=>
  ih w.feeder (ZD (Sp.Zm (callsOf t) w.feeder) w.station) Y J (YP I hw) (by have:=(I.w w hw).2.2.1;omega) (by have:=(I.w w hw).2.2.2.2.2 a (by rw[G];exact hs) (by rw[G];exact h3) (by rw[G];exact h2.symm);rw[G]at this;omega) h
 unfold Zdg at ab;unfold JR at hW;unfold StopIn at al;rw[az]at ah H|-;unfold ZcW at ah H|-;dsimp only at ah H|-;simp only[JJ O,Zjs O]at au bg bc ab hW al ao aq;unfold tmH Zjy Zoq YB at*;unfold Z1 at*;simp only[Za O,Zc]at*;generalize bu:callsOf t=c at*;refine SC.less (Zg3 false false [8,11] Tryz.func179 (body:=Zj Tryz.f179) rfl (by decide+kernel) ?_);refine wS ?_;refine⟨λh0=>?_,λh0=>?_⟩
 ·refine wS ?_;obtain⟨v,hv⟩:=dW.1 h0;have be:=ah v hv;have U:=ba v hv;subst be;simp only[hv];refine⟨_,_,?_,rfl,C,K,hi,λp A=>A,U,rfl⟩;exact ZG
 refine wS ?_;refine Zq8 false false [] 50 [1,2,3,4,5,8,9] (λ_=>[]) (λp:List (List Int×List Int)×List (List Int×List Int)=>[(2,.gob (.mapL 2 0 λ_=>p.1)),(3,.gob (.mapL 2 3 λ_=>p.2)),(12,.cells [.int .i64 λ_=>ae,.int .i64 λ_=>0,.int .i64 λ_=>0])]) (λp=>TmInv t x p.1 p.2/\∀q∈K,q∈p.2) (λ_ _ h=>h) (by decide) ?_ ?_
 ·refine wS ?_;refine⟨λG=>?_,λG=>?_⟩
  ·have G:=iU G;have k:=bh G;rw[iQ G]at V;rw[<-V]at k;refine wS ?_;refine cL1 [0,1,2,3,4,5,6,7] (k) λr am A=>?_;(try simp only[Ze,Zd,Zf,Zc,Za O]at A);obtain⟨rfl,C2,K2,aa,S,rfl⟩:=A;refine wS ?_;refine⟨(C2,K2),⟨aa,S⟩,?_⟩;exact ZG
  have G:=iV G;rw[iP G]at V;subst V;refine wS ?_;refine⟨(C,K),⟨hi,λ_ h=>h⟩,?_⟩;exact ZG
 intro p hh;refine wS ?_;obtain⟨C1,K1⟩:=p;obtain⟨a9,bk⟩:=hh;refine Zq8 false false [] 40 [1,2,3,4,5,8,9] (λ_:Unit=>[]) (λ_=>[(12,.cells [.int .i64 λ_=>ae,.int .i64 λ_=>rd,.int .i64 λ_=>0])]) (λ_=>True) (λ_ _ h=>h) (by decide) ?_ ?_
 ·refine wS ?_;refine⟨λh2=>?_,λh2=>?_⟩
  ·have h2:=eq_of_beq h2;rw[iQ h2]at ab;subst ab;refine wS ?_;refine⟨(),trivial,?_⟩;exact ZG
  have h2:=ne_of_beq_false h2;rw[iP h2,iM]at ab;refine wS ?_;refine⟨(),trivial,?_⟩;exact ZG
 intro _ _;refine wS ?_;refine X3 λQ hQ=>?_;refine ZJ false false [] [1,2,3,4,5,8,9,69,70,71] [] (λp:Nat×(List (List Int×List Int)×List (List Int×List Int))×Int=>[(71,.int .i64 λ_=>(p.1:Int))]) (λp=>[(2,.gob (.mapL 2 0 λ_=>p.2.1.1)),(3,.gob (.mapL 2 3 λ_=>p.2.1.2)),(12,.cells [.int .i64 λ_=>ae,.int .i64 λ_=>rd,.int .i64 λ_=>p.2.2])])
  (λp=>p.1<=t.waits.length/\TmInv t x p.2.1.1 p.2.1.2/\(∀q∈K,q∈p.2.1.2)/\gf=(t.waits.drop p.1).foldl W p.2.2) (λp=>t.waits.length-p.1+0) (0,(C1,K1),rd) ⟨by omega,a9,bk,aj⟩ ?_ ?_
 ·exact ZG
 intro p hh;refine wS ?_;have bw:=hh.1;have aa:=hh.2.1;have S:=hh.2.2.1;have A:=hh.2.2.2;clear hh;refine⟨λhb=>?_,λhb=>?_⟩;case refine_2=>
  simp only[iS]at hb;rw[List.drop_eq_nil_of_le (by omega),List.foldl_nil]at A;subst A;refine wS ?_;refine hQ _ _ _ ?_;refine wS ?_;refine⟨λh5=>?_,λh5=>?_⟩
  ·have h5:a=0:=eq_of_beq h5;rw[iQ h5]at ac;have q:=H p.2.1.1 p.2.1.2 aa _ rfl;refine wS ?_;refine⟨_,_,?_,rfl,p.2.1.1,Jz p.2.1.2 [r,a] [cs,rd,p.2.2],q.1,λz hz=>q.2.1 z (S z hz),q.2.2,rfl⟩;refine toR ?_;rw[ac];exact ZM.refl _
  have h5:a≠0:=ne_of_beq_false h5;rw[iP h5]at ac;have q:=H p.2.1.1 p.2.1.2 aa _ rfl;refine wS ?_;refine⟨_,_,?_,rfl,p.2.1.1,Jz p.2.1.2 [r,a] [cs,rd,p.2.2],q.1,λz hz=>q.2.1 z (S z hz),q.2.2,rfl⟩;refine toR ?_;rw[ac];exact ZM.refl _
 simp only[iR]at hb;have bm:=Qs (d:=default) O (l:=t.waits) (i:=p.1) (by omega);rw[bm,dR]at A;have U:nt Sp.QR default t.waits p.1∈t.waits:=QC O (by omega);have bp:=al _ U;have bo:=ao _ U;have ap:=aq _ U;have Z:=hW p.2.2 (nt Sp.QR default t.waits p.1);generalize hd:nt Sp.QR default t.waits p.1=w at*;refine vS ?_;simp only[hd];refine Chk.mk (ZH) ?_;generalize hL:((nt (List Sp.Call) [] c r).length:Int)-1=L at*;generalize hX:(nt Sp.Call default (nt (List Sp.Call) [] c r) a).station=X at*;refine⟨λh3=>?_,λh3=>?_⟩
 ·have hk:W p.2.2 w=p.2.2:=by
   rw[Z];by_cases e3:a=L
   ·rw[iQ e3]
   rw[iP e3];by_cases e1:w.train=r
   ·by_cases e2:w.station=X
    ·simp[e1,e2,e3]at h3
    rw[iQ (.inr e2)]
   rw[iQ (.inl e1)]
  rw[hk]at A;refine wS ?_;refine⟨(p.1+1,p.2),⟨by show p.1+1<=_;omega,aa,S,A⟩,by show t.waits.length-(p.1+1)+0<t.waits.length-p.1+0;omega,?_⟩;exact ZG
 have q:w.train=r/\w.station=X/\a≠L:=by
  by_cases e1:w.train=r
  ·by_cases e2:w.station=X
   ·by_cases e3:a=L
    ·simp[e1,e2,e3]at h3
    exact⟨e1,e2,e3⟩
   simp[e1,e2]at h3
  simp[e1]at h3
 have k3:=ap q.1 q.2.1 q.2.2 _ _ aa;rw[iP q.2.2,iP (by omega)]at Z;clear ap;generalize hF:nt (List Sp.Call) [] c w.feeder=F at*;have ak:=Zvv F w.station (by omega);simp only[Za O]at ak;generalize ZD F w.station=f at*;generalize comes t x w.feeder f=ai at*;refine vS ?_;try simp only[hd,hF]
 try refine Chk.mk (ZH) ?_
 refine ZL (ak) (by first|rfl|(simp only[Ze,Zd,Zf,Zc,Za O];rfl)) λr am A=>?_;(try simp only[Ze,Zd,Zf,Zc,Za O]at A);obtain⟨rfl,rfl⟩:=A;refine vS ?_;try simp only[hd,hF]
 try refine Chk.mk (ZH) ?_
 refine cL1 [0,1,2,3,4,5,6,7] (k3) λr am A=>?_;(try simp only[Ze,Zd,Zf,Zc,Za O]at A);obtain⟨rfl,C3,K3,aw,ar,rfl⟩:=A;refine vS ?_;try simp only[hd,hF]
 try refine Chk.mk (ZH) ?_
 refine⟨λh4=>?_,λh4=>?_⟩
 ·have h4:=iU h4;rw[iQ h4,iM]at Z;rw[Z]at A;generalize bl:(if p.2.2<=ai then ai else p.2.2)=g2 at*;have bq:(if p.2.2<ai then ai else p.2.2)=g2:=by rw[<-bl];split<;>split<;>omega
  refine wS ?_;refine⟨(p.1+1,(C3,K3),g2),⟨by show p.1+1<=_;omega,aw,λz hz=>ar z (S z hz),A⟩,by show t.waits.length-(p.1+1)+0<t.waits.length-p.1+0;omega,?_⟩;exact ZG
 have h4:=iV h4;rw[iP h4]at Z;rw[Z]at A;refine wS ?_;refine⟨(p.1+1,(C3,K3),p.2.2),⟨by show p.1+1<=_;omega,aw,λz hz=>ar z (S z hz),A⟩,by show t.waits.length-(p.1+1)+0<t.waits.length-p.1+0;omega,?_⟩;exact ZG
theorem ZtG (t:Zb) (x:List Int) (H:Zz t) (S:JE t x):∀n:Nat,
  (∀r a C K,StopIn (callsOf t) r a->0<a->2*(Zu (callsOf t) r a).arrive<n->TmInv t x C K->SC (λ_=>aB) 177 [Zjy r a,.ptr 4 0,.ptr 0 0,.ptr 6 0,.ptr 1 0] (tmH (Z1 t) (YB x) C K) λv h=>v= .int .i64 (λ_=>comes t x r a)/\∃I A,TmInv t x I A/\(∀p∈K,p∈A)/\h=tmH (Z1 t) (YB x) I A)/\
  (∀r a C K,StopIn (callsOf t) r a->2*(Zu (callsOf t) r a).depart+1<n->TmInv t x C K->SC (λ_=>aB) 179 [Zjy r a,.ptr 5 0,.ptr 0 0,.ptr 7 0] (tmH (Z1 t) (YB x) C K) λv h=>v=Zoq (ZR t x r a).comes (ZR t x r a).ready (ZR t x r a).goes/\∃I A,TmInv t x I A/\(∀p∈K,p∈A)/\([r,a],ZcW (ZR t x r a))∈A/\h=tmH (Z1 t) (YB x) I A)
 |0=>⟨λr a C K G _ U=>by have:=H.nn r a G;omega,λr a C K G U=>by have:=H.nn r a G;omega⟩
 |n+1=>by
  have V:=ZtG t x H S n;exact⟨λr a C K G Y U J=>Zv3 t x H S n V.2 r a C K G Y (by omega) J,λr a C K G U J=>Zv2 t x H S n V.1 r a C K G (by omega) J⟩
theorem ZwZ (t:Zb) (x:List Int) (J:Zz t) (hx:JE t x):SC (λ_=>aB) 137 [.iptr (Z1 t) 0,.agg (YB x)] [] λv h=>v= .imap 2 3 (λ_=>Qu t x)/\h=[]:=by
 obtain⟨S,O⟩:=Zn;have k:=λr a C K (Z:StopIn (callsOf t) r a) (hi:TmInv t x C K)=>(ZtG t x J hx (2*(Zu (callsOf t) r a).depart+2).toNat).2 r a C K Z (by have:=J.nn r a Z;omega) hi;have V:=λC K (h:TmInv t x C K)=>h.perm;have h0:TmInv t x [] []:=⟨λp h=>(by cases h),λp h=>(by cases h),.nil,.nil⟩;have ao:=J.calls.len;have ap:=λr a (Z:StopIn (callsOf t) r a)=>Jy J.calls Z
 have ak:∀r,0<=r->r<(callsOf t).length->2<=(Sp.Zm (callsOf t) r).length/\(Sp.Zm (callsOf t) r).length<=4:=λr I H=>J.calls.row _ (by
  unfold Sp.Zm;rw[aA,aC (by omega)]
  exact bL _)
 unfold StopIn at*;simp only[JJ O]at*;generalize hG:Qu t x=G at*;generalize aq:ZR t x=HH at*;unfold tmH Zjy Zoq YB at*;unfold Z1 at*;simp only[Za O,Zc]at*;generalize ar:callsOf t=c at*;refine SC.less (QO Tryz.func137 (body:=Zj Tryz.f137) rfl (by decide+kernel) ?_);refine wS ?_;refine ZJ false false [] [6,7,19,20,21] [] (λp:Nat×List (List Int×List Int)×List (List Int×List Int)=>[(21,.int .i64 λ_=>(p.1:Int))]) (λp=>[(2,.gob (.mapL 2 0 λ_=>p.2.1)),(3,.gob (.mapL 2 3 λ_=>p.2.2))])
  (λp=>p.1<=c.length/\TmInv t x p.2.1 p.2.2/\∀r a:Int,0<=r->r<p.1->0<=a->a<(S (List Sp.Call) [] c r).length->([r,a],ZcW (HH r a))∈p.2.2) (λp=>c.length-p.1+0) (0,[],[]) ⟨by omega,h0,λr a I H=>by simp at H;omega⟩ ?_ ?_
 ·exact ZG
 intro p A;refine wS ?_;have aw:=A.1;have aa:=A.2.1;have ae:=A.2.2;clear A;refine⟨λhb=>?_,λhb=>?_⟩;case refine_2=>
  simp only[iS]at hb;refine wS ?_;have Y:=V p.2.1 p.2.2 aa λr a h=>ae r a h.1 (by omega) h.2.2.1 h.2.2.2;refine⟨_,[],?_,rfl,rfl⟩;refine toR ?_;exact ZC.imap Y
 simp only[iR]at hb;have az:=ak p.1 (by omega) (by omega);refine wS ?_;refine X3 λQ hQ=>?_;refine ZJ false false [] [6,7,9,19,20,21,27,28] [] (λq:Nat×List (List Int×List Int)×List (List Int×List Int)=>[(28,.int .i64 λ_=>(q.1:Int))]) (λq=>[(2,.gob (.mapL 2 0 λ_=>q.2.1)),(3,.gob (.mapL 2 3 λ_=>q.2.2))])
  (λq=>q.1<=(S (List Sp.Call) [] c p.1).length/\TmInv t x q.2.1 q.2.2/\(∀z∈p.2.2,z∈q.2.2)/\∀a:Int,0<=a->a<q.1->([(p.1:Int),a],ZcW (HH p.1 a))∈q.2.2) (λq=>(S (List Sp.Call) [] c p.1).length-q.1+0) (0,p.2) ⟨by omega,aa,λ_ h=>h,λa I H=>by simp at H;omega⟩ ?_ ?_
 ·exact ZG
 intro q A;refine wS ?_;have au:=A.1;have ab:=A.2.1;have ah:=A.2.2.1;have ai:=A.2.2.2;clear A;refine⟨λU=>?_,λU=>?_⟩;case refine_2=>
  simp only[iS]at U;refine wS ?_;refine hQ _ _ _ ?_;refine wS ?_;refine⟨(p.1+1,q.2),⟨by show p.1+1<=_;omega,ab,λr a I H h3 h4=>?_⟩,by show c.length-(p.1+1)+0<c.length-p.1+0;omega,?_⟩
  ·by_cases he:r=p.1
   ·subst he;exact ai a h3 (by omega)
   exact ah _ (ae r a I (by have:r<((p.1+1:Nat):Int):=H;omega) h3 h4)
  exact ZG
 simp only[iR]at U;have k2:=k p.1 q.1 _ _ ⟨by omega,by omega,by omega,by omega⟩ ab;refine wS ?_;refine cL1 [0,1,2,3,4,5,6,7] (k2) λr am Y=>?_;(try simp only[Ze,Zd,Zf,Zc,Za O]at Y);obtain⟨rfl,C3,K3,al,ac,aj,rfl⟩:=Y;refine wS ?_;refine⟨(q.1+1,C3,K3),⟨by show q.1+1<=_;omega,al,λz hz=>ac z (ah z hz),λa I H=>?_⟩,by show(S (List Sp.Call) [] c p.1).length-(q.1+1)+0<(S (List Sp.Call) [] c p.1).length-q.1+0;omega,?_⟩
 ·by_cases he:a=q.1
  ·subst he;exact aj
  exact ac _ (ai a I (by have:a<((q.1+1:Nat):Int):=H;omega))
 exact ZG
def YA (t:Zb):AV:=.iptr [.iptr (Z1 t) 0] 0
theorem Z9 {x:List Int} {e v:Int} {k j:Nat} (A:e=k) (G:k<x.length):(bif decide (e=(j:Int))then v else x.getD j 0)=(x.set k v).getD j 0:=by
 subst A;by_cases h:k=j
 ·subst h;rw[aA (l:=x.set k v),cS G];simp
 rw[aA (l:=x.set k v),cQ h,<-aA,iW (by omega)];rfl
theorem ZxT (t:Zb) (hf:Zz t) (I S Z J V U Y H:Nat->Zi) (stop:Nat->Bool)
  (hs:∀i X,sel true [0,1,2,3,4,5,6,7] [I i,S i,Z i,J i,V i,U i,Y i,H i,X]=[I i,S i,Z i,J i,V i,U i,Y i,H i])
  (aj:∀i (f0 f1 f2 f3 f4 f5:Unit->Int),sel true [0,1,2,3,4,5,6,7,8] [I i,S i,Z i,J i,V i,U i,Y i,H i,.cells [.int .i64 f0,.int .i64 f1,.int .i64 f2,.int .i64 f3,.int .i64 f4,.int .i64 f5]]=[I i,S i,Z i,J i,V i,U i,Y i,H i,.cells [.int .i64 f0,.int .i64 f1,.int .i64 f2,.int .i64 f3,.int .i64 f4,.int .i64 f5]])
  (ao:∀i X,sel false [0,1,2,3,4,5,6,7] [I i,S i,Z i,J i,V i,U i,Y i,H i,X]=[I i,S i,Z i,J i,V i,U i,Y i,H i])
  (aq:∀i j X,back [0,1,2,3,4,5,6,7] [I i,S i,Z i,J i,V i,U i,Y i,H i,X] [I j,S j,Z j,J j,V j,U j,Y j,H j]=[I j,S j,Z j,J j,V j,U j,Y j,H j,X])
  (hy:∀i,i<manyT t->(∀j,j<i->stop j=false)->YC (λ_=>aB) 7 [.agg (YB (Zk t i))] [I i,S i,Z i,J i,V i,U i,Y i,H i] λv h=>v= .bool (λ_=> !stop i)/\h=[I (i+1),S (i+1),Z (i+1),J (i+1),V (i+1),U (i+1),Y (i+1),H (i+1)])
  (hB:zOk [I 0,S 0,Z 0,J 0,V 0,U 0,Y 0,H 0]=true:=by rfl):
  SC (λ_=>aB) 176 [.yld 7,YA t] [I 0,S 0,Z 0,J 0,V 0,U 0,Y 0,H 0] λv h=>∃m,EndAt stop (manyT t) m/\h=[I m,S m,Z m,J m,V m,U m,Y m,H m]:=by
 obtain⟨nt,O⟩:=Zn;have ai:=YT hf;have ak:=λn=> @Zdy t hf n;have az:=Zka hf;have bc:=hf.dlen;have au:=Zdx hf;have ae:∀k,k<t.delays.length->lenAt t.delays k<=3:=λk h=>by
  unfold lenAt;rw[aA,aC h];exact(hf.d _ (bL h)).2.1
 have ar:∀k:Nat,(nt Sp.ZU default t.delays (k:Int)).by_.length=lenAt t.delays k:=λk=>by rw[O];rfl
 have aw:∀n k,0<=(Zk t n).getD k 0/\(Zk t n).getD k 0<=3:=λn k=>by
  by_cases h:k<t.delays.length
  ·have h1:=(ai n).d k h;have h2:=ae k h;unfold lenAt at h2;omega
  have:=Za7 (ds:=t.delays) t.delays.length n k (by omega);unfold Zk;omega
 generalize manyT t=N at*;generalize Zk t=TA at*;unfold YA Z1;simp only[Za O,Zc,Zt];refine QO Tryz.func176 (body:=Zj Tryz.f176) rfl (by decide+kernel) ?_ hB;refine wS ?_;refine ZJ false false [] [0,1,3] [] (λ(i:Nat)=>[]) (λi=>[(0,I i),(1,S i),(2,Z i),(3,J i),(4,V i),(5,U i),(6,Y i),(7,H i),(8,.cells (YB (TA i)))]) (λi=>i<N/\∀j,j<i->stop j=false) (λi=>N-i+0) 0 ⟨by omega,λj h=>by omega⟩ ?_ ?_
 ·unfold YB;rw[au];have A:=aj 0 (λ_=>0) (λ_=>0) (λ_=>0) (λ_=>0) (λ_=>0) (λ_=>0);cbv at A;simp only[cB,and_true]at A;obtain⟨e0,e1,e2,e3,e4,e5,e6,e7⟩:=A;(refine To.of [] ?_;cbv;(try simp only[nc]);(repeat' first|exact xT|refine⟨?_,?_⟩|refine ZM.cells ?_|refine ZC.agg ?_|refine ZC.tup ?_);all_goals try exact XZ);all_goals first|(rw[e0];exact ZM.refl _)|(rw[e1];exact ZM.refl _)|(rw[e2];exact ZM.refl _)|(rw[e3];exact ZM.refl _)|(rw[e4];exact ZM.refl _)|(rw[e5];exact ZM.refl _)|(rw[e6];exact ZM.refl _)|(rw[e7];exact ZM.refl _)
 intro i hh;unfold YB at*;refine wS ?_;have hi:=hh.1;have ac:=hh.2;have G:=ak i hi;refine YC.frameB [0,1,2,3,4,5,6,7] (by decide) (by simp) rfl rfl (ao i _) (hy i hi ac) (aq i (i+1) _) ?_;refine wS ?_;refine⟨λab=>?_,λab=>?_⟩
 ·have ab:stop i=true:=by simpa using ab
  have A:=λX=>hs (i+1) X;refine wS ?_;refine⟨i+1,.inr ⟨i,rfl,hi,ab,ac⟩,?_⟩;have A:=A (.cells [.int .i64 λ_=>(TA i).getD 0 0,.int .i64 λ_=>(TA i).getD 1 0,.int .i64 λ_=>(TA i).getD 2 0,.int .i64 λ_=>(TA i).getD 3 0,.int .i64 λ_=>(TA i).getD 4 0,.int .i64 λ_=>(TA i).getD 5 0]);cbv at A;simp only[cB,and_true]at A|-;exact A
 have ab:stop i=false:=by simpa using ab
 refine wS ?_;refine X3 λQ hQ=>?_;refine ZJ false false [] [0,1,3,4] [] (λp:Nat×List Int=>[(4,.int .i64 λ_=>(p.1:Int)-1)]) (λp=>[(8,.cells [.int .i64 λ_=>p.2.getD 0 0,.int .i64 λ_=>p.2.getD 1 0,.int .i64 λ_=>p.2.getD 2 0,.int .i64 λ_=>p.2.getD 3 0,.int .i64 λ_=>p.2.getD 4 0,.int .i64 λ_=>p.2.getD 5 0])])
  (λp=>p.1<=t.delays.length/\p.2.length=6/\(∀k,0<=p.2.getD k 0/\p.2.getD k 0<=3)/\Sp.stepT t.delays t.delays.length (TA i)=Sp.stepT t.delays p.1 p.2) (λp=>p.1+0) (t.delays.length,TA i) ⟨aJ _,(ai i).len,aw i,rfl⟩ ?_ ?_
 ·exact ZG
 intro p hp;refine vS ?_;have hm:=hp.1;have ap:=hp.2.1;have am:=hp.2.2.1;have aa:=hp.2.2.2;clear hp;by_cases h0:p.1=0
 ·rw[h0,Sp.stepT]at aa;rw[aa]at G;have a9:¬i+1<N:=λh=>by rw[iQ h]at G;cases G
  refine Chk.mk (ZH) ?_;refine Br.isF (by show(bif decide (0<=(p.1:Int)-1)then _ else false)=false;rw[iW (by omega)];rfl) ?_;refine wS ?_;refine hQ _ _ _ ?_;refine wS ?_;refine Br.isT (iX (by show(p.1:Int)-1<0;omega)) ?_;refine wS ?_;have A:=hs (i+1) (.cells [.int .i64 λ_=>p.2.getD 0 0,.int .i64 λ_=>p.2.getD 1 0,.int .i64 λ_=>p.2.getD 2 0,.int .i64 λ_=>p.2.getD 3 0,.int .i64 λ_=>p.2.getD 4 0,.int .i64 λ_=>p.2.getD 5 0]);cbv at A;simp only[cB,and_true]at A;refine⟨i+1,.inl ⟨by omega,λj hj=>?_⟩,?_⟩
  ·by_cases h:j=i
   ·rw[h];exact ab
   exact ac j (by omega)
  simp only[cB,and_true];exact A
 obtain⟨k,hk⟩:∃k,p.1=k+1:=⟨p.1-1,by omega⟩;have e1:=ZfH (x:=p.2) (e:=(p.1:Int)-1) (i:=k) (by omega) (by omega);have e2:(nt Sp.ZU default t.delays ((p.1:Int)-1)).by_.length=lenAt t.delays k:=by rw[show(p.1:Int)-1=(k:Int) by omega];exact ar k
 have be:=ae k (by omega);have ba:=am k;refine Chk.mk (ZH) ?_;refine⟨λh1=>?_,λh1=>?_⟩
 ·have h1:p.2.getD k 0=(lenAt t.delays k:Int)-1:=by
   rw[iX (by omega),e1,e2]at h1;exact eq_of_beq h1
  rw[hk,Sp.stepT,iQ h1]at aa;refine wS ?_;refine⟨(k,p.2.set k 0),⟨by show k<=_;omega,by show(p.2.set k 0).length=6;rw[bW];exact ap,λj=>?_,aa⟩,by show k+0<p.1+0;omega,?_⟩
  ·show 0<=(p.2.set k 0).getD j 0/\(p.2.set k 0).getD j 0<=3;rw[<-Z9 (e:=(k:Int)) rfl (by omega)];have:=am j;cases decide ((k:Int)=j)
   ·exact this
   exact⟨bR _,by show(0:Int)<=3;decide⟩
  have g0:=Z9 (x:=p.2) (e:=(p.1:Int)-1) (k:=k) (j:=0) (v:=0) (by omega) (by omega);have g1:=Z9 (x:=p.2) (e:=(p.1:Int)-1) (k:=k) (j:=1) (v:=0) (by omega) (by omega);have g2:=Z9 (x:=p.2) (e:=(p.1:Int)-1) (k:=k) (j:=2) (v:=0) (by omega) (by omega);have g3:=Z9 (x:=p.2) (e:=(p.1:Int)-1) (k:=k) (j:=3) (v:=0) (by omega) (by omega);have g4:=Z9 (x:=p.2) (e:=(p.1:Int)-1) (k:=k) (j:=4) (v:=0) (by omega) (by omega);have g5:=Z9 (x:=p.2) (e:=(p.1:Int)-1) (k:=k) (j:=5) (v:=0) (by omega) (by omega);have A:=aj (i+1) (λ_=>bif decide ((p.1:Int)-1=((0:Nat):Int))then 0 else p.2.getD 0 0) (λ_=>bif decide ((p.1:Int)-1=((1:Nat):Int))then 0 else p.2.getD 1 0) (λ_=>bif decide ((p.1:Int)-1=((2:Nat):Int))then 0 else p.2.getD 2 0) (λ_=>bif decide ((p.1:Int)-1=((3:Nat):Int))then 0 else p.2.getD 3 0) (λ_=>bif decide ((p.1:Int)-1=((4:Nat):Int))then 0 else p.2.getD 4 0) (λ_=>bif decide ((p.1:Int)-1=((5:Nat):Int))then 0 else p.2.getD 5 0);cbv at A;simp only[cB,and_true]at A;obtain⟨e3,e4,e5,e6,e7,e8,e9,ah⟩:=A;(refine To.of [] ?_;cbv;(try simp only[nc]);(repeat' first|exact xT|refine⟨?_,?_⟩|refine ZM.cells ?_|refine ZC.agg ?_|refine ZC.tup ?_);all_goals try exact XZ);all_goals first|(rw[e3];exact ZM.refl _)|(rw[e4];exact ZM.refl _)|(rw[e5];exact ZM.refl _)|(rw[e6];exact ZM.refl _)|(rw[e7];exact ZM.refl _)|(rw[e8];exact ZM.refl _)|(rw[e9];exact ZM.refl _)|(rw[ah];exact ZM.refl _)
 have h1:p.2.getD k 0≠(lenAt t.delays k:Int)-1:=by
  rw[iX (by omega),e1,e2]at h1;exact ne_of_beq_false h1
 rw[hk,Sp.stepT,iP h1]at aa;rw[aa]at G;have al:i+1<N:=by
  by_cases h:i+1<N
  ·exact h
  rw[iP h]at G;cases G
 rw[iQ al]at G;have G:=Option.some.inj G;refine wS ?_;refine hQ _ _ _ ?_;refine wS ?_;refine Br.isF (iW (by show¬(p.1:Int)-1<0;omega)) ?_;refine vS ?_;simp only[e1];refine Chk.mk (ZH) ?_;have A:=aj (i+1) (λ_=>bif decide ((p.1:Int)-1=((0:Nat):Int))then p.2.getD k 0+1 else p.2.getD 0 0) (λ_=>bif decide ((p.1:Int)-1=((1:Nat):Int))then p.2.getD k 0+1 else p.2.getD 1 0) (λ_=>bif decide ((p.1:Int)-1=((2:Nat):Int))then p.2.getD k 0+1 else p.2.getD 2 0) (λ_=>bif decide ((p.1:Int)-1=((3:Nat):Int))then p.2.getD k 0+1 else p.2.getD 3 0) (λ_=>bif decide ((p.1:Int)-1=((4:Nat):Int))then p.2.getD k 0+1 else p.2.getD 4 0) (λ_=>bif decide ((p.1:Int)-1=((5:Nat):Int))then p.2.getD k 0+1 else p.2.getD 5 0);cbv at A;simp only[cB,and_true]at A;obtain⟨e3,e4,e5,e6,e7,e8,e9,ah⟩:=A;refine⟨i+1,⟨al,λj hj=>?_⟩,by show N-(i+1)+0<N-i+0;omega,?_⟩
 ·by_cases h:j=i
  ·rw[h];exact ab
  exact ac j (by omega)
 rw[<-G];have g0:=Z9 (x:=p.2) (e:=(p.1:Int)-1) (k:=k) (j:=0) (v:=p.2.getD k 0+1) (by omega) (by omega);have g1:=Z9 (x:=p.2) (e:=(p.1:Int)-1) (k:=k) (j:=1) (v:=p.2.getD k 0+1) (by omega) (by omega);have g2:=Z9 (x:=p.2) (e:=(p.1:Int)-1) (k:=k) (j:=2) (v:=p.2.getD k 0+1) (by omega) (by omega);have g3:=Z9 (x:=p.2) (e:=(p.1:Int)-1) (k:=k) (j:=3) (v:=p.2.getD k 0+1) (by omega) (by omega);have g4:=Z9 (x:=p.2) (e:=(p.1:Int)-1) (k:=k) (j:=4) (v:=p.2.getD k 0+1) (by omega) (by omega);have g5:=Z9 (x:=p.2) (e:=(p.1:Int)-1) (k:=k) (j:=5) (v:=p.2.getD k 0+1) (by omega) (by omega);(refine To.of [] ?_;cbv;(try simp only[nc]);(repeat' first|exact xT|refine⟨?_,?_⟩|refine ZM.cells ?_|refine ZC.agg ?_|refine ZC.tup ?_);all_goals try exact XZ);all_goals first|(rw[e3];exact ZM.refl _)|(rw[e4];exact ZM.refl _)|(rw[e5];exact ZM.refl _)|(rw[e6];exact ZM.refl _)|(rw[e7];exact ZM.refl _)|(rw[e8];exact ZM.refl _)|(rw[e9];exact ZM.refl _)|(rw[ah];exact ZM.refl _)
def ZuA:Zi->Bool
 |.fam .. =>false
 |_=>true
structure QT (n:Nat) (B:Zi):Prop where
 s:∀fz ι h,(∀j,j<n->Qx j ι 0=some j)->ZT fz ι h B=B
 r:∀φ:Nat->Nat,(∀j,j<n->φ j=j)->XE φ B=B
 z:ZuA B=true
theorem QT.mono {n m:Nat} {B:Zi} (h:QT n B) (S:n<=m):QT m B:=⟨λG J k A=>h.s G J k λj I=>A j (by omega),λH A=>h.r H λj I=>A j (by omega),h.z⟩
theorem QT.wk {n N k:Nat} {B:Zi} (h:QT n B) {fz:Bool} {ι:List Nat} {H:List Zi} (A:∀j,j<n->Qx j ι 0=some j):ZM N k (ZT fz ι H B) B:=by
 rw[h.s _ _ _ A];exact ZM.refl _
theorem Zed {h:List Zi} (G:∀b∈h,ZuA b=true):zOk h=true:=by
 unfold zOk;rw[bM];intro b A;have:=G b A;cases b<;>first|rfl|cases this
theorem ZwY (t:Zb) (hf:Zz t) (H J Y I U S V G:Nat->Zi) (stop:Nat->Bool)
  (h0:∀i,QT 8 (H i)) (h1:∀i,QT 8 (J i)) (h2:∀i,QT 8 (Y i)) (h3:∀i,QT 8 (I i)) (h4:∀i,QT 8 (U i)) (h5:∀i,QT 8 (S i)) (h6:∀i,QT 8 (V i)) (h7:∀i,QT 8 (G i))
  (hy:∀i,i<manyT t->(∀j,j<i->stop j=false)->YC (λ_=>aB) 7 [.agg (YB (Zk t i))] [H i,J i,Y i,I i,U i,S i,V i,G i] λv h=>v= .bool (λ_=> !stop i)/\h=[H (i+1),J (i+1),Y (i+1),I (i+1),U (i+1),S (i+1),V (i+1),G (i+1)]):
  SC (λ_=>aB) 176 [.yld 7,YA t] [H 0,J 0,Y 0,I 0,U 0,S 0,V 0,G 0] λv h=>∃m,EndAt stop (manyT t) m/\h=[H m,J m,Y m,I m,U m,S m,V m,G m]:=by
 have A:∀j,j<8->Qx j [0,1,2,3,4,5,6,7] 0=some j:=by decide
 have Z:∀j,j<8->Qx j [0,1,2,3,4,5,6,7,8] 0=some j:=by decide
 have f7:∀j,j<8->Jg [0,1,2,3,4,5,6,7] 9 j=j:=by decide
 refine ZxT t hf H J Y I U S V G stop (λi X=>?_) (λi f0 f1 f2 f3 f4 f5=>?_) (λi X=>?_) (λi j X=>?_) hy (Zed λb hb=>?_)
 ·show [ZT true _ _ (H i),ZT true _ _ (J i),ZT true _ _ (Y i),ZT true _ _ (I i),ZT true _ _ (U i),ZT true _ _ (S i),ZT true _ _ (V i),ZT true _ _ (G i)]=_;rw[(h0 i).s _ _ _ A,(h1 i).s _ _ _ A,(h2 i).s _ _ _ A,(h3 i).s _ _ _ A,(h4 i).s _ _ _ A,(h5 i).s _ _ _ A,(h6 i).s _ _ _ A,(h7 i).s _ _ _ A]
 ·show [ZT true _ _ (H i),ZT true _ _ (J i),ZT true _ _ (Y i),ZT true _ _ (I i),ZT true _ _ (U i),ZT true _ _ (S i),ZT true _ _ (V i),ZT true _ _ (G i),_]=_;rw[(h0 i).s _ _ _ Z,(h1 i).s _ _ _ Z,(h2 i).s _ _ _ Z,(h3 i).s _ _ _ Z,(h4 i).s _ _ _ Z,(h5 i).s _ _ _ Z,(h6 i).s _ _ _ Z,(h7 i).s _ _ _ Z];rfl
 ·show [ZT false _ _ (H i),ZT false _ _ (J i),ZT false _ _ (Y i),ZT false _ _ (I i),ZT false _ _ (U i),ZT false _ _ (S i),ZT false _ _ (V i),ZT false _ _ (G i)]=_;rw[(h0 i).s _ _ _ A,(h1 i).s _ _ _ A,(h2 i).s _ _ _ A,(h3 i).s _ _ _ A,(h4 i).s _ _ _ A,(h5 i).s _ _ _ A,(h6 i).s _ _ _ A,(h7 i).s _ _ _ A]
 ·show [XE (Jg [0,1,2,3,4,5,6,7] 9) (H j),XE (Jg [0,1,2,3,4,5,6,7] 9) (J j),XE (Jg [0,1,2,3,4,5,6,7] 9) (Y j),XE (Jg [0,1,2,3,4,5,6,7] 9) (I j),XE (Jg [0,1,2,3,4,5,6,7] 9) (U j),XE (Jg [0,1,2,3,4,5,6,7] 9) (S j),XE (Jg [0,1,2,3,4,5,6,7] 9) (V j),XE (Jg [0,1,2,3,4,5,6,7] 9) (G j),X]=_;rw[(h0 j).r _ f7,(h1 j).r _ f7,(h2 j).r _ f7,(h3 j).r _ f7,(h4 j).r _ f7,(h5 j).r _ f7,(h6 j).r _ f7,(h7 j).r _ f7]
 simp only[bG,dM,or_false]at hb;rcases hb with rfl|rfl|rfl|rfl|rfl|rfl|rfl|rfl
 ·exact(h0 0).z
 ·exact(h1 0).z
 ·exact(h2 0).z
 ·exact(h3 0).z
 ·exact(h4 0).z
 ·exact(h5 0).z
 ·exact(h6 0).z
 exact(h7 0).z
theorem Zw0 (t:Zb):SC (λ_=>aB) 136 [.iptr (Z1 t) 0] [] λv h=>v= .fn 176 [] [YA t]/\h=[]:=by
 obtain⟨A,O⟩:=Zn;unfold YA Z1;simp only[Za O,Zc,Zt];refine SC.less (QO Tryz.func136 (body:=Zj Tryz.f136) rfl (by decide+kernel) ?_);refine wS ?_;refine⟨_,[],?_,rfl,rfl⟩;exact ZG
theorem Ztp (t:Zb):SC (λ_=>aB) 82 [.iptr (Z1 t) 0] [] λv h=>v= .fn 135 [] [YA t]/\h=[]:=by
 obtain⟨A,O⟩:=Zn;unfold YA Z1;simp only[Za O,Zc,Zt];refine SC.less (QO Tryz.func82 (body:=Zj Tryz.f82) rfl (by decide+kernel) ?_);refine wS ?_;refine⟨_,[],?_,rfl,rfl⟩;exact ZG
def QZ (stop:Nat->Bool):Nat->Bool
 |0=>false
 |j+1=>stop j
theorem Zh4 {Q:Ex->List AV->List Zi->Prop} {s s':List AV} {m:Nat} {h:List Zi} {d:Ziw} (hi:h[m]? =some (.loop s' d)) (I:d.st= .ready) (G:d.pe=none) {h':List Zi} (A:sel true (aT m) (h.set m (.loop s' {d with st:=.exhausted}))=h') (H:Q .normal s h'):Zar Q s m h:=by
 unfold Zar;rw[hi];subst A;simp only[I,G]at H|-;exact H
theorem Zh3 {Q:Ex->List AV->List Zi->Prop} {s s':List AV} {m:Nat} {h:List Zi} {d:Ziw} (hi:h[m]? =some (.loop s' d)) (I:d.st= .done) (G:d.pe=some .ret) {h':List Zi} (A:sel true (aT m) (h.set m (.loop s' {d with st:=.exhausted}))=h') (H:Q .ret s h'):Zar Q s m h:=by
 unfold Zar;rw[hi];subst A;simp only[I,G]at H|-;exact H
theorem Ztm (t:Zb) (hf:Zz t) (A H S G J I:Nat->Zi) (stop:Nat->Bool)
  (h0:∀i,QT 6 (A i)) (h1:∀i,QT 6 (H i)) (h2:∀i,QT 6 (S i)) (h3:∀i,QT 6 (G i)) (h4:∀i,QT 6 (J i)) (h5:∀i,QT 6 (I i))
  (hy:∀i,i<manyT t->(∀j,j<i->stop j=false)->YC (λ_=>aB) 5 [.agg (YB (Zk t i)),.imap 2 3 λ_=>Qu t (Zk t i)] [A i,H i,S i,G i,J i,I i] λv h=>v= .bool (λ_=> !stop i)/\h=[A (i+1),H (i+1),S (i+1),G (i+1),J (i+1),I (i+1)]):
  SC (λ_=>aB) 135 [.yld 5,YA t] [A 0,H 0,S 0,G 0,J 0,I 0] λv h=>∃m,EndAt stop (manyT t) m/\h=[A m,H m,S m,G m,J m,I m]:=by
 obtain⟨nt,O⟩:=Zn;have U:∀j,j<6->Qx j [0,1,2,3,4,5] 0=some j:=by decide
 have p5:∀j,j<6->Qx j [0,1,2,3,4,5,6] 0=some j:=by decide
 have Z:∀j,j<6->Qx j [0,1,2,3,4,5,6,7] 0=some j:=by decide
 have f7:∀j,j<6->Jg [0,1,2,3,4,5] 9 j=j:=by decide
 have al:∀i X4 X5 X6,sel false [0,1,2,3,4,5] [A i,H i,S i,G i,J i,I i,X4,X5,X6]=[A i,H i,S i,G i,J i,I i]:=λi X4 X5 X6=>by
  show [ZT false _ _ (A i),ZT false _ _ (H i),ZT false _ _ (S i),ZT false _ _ (G i),ZT false _ _ (J i),ZT false _ _ (I i)]=_;rw[(h0 i).s _ _ _ U,(h1 i).s _ _ _ U,(h2 i).s _ _ _ U,(h3 i).s _ _ _ U,(h4 i).s _ _ _ U,(h5 i).s _ _ _ U]
 have ao:∀i j X4 X5 X6,back [0,1,2,3,4,5] [A i,H i,S i,G i,J i,I i,X4,X5,X6] [A j,H j,S j,G j,J j,I j]=[A j,H j,S j,G j,J j,I j,X4,X5,X6]:=λi j X4 X5 X6=>by
  show [XE (Jg [0,1,2,3,4,5] 9) (A j),XE (Jg [0,1,2,3,4,5] 9) (H j),XE (Jg [0,1,2,3,4,5] 9) (S j),XE (Jg [0,1,2,3,4,5] 9) (G j),XE (Jg [0,1,2,3,4,5] 9) (J j),XE (Jg [0,1,2,3,4,5] 9) (I j),X4,X5,X6]=_;rw[(h0 j).r _ f7,(h1 j).r _ f7,(h2 j).r _ f7,(h3 j).r _ f7,(h4 j).r _ f7,(h5 j).r _ f7]
 have e5:∀m L,sel true (aT 7) [A m,H m,S m,G m,J m,I m,.cells [.yld 5],L]=[A m,H m,S m,G m,J m,I m,.cells [.yld 5]]:=λm L=>by
  show [ZT true [0,1,2,3,4,5,6] _ (A m),ZT true [0,1,2,3,4,5,6] _ (H m),ZT true [0,1,2,3,4,5,6] _ (S m),ZT true [0,1,2,3,4,5,6] _ (G m),ZT true [0,1,2,3,4,5,6] _ (J m),ZT true [0,1,2,3,4,5,6] _ (I m),_]=_;rw[(h0 m).s _ _ _ p5,(h1 m).s _ _ _ p5,(h2 m).s _ _ _ p5,(h3 m).s _ _ _ p5,(h4 m).s _ _ _ p5,(h5 m).s _ _ _ p5];rfl
 have hz:zOk [A 0,H 0,S 0,G 0,J 0,I 0]=true:=Zed λb V=>by
  simp only[bG,dM,or_false]at V;rcases V with rfl|rfl|rfl|rfl|rfl|rfl
  ·exact(h0 0).z
  ·exact(h1 0).z
  ·exact(h2 0).z
  ·exact(h3 0).z
  ·exact(h4 0).z
  exact(h5 0).z
 have am:∀i a s d,zOk [A i,H i,S i,G i,J i,I i,.cells a,.loop s d]=true:=λi a s d=>Zed λb V=>by
  simp only[bG,dM,or_false]at V;rcases V with rfl|rfl|rfl|rfl|rfl|rfl|rfl|rfl
  ·exact(h0 i).z
  ·exact(h1 i).z
  ·exact(h2 i).z
  ·exact(h3 i).z
  ·exact(h4 i).z
  ·exact(h5 i).z
  ·rfl
  rfl
 have ak:=Zw0 t;have ae:=λs ps a x g4 g5=>ZwY t hf A H S G J I (λ_=>.cells [.yld 5]) (λm=>.loop s ⟨ps,a,x,bif QZ stop m then .done else .ready,bif QZ stop m then some .ret else none⟩) stop (λi=>(h0 i).mono (by decide)) (λi=>(h1 i).mono (by decide)) (λi=>(h2 i).mono (by decide)) (λi=>(h3 i).mono (by decide)) (λi=>(h4 i).mono (by decide)) (λi=>(h5 i).mono (by decide)) g4 g5;have ai:=λi=>ZwZ t (Zk t i) hf (YT hf i);generalize Zk t=TA at*;generalize Qu t=HL at*;generalize manyT t=N at*;unfold YA Z1 YB at*;simp only[Za O,Zc,Zt]at*;refine QO Tryz.func135 (body:=Zj Tryz.f135) rfl (by decide+kernel) ?_ hz;refine wS ?_;refine ZL (ak) (by first|rfl|(simp only[Ze,Zd,Zf,Zc,Za O];rfl)) λr ah Y=>?_;(try simp only[Ze,Zd,Zf,Zc,Za O]at Y);obtain⟨rfl,rfl⟩:=Y;refine wS ?_;refine Zqn (fid:=176) (first:=[]) rfl Yp ?_;refine SC.mono (ae _ _ _ _ ?_ ?_ ?_) ?_
 ·exact λi=>⟨λfz ι h Y=>by simp only[ZT,QE,eN,Y 5 (by decide)],λφ Y=>by simp only[XE,ren,eN,Y 5 (by decide)],rfl⟩
 ·exact λi=>⟨λfz ι h Y=>by simp only[ZT,QE,eN,Y 5 (by decide),Y 6 (by decide)],λφ Y=>by simp only[XE,ren,eN,Y 5 (by decide),Y 6 (by decide)],rfl⟩
 ·intro i hi aa;have ab:QZ stop i=false:=by
   cases i with
   |zero=>rfl
   |succ j=>exact aa j (by omega)
  simp only[ab,cond_false];refine YC.less (Zdc false false [] rfl rfl ?_ (am i _ _ _));refine wS ?_;refine ZL (ai i) (by first|rfl|(simp only[Ze,Zd,Zf,Zc,Za O];rfl)) λr ah Y=>?_;(try simp only[Ze,Zd,Zf,Zc,Za O]at Y);obtain⟨rfl,rfl⟩:=Y;refine wS ?_;refine YC.frameB [0,1,2,3,4,5] (by decide) (by simp) rfl rfl (al i _ _ _) (hy i hi aa) (ao i (i+1) _ _ _) ?_;refine wS ?_;refine⟨λV=>?_,λV=>?_⟩
  ·have V:stop i=true:=by simpa using V
   have ac:QZ stop (i+1)=true:=V;refine wS ?_;simp only[ac,cond_true];refine⟨.bool λ_=> !stop i,_,?_,rfl,rfl⟩;(refine To.of [] ?_;cbv;(try simp only[nc]);(repeat' first|exact xT|refine⟨?_,?_⟩|refine ZM.cells ?_|refine ZC.agg ?_|refine ZC.tup ?_);all_goals try exact XZ);all_goals first|exact .bool (by rw[V];rfl)|exact(h0 _).wk Z|exact(h1 _).wk Z|exact(h2 _).wk Z|exact(h3 _).wk Z|exact(h4 _).wk Z|exact(h5 _).wk Z
  have V:stop i=false:=by simpa using V
  have ac:QZ stop (i+1)=false:=V;refine wS ?_;simp only[ac,cond_false];refine⟨.bool λ_=> !stop i,_,?_,rfl,rfl⟩;(refine To.of [] ?_;cbv;(try simp only[nc]);(repeat' first|exact xT|refine⟨?_,?_⟩|refine ZM.cells ?_|refine ZC.agg ?_|refine ZC.tup ?_);all_goals try exact XZ);all_goals first|exact .bool (by rw[V];rfl)|exact(h0 _).wk Z|exact(h1 _).wk Z|exact(h2 _).wk Z|exact(h3 _).wk Z|exact(h4 _).wk Z|exact(h5 _).wk Z
 intro v h hh;obtain⟨m,hm,rfl⟩:=hh;rcases hm with⟨hm,aa⟩|⟨j,hm,hj,ab,aa⟩
 ·have ab:QZ stop m=false:=by
   cases m with
   |zero=>rfl
   |succ j=>exact aa j (by omega)
  simp only[ab,cond_false];refine Zh4 rfl rfl rfl (e5 m _) ?_;refine wS ?_;refine⟨m,.inl ⟨hm,aa⟩,?_⟩;show [ZT true [0,1,2,3,4,5] _ (A m),ZT true [0,1,2,3,4,5] _ (H m),ZT true [0,1,2,3,4,5] _ (S m),ZT true [0,1,2,3,4,5] _ (G m),ZT true [0,1,2,3,4,5] _ (J m),ZT true [0,1,2,3,4,5] _ (I m)]=_;rw[(h0 m).s _ _ _ U,(h1 m).s _ _ _ U,(h2 m).s _ _ _ U,(h3 m).s _ _ _ U,(h4 m).s _ _ _ U,(h5 m).s _ _ _ U]
 have aj:QZ stop m=true:=by rw[hm];exact ab
 simp only[aj,cond_true];refine Zh3 rfl rfl rfl (e5 m _) ?_;refine wS ?_;refine⟨m,.inr ⟨j,hm,hj,ab,aa⟩,?_⟩;show [ZT true [0,1,2,3,4,5] _ (A m),ZT true [0,1,2,3,4,5] _ (H m),ZT true [0,1,2,3,4,5] _ (S m),ZT true [0,1,2,3,4,5] _ (G m),ZT true [0,1,2,3,4,5] _ (J m),ZT true [0,1,2,3,4,5] _ (I m)]=_;rw[(h0 m).s _ _ _ U,(h1 m).s _ _ _ U,(h2 m).s _ _ _ U,(h3 m).s _ _ _ U,(h4 m).s _ _ _ U,(h5 m).s _ _ _ U]
end Vm
namespace Vm
open Go Go.Proofs
def inA (n:Nat):Nat->AV->Bool
 |0,_=>false
 |k+1,a=>(match a with
  |.ptr id _=>ltN id n
  |.aptr id _ _ _=>ltN id n
  |.msl id _ _ _ _=>ltN id n
  |.gsl id _=>ltN id n
  |.gptr id _ _ _ _=>ltN id n
  |.nsub id _ _=>ltN id n
  |.nptr id _ _ _ _=>ltN id n
  |.map id=>ltN id n
  |.mit id=>ltN id n
  |.yld id=>ltN id n
  |.isl _ _ _ (.own id)=>ltN id n
  |.lit _ cs=>cs.all (inA n k)
  |.fn _ A G=>A.all (inA n k)&&G.all (inA n k)
  |.agg cs=>cs.all (inA n k)
  |.tup cs=>cs.all (inA n k)
  |.gd _ v=>inA n k v
  |_=>true)
theorem ZcG {α:Type} {f:α->α} {l:List α} (h:∀a∈l,f a=a):l.map f=l:=by
 induction l with
 |nil=>rfl
 |cons a l A=>rw[List.map_cons,h a (aU ..),A λb G=>h b (aR _ G)]
theorem ZiG {n:Nat} {fz:Bool} {ι:List Nat} {h:List Zi} (H:∀j,j<n->Qx j ι 0=some j):∀(k:Nat) (a:AV),inA n k a=true->QE fz ι h k a=a
 |0,a,A=>by cases A
 |k+1,a,A=>by
  have I:=ZiG (fz:=fz) (h:=h) H k;have G:∀cs:List AV,cs.all (inA n k)=true->cs.map (QE fz ι h k)=cs:=λcs J=>ZcG λa A=>I a (bM.1 J a A);cases a with
  |isl s m f tk=>
   cases tk with
   |own id=>simp only[QE,H _ (ZaD A)]
   |_=>rfl
  |lit s cs=>simp only[QE,G cs A]
  |fn f S U=>
   have A:=(aS _ _).mp A;simp only[QE,G _ A.1,G _ A.2]
  |agg cs=>simp only[QE,G cs A]
  |tup cs=>simp only[QE,G cs A]
  |gd g v=>simp only[QE,I v A]
  |ptr|aptr|msl|gsl|gptr|nsub|nptr|map|mit|yld=>simp only[QE,H _ (ZaD A)]
  |_=>rfl
theorem Zls {n:Nat} {I:Nat->Nat} (H:∀j,j<n->I j=j):∀(k:Nat) (a:AV),inA n k a=true->ren I k a=a
 |0,a,A=>by cases A
 |k+1,a,A=>by
  have J:=Zls H k;have G:∀cs:List AV,cs.all (inA n k)=true->cs.map (ren I k)=cs:=λcs S=>ZcG λa A=>J a (bM.1 S a A);cases a with
  |isl s m f tk=>
   cases tk with
   |own id=>simp only[ren,H _ (ZaD A)]
   |_=>rfl
  |lit s cs=>simp only[ren,G cs A]
  |fn f U V=>
   have A:=(aS _ _).mp A;simp only[ren,G _ A.1,G _ A.2]
  |agg cs=>simp only[ren,G cs A]
  |tup cs=>simp only[ren,G cs A]
  |gd g v=>simp only[ren,J v A]
  |ptr|aptr|msl|gsl|gptr|nsub|nptr|map|mit|yld=>simp only[ren,H _ (ZaD A)]
  |_=>rfl
def ZxE (n:Nat):Zi->Bool
 |.cells cs=>cs.all (inA n 5)
 |.loop s _=>s.all (inA n 5)
 |.vgar .. =>false
 |.fam .. =>false
 |_=>true
theorem QT.of {n:Nat} {B:Zi} (h:ZxE n B=true):QT n B:=by
 cases B with
 |cells cs=>exact⟨λH J k A=>congrArg Zi.cells (ZcG λa G=>ZiG A 5 a (bM.1 h a G)),λI A=>congrArg Zi.cells (ZcG λa G=>Zls A 5 a (bM.1 h a G)),rfl⟩
 |loop s d=>exact⟨λH J k A=>congrArg (λs=>Zi.loop s d) (ZcG λa G=>ZiG A 5 a (bM.1 h a G)),λI A=>congrArg (λs=>Zi.loop s d) (ZcG λa G=>Zls A 5 a (bM.1 h a G)),rfl⟩
 |vgar=>cases h
 |fam=>cases h
 |_=>exact⟨λ_ _ _ _=>rfl,λ_ _=>rfl,rfl⟩
attribute [local irreducible] Dn
open Go Go.Proofs Sp
set_option maxRecDepth 100000
set_option maxHeartbeats 1600000
structure Wd where
 fr:Int
 to_:Int
 some_:Bool
deriving Inhabited
def Wd.add (w:Wd) (n:Int):Wd:=if w.some_ then⟨min w.fr n,max w.to_ n,true⟩else⟨n,n,true⟩
def Y2 (w:Wd):List AV:=[.int .i64 λ_=>w.fr,.int .i64 λ_=>w.to_,.bool λ_=>w.some_]
theorem Zw7 (w:Wd) (n:Int):SC (λ_=>aB) 83 [.ptr 0 0,.int .i64 λ_=>n] [.cells (Y2 w)] λr h=>h=[.cells (Y2 (w.add n))]:=by
 refine SC.less ?_;refine QO Tryz.func83 (body:=Zj Tryz.f83) rfl (by decide+kernel) ?_;refine wS ?_;unfold Wd.add;refine⟨λG=>?_,λG=>?_⟩
 ·have A:w.some_=false:=nb2 G;rw[iP (by rw[A];exact aO)];refine wS ?_;refine⟨.tup [],_,?_,rfl⟩;(refine To.of [] ?_;cbv;(try simp only[nc]);(repeat' first|exact xT|refine⟨?_,?_⟩|refine ZM.cells ?_|refine ZC.agg ?_|refine ZC.tup ?_);all_goals try exact XZ);all_goals (refine .int ?_;show(if n<n then n else n)=n;rw[iP (Int.lt_irrefl n)])
 have A:w.some_=true:=nb4 G;rw[iQ A];have I:(if n<w.fr then n else w.fr)=min w.fr n:=by split<;>omega
 have H:(if w.to_<n then n else w.to_)=max w.to_ n:=by split<;>omega
 generalize min w.fr n=a at*;generalize max w.to_ n=b at*;refine vS ?_;refine Chk.mk (ZH) ?_;refine⟨.tup [],_,?_,rfl⟩;(refine To.of [] ?_;cbv;(try simp only[nc]);(repeat' first|exact xT|refine⟨?_,?_⟩|refine ZM.cells ?_|refine ZC.agg ?_|refine ZC.tup ?_);all_goals try exact XZ);all_goals first|exact .bool A|exact .int I|exact .int H
theorem Zat {α:Type} (l:List α) (i j:Nat) (x d:α) (h:j≠i):(l.set i x).getD j d=l.getD j d:=by
 rw[aA,aA,bQ,iP (Ne.symm h)]
theorem Zck {α:Type} (l:List α) (i:Nat) (x d:α) (h:i<l.length):(l.set i x).getD i d=x:=by
 rw[aA,bQ,iQ rfl,iQ h];rfl
theorem Zw8 (l:List Wd) (i:Nat) (n:Int) (hi:i<l.length) (U:l.length<=1000000):SC (λ_=>aB) 83 [.aptr 0 3 (λ_=>(i:Int)) 0,.int .i64 λ_=>n] [.arr 3 (λ_=>(l.length:Int)) (Zev Y2 default l)] λr h=>h=[.arr 3 (λ_=>(l.length:Int)) (Zev Y2 default (l.set i ((l.getD i default).add n)))]:=by
 obtain⟨A,O⟩:=Zn;rw[Jt O];refine SC.less ?_;refine QO Tryz.func83 (body:=Zj Tryz.f83) rfl (by decide+kernel) ?_;have hw:l.getD i default=A Wd default l i:=by rw[O];rfl
 rw[hw];refine wS ?_;have G:∀(x:Wd) (j:Nat),Zev Y2 default (l.set i x) (λ_=>(j:Int))=Y2 (if j=i then x else A Wd default l j):=λx j=>by
  show Y2 ((l.set i x).getD ((j:Int).toNat) default)=_;rw[aW];by_cases h:j=i
  ·subst h;rw[iQ rfl,Zck l _ x default hi]
  rw[iP h,Zat l i j x default h,O];rfl
 refine⟨λJ=>?_,λJ=>?_⟩
 ·have H:(A Wd default l i).some_=false:=nb2 J;refine wS ?_;refine⟨.tup [],[.arr 3 (λ_=>(l.length:Int)) (Zev Y2 default (l.set i ((A Wd default l i).add n)))],To.of [] ⟨⟨.refl _,trivial⟩,.arr rfl λj S=>?_,trivial⟩,rfl⟩;rw[G];unfold Wd.add;rw[H];by_cases h:j=i
  ·subst h;simp[Qt,ZiW,putC,Y2,Jl,AV.cellsOf,purify]
  have I:¬((j:Int)=(i:Int)):=by omega
  simp[Qt,ZiW,putC,Y2,Jl,AV.cellsOf,purify,h,I]
 have H:(A Wd default l i).some_=true:=nb4 J;refine wS ?_;refine⟨.tup [],[.arr 3 (λ_=>(l.length:Int)) (Zev Y2 default (l.set i ((A Wd default l i).add n)))],To.of [] ⟨⟨.refl _,trivial⟩,.arr rfl λj S=>?_,trivial⟩,rfl⟩;rw[G];unfold Wd.add;rw[H];by_cases h:j=i
 ·subst h;simp[Qt,ZiW,putC,Y2,Jl,AV.cellsOf,purify,H];exact⟨funext λ_=>by split<;>omega,funext λ_=>by split<;>omega⟩
 have I:¬((j:Int)=(i:Int)):=by omega
 simp[Qt,ZiW,putC,Y2,Jl,AV.cellsOf,purify,h,I]
end Vm
namespace Sp
open Vm
def ZbS (f:Nat->Int):Nat->Wd
 |0=>⟨0,0,false⟩
 |n+1=>(ZbS f n).add (f n)
def Zbf (t:Zb) (run:Int) (k i:Nat):Int:=
 if k%2=0 then(ZR t (Zk t i) run ((k/2:Nat):Int)).comes else(ZR t (Zk t i) run ((k/2:Nat):Int)).goes
def ZaZ (t:Zb) (run:Int) (n i j:Nat):List Wd:=(aT (2*n)).map λk=>if k<2*j then ZbS (Zbf t run k) (i+1)else ZbS (Zbf t run k) i
def ZhS (t:Zb) (run:Int) (k:Nat):ZbV:=⟨(ZbS (Zbf t run k) (manyT t)).fr,(ZbS (Zbf t run k) (manyT t)).to_⟩
def Zjp (t:Zb) (run:Int):List ZbV:=(aT (Zm (callsOf t) run).length).map λa=>ZhS t run (2*a)
def Zm7 (t:Zb) (run:Int):List ZbV:=(aT (Zm (callsOf t) run).length).map λa=>ZhS t run (2*a+1)
def J7 (t:Zb) (run:Int):Int:=if Zq t≠0 then Zq t else if Qq run 0 ((t.runs.length:Int)-1)then 3 else 0
theorem Zby {t:Zb} {run:Int} {n i j:Nat}:(ZaZ t run n i j).length=2*n:=by unfold ZaZ;simp
theorem Zbz {t:Zb} {run:Int} {n i j k:Nat} (h:k<2*n):(ZaZ t run n i j).getD k default=if k<2*j then ZbS (Zbf t run k) (i+1)else ZbS (Zbf t run k) i:=by
 unfold ZaZ;rw[aA,aP,cV h];rfl
theorem ZsW {t:Zb} {run:Int} {n i:Nat}:ZaZ t run n i n=ZaZ t run n (i+1) 0:=by
 unfold ZaZ;refine fD λk A=>?_;rw[iQ (by have:=bZ.1 A;omega),iP (by omega)]
theorem ZqA {t:Zb} {run:Int} {n i j:Nat} (I:j<n) {G:List Wd} (A:G=(ZaZ t run n i j).set (2*j) (((ZaZ t run n i j).getD (2*j) default).add (Zbf t run (2*j) i))):
  G.set (2*j+1) ((G.getD (2*j+1) default).add (Zbf t run (2*j+1) i))=ZaZ t run n i (j+1):=by
 subst A;rw[Vm.Zat _ _ _ _ _ (by omega),Zbz (by omega),Zbz (by omega),iP (by omega),iP (by omega)];refine List.ext_getElem? λk=>?_;by_cases hk:k<2*n
 ·have e:(ZaZ t run n i (j+1))[k]? =some ((ZaZ t run n i (j+1)).getD k default):=by
   rw[aA,aC (by rw[Zby];exact hk)];rfl
  rw[e,Zbz hk];by_cases h1:2*j+1=k
  ·subst h1;rw[cS (by rw[bW,Zby];exact hk),iQ (by omega)];rfl
  rw[cQ h1];by_cases A:2*j=k
  ·subst A;rw[cS (by rw[Zby];exact hk),iQ (by omega)];rfl
  rw[cQ A];have H:(ZaZ t run n i j)[k]? =some ((ZaZ t run n i j).getD k default):=by
   rw[aA,aC (by rw[Zby];exact hk)];rfl
  rw[H,Zbz hk];by_cases h3:k<2*j
  ·rw[iQ h3,iQ (by omega)]
  rw[iP h3,iP (by omega)]
 rw[cD (by rw[bW,bW,Zby];omega),cD (by rw[Zby];omega)]
theorem Za3 {t:Zb} {x:List Int} {r a:Int} (G:StopIn (callsOf t) r a):(Qu t x).lookup [r,a]=some (ZcW (ZR t x r a)):=by
 refine ZcH ?_ (bE.2 ⟨(r,a),J5.2 G,rfl⟩);unfold Qu;rw[fp]
 exact List.Pairwise.map _ (λa b A e=>by
  apply A;simp only[Function.comp,cB,and_true]at e
  exact iK e.1 e.2) Zb3
end Sp
namespace Vm
attribute [local irreducible] Dn
open Go Go.Proofs Sp
set_option maxRecDepth 100000
set_option maxHeartbeats 4000000
def encSp (x:Sp.ZbV):List AV:=[.int .i64 λ_=>x.fr,.int .i64 λ_=>x.to_]
theorem ZuF (l A:List Wd) (i:Nat) (e n N:Int) (G:e=i) (J:N=l.length) (hi:i<l.length) (H:l.length<=1000000) (I:A=l.set i ((l.getD i default).add n)):SC (λ_=>aB) 83 [.aptr 0 3 (λ_=>e) 0,.int .i64 λ_=>n] [.arr 3 (λ_=>N) (Zev Y2 default l)] λr h=>h=[.arr 3 (λ_=>N) (Zev Y2 default A)]:=by
 subst G J I;exact Zw8 l i n hi H
theorem Zyw (t:Zb) (run:Int) (hf:Qm t) (hw:Zq t=0->Zz t):SC (λ_=>aB) 22 [Zf t,.int .i64 λ_=>run] [] λv h=>
  v= .tup [lst 2 encSp default (if J7 t run=0 then Zjp t run else []),lst 2 encSp default (if J7 t run=0 then Zm7 t run else []),.int .i64 λ_=>J7 t run]/\h=[]:=by
 obtain⟨H,O⟩:=Zn;obtain⟨Y,ba⟩:∃Y:Nat->Nat->Nat->List Wd,∀n i j,Y n i j=(ZaZ t run n i j).set (2*j) (((ZaZ t run n i j).getD (2*j) default).add (Zbf t run (2*j) i)):=⟨_,λ_ _ _=>rfl⟩;refine SC.less (Zg3 false false [] Tryz.func22 (body:=Zj Tryz.f22) rfl (by decide+kernel) ?_);have k:=Ztq t hf;have hr:=hf.runs;have k1:=Zdp run 0 ((t.runs.length:Int)-1);generalize J:J7 t run=e;unfold J7 at J;unfold Zf at*;simp only[Za O]at k|-;by_cases he:Zq t=0
 ·have hw:=hw he;unfold Q8 at k;rw[iQ he]at k;rw[iP (λh=>h he)]at J;have Z:=Ztp t;unfold YA Z1 at*;simp only[Za O,Zc,Zt]at k Z|-;rw[he]at k;refine wS ?_;refine Zrk (k) ?_;refine wS ?_;refine Br.isF rfl ?_;refine wS ?_;refine Zrk (k1) ?_;refine wS ?_;refine⟨λh=>?_,λh=>?_⟩
  ·rw[iQ h]at J;subst J;refine wS ?_;refine⟨_,[],?_,rfl,rfl⟩;exact ZG
  rw[iP (by rw[h];exact aO)]at J;subst J;have hb:=QK h;have bc:t.runs.length=(callsOf t).length:=by unfold callsOf;rw[bA]
  have au:=hw.calls.row (Sp.Zm (callsOf t) run) (by
   unfold Sp.Zm;rw[aA,aC (by omega)]
   exact bL _)
  have ae:=λx a h1 h2=> @Za3 t x run a ⟨hb.1,by omega,h1,h2⟩;have aw:∀i j:Nat,(ZR t (Zk t i) run (j:Int)).comes=Zbf t run (2*j) i:=λi j=>by unfold Zbf;rw[iQ (by omega),show 2*j/2=j by omega]
  have a9:∀i j:Nat,(ZR t (Zk t i) run (j:Int)).goes=Zbf t run (2*j+1) i:=λi j=>by unfold Zbf;rw[iP (by omega),show(2*j+1)/2=j by omega]
  have ab:=λi j h l2 h2=> @ZqA t run (Sp.Zm (callsOf t) run).length i j h l2 h2;have G:=λi j=> @Zby t run (Sp.Zm (callsOf t) run).length i j;have V:=λi=> @ZsW t run (Sp.Zm (callsOf t) run).length i;have aj:∀k,k<2*(Sp.Zm (callsOf t) run).length->(ZaZ t run (Sp.Zm (callsOf t) run).length 0 0).getD k default=⟨0,0,false⟩:=λk h=>by rw[Zbz h,iP (by omega)];rfl
  have ak:∀m j,j<(Sp.Zm (callsOf t) run).length->H Wd default (ZaZ t run (Sp.Zm (callsOf t) run).length m 0) (0+2*(j:Int))=ZbS (Zbf t run (2*j)) m:=λm j h=>by
   rw[O,show(0+2*(j:Int)).toNat=2*j by omega,Zbz (by omega),iP (by omega)]
  have am:∀m j,j<(Sp.Zm (callsOf t) run).length->H Wd default (ZaZ t run (Sp.Zm (callsOf t) run).length m 0) (0+(2*(j:Int)+1))=ZbS (Zbf t run (2*j+1)) m:=λm j h=>by
   rw[O,show(0+(2*(j:Int)+1)).toNat=2*j+1 by omega,Zbz (by omega),iP (by omega)]
  have U:=λB0 B1 B2 B3 B4 B5 stop=>Ztm t hw B0 B1 B2 B3 B4 B5 stop;rw[iQ rfl,iQ rfl];have ap:Zjp t run=(aT (Sp.Zm (callsOf t) run).length).map λa=>ZhS t run (2*a):=rfl;have aq:Zm7 t run=(aT (Sp.Zm (callsOf t) run).length).map λa=>ZhS t run (2*a+1):=rfl;generalize Zjp t run=CL at*;generalize Zm7 t run=GL at*;unfold YA Z1 at U;simp only[JJ O,Za O,Zc,Zt]at au ae ak am ab G V aj ap aq U;generalize ZaZ t run=A at*;generalize Zk t=TA at*;generalize Qu t=HL at*;generalize bg:callsOf t=c at*;refine wS ?_;refine Zrk (Z) ?_;refine wS ?_;generalize hn:(H (List Sp.Call) [] c run).length=n at*;have ai:∀k:Nat,(k:Int)<2*(n:Int)->[AV.int .i64 λ_=>0,AV.int .i64 λ_=>0,AV.bool λ_=>false]=Y2 (H Wd default (A n 0 0) (k:Int)):=λk h=>by
   rw[O,aW,aj k (by omega)];rfl
  refine Zgi [3,4,5,6,8,9,42] [] [(3,.arr 3 (λ_=>2*(n:Int)) (λe=>Y2 (H Wd default (A n 0 0) (e ()))))] (fid:=135) (first:=[]) ?_ rfl ?_ ?_
  ·refine toR ?_;exact ZM.arr rfl ai
  ·exact Yp
  refine SC.mono (U (λ_=>_) (λ_=>_) (λ_=>_) (λi=>.arr 3 (λ_=>2*(n:Int)) (λe=>Y2 (H Wd default (A n i 0) (e ())))) (λ_=>_) (λ_=>_) (λ_=>false) ?_ ?_ ?_ ?_ ?_ ?_ ?_) ?_;iterate 6 exact λi=>QT.of rfl
  ·intro i hi be;refine YC.less (Zdc false false [] rfl rfl ?_);refine wS ?_;refine ZuC false false [] [3,4,5,8,9,11,44,45,46] [] (λ(j:Nat)=>[(46,.int .i64 λ_=>(j:Int))]) (λj=>[(3,.arr 3 (λ_=>2*(n:Int)) (λe=>Y2 (H Wd default (A n i j) (e ()))))]) (λj=>j<=n) (λj=>n-j+0) 0 (by omega) ?_ ?_
   ·exact ZG
   intro j hj;refine wS ?_;refine⟨λac=>?_,λac=>?_⟩
   ·simp only[iR]at ac;have e1:(((HL (TA i)).lookup [run,(j:Int)]).getD []).headD 0=Zbf t run (2*j) i:=by rw[ae _ _ (by omega) (by omega),<-aw];rfl
    have e2:(((HL (TA i)).lookup [run,(j:Int)]).getD []).tail.tail.headD 0=Zbf t run (2*j+1) i:=by rw[ae _ _ (by omega) (by omega),<-a9];rfl
    have aa:=ba n i j;have h3:=ab i j (by omega) (Y n i j) aa;have S:(Y n i j).length=2*n:=by rw[aa,bW,G]
    have k1:=ZuF (A n i j) (Y n i j) (2*j) (0+2*(j:Int)) (Zbf t run (2*j) i) (2*(n:Int)) (by omega) (by rw[G];omega) (by rw[G];omega) (by rw[G];omega) aa;have k2:=ZuF (Y n i j) (A n i (j+1)) (2*j+1) (0+(2*(j:Int)+1)) (Zbf t run (2*j+1) i) (2*(n:Int)) (by omega) (by rw[S];omega) (by rw[S];omega) (by rw[S];omega) h3.symm;simp only[Jt O]at k1 k2;refine vS ?_;refine Chk.mk (ZH) ?_;simp only[e1];refine cL1 [3] (k1) λr ar I=>?_;(try simp only[Ze,Zd,Zf,Zc,Za O]at I);obtain rfl:=I;refine vS ?_;try refine Chk.mk (ZH) ?_
    simp only[e2];refine cL1 [3] (k2) λr ar I=>?_;(try simp only[Ze,Zd,Zf,Zc,Za O]at I);obtain rfl:=I;refine wS ?_;refine⟨j+1,by omega,by show n-(j+1)+0<n-j+0;omega,?_⟩;exact ZG
   simp only[iS]at ac;have az:j=n:=by omega
   subst az;refine wS ?_;refine⟨.bool λ_=>true,_,?_,rfl,rfl⟩;refine toR ?_;rw[V i];exact ZM.refl _
  intro v h hh;obtain⟨m,hm,rfl⟩:=hh;have al:m=manyT t:=by
   rcases hm with h|⟨_,_,_,h,_⟩
   ·exact h.1
   cases h
  refine wS ?_;refine ZJ false false [] [4,5,9,77,78] [.tok 2 λ_=>0,.tok 2 λ_=>0] (λp:Nat×List Sp.ZbV×List Sp.ZbV=>[(78,.int .i64 λ_=>(p.1:Int)),(4,.isl 2 (λ_=>(p.2.1.length:Int)) (λe=>encSp (H Sp.ZbV default p.2.1 (e ()))) (.own 5)),(5,.isl 2 (λ_=>(p.2.2.length:Int)) (λe=>encSp (H Sp.ZbV default p.2.2 (e ()))) (.own 6))]) (λp=>[(5,.tok 2 λ_=>(p.2.1.length:Int)),(6,.tok 2 λ_=>(p.2.2.length:Int))])
   (λp=>p.1<=n/\p.2.1=(aT p.1).map (λa=>ZhS t run (2*a))/\p.2.2=(aT p.1).map (λa=>ZhS t run (2*a+1))) (λp=>n-p.1+0) (0,[],[]) ⟨by omega,rfl,rfl⟩ ?_ ?_
  ·(refine To.of [(2,false),(2,false)] ?_;cbv;(try simp only[nc]);(repeat' first|exact xT|refine⟨?_,?_⟩|refine ZM.cells ?_|refine ZC.agg ?_|refine ZC.tup ?_);all_goals try exact XZ)
  intro p I;refine wS ?_;refine⟨λah=>?_,λah=>?_⟩
  ·simp only[iR]at ah;have x1:=ak m p.1 (by omega);have x2:=am m p.1 (by omega);have a1:=congrArg fA I.2.1;have a2:=congrArg fA I.2.2;rw[bA,cZ]at a1 a2;refine vS ?_;refine Chk.mk (ZH) ?_;refine⟨(p.1+1,p.2.1++[⟨(H Wd default (A n m 0) (0+2*(p.1:Int))).fr,(H Wd default (A n m 0) (0+2*(p.1:Int))).to_⟩],p.2.2++[⟨(H Wd default (A n m 0) (0+(2*(p.1:Int)+1))).fr,(H Wd default (A n m 0) (0+(2*(p.1:Int)+1))).to_⟩]),⟨by show p.1+1<=n;omega,?_,?_⟩,by show n-(p.1+1)+0<n-p.1+0;omega,?_⟩
   ·show p.2.1++_=_;rw[eL,dD,<-I.2.1,x1,al];rfl
   ·show p.2.2++_=_;rw[eL,dD,<-I.2.2,x2,al];rfl
   exact ZG
  simp only[iS]at ah;have ao:p.1=n:=by omega
  have r1:p.2.1=CL:=by rw[I.2.1,ao,ap]
  have r2:p.2.2=GL:=by rw[I.2.2,ao,aq]
  refine wS ?_;rw[r1,r2];refine⟨_,[],?_,rfl,rfl⟩;exact ZG
 unfold Q8 at k;rw[iP he]at k;rw[iQ he]at J;rw[J]at k he;rw[iP he,iP he];refine wS ?_;refine Zrk (k) ?_;refine wS ?_;refine⟨λh=>?_,λh=>?_⟩
 ·refine wS ?_;refine⟨_,[],?_,rfl,rfl⟩;exact ZG
 exact absurd (by simpa only[iY]using h) he
end Vm
namespace Sp
open Vm
structure WorldL where
 come:List (List Int)
 ready:List (List Int)
 go:List (List Int)
deriving Inhabited
def Zaj (t:Zb) (f:Nat->Nat->Int):List (List Int):=(aT (callsOf t).length).map λr=>(aT (ZaE t r)).map λi=>f r i
def ZfU (t:Zb) (x:List Int):WorldL:=⟨Zaj t λr i=>(ZR t x r i).comes,Zaj t λr i=>(ZR t x r i).ready,Zaj t λr i=>(ZR t x r i).goes⟩
def Xq (t:Zb):List WorldL:=(aT (manyT t)).map λn=>ZfU t (Zk t n)
theorem ZfT (t:Zb):(Xq t).length=manyT t:=by unfold Xq;rw[bA,cZ]
theorem ZhK (t:Zb) {n:Nat} (h:n<manyT t):(Xq t).getD n default=ZfU t (Zk t n):=by
 unfold Xq;rw[aA,aP,cV h];rfl
theorem Zks (t:Zb) (f:Nat->Nat->Int):(Zaj t f).length=(callsOf t).length:=by unfold Zaj;rw[bA,cZ]
theorem ZgU (t:Zb) (f:Nat->Nat->Int) {r:Nat} (h:r<(callsOf t).length):(Zaj t f).getD r []=(aT (ZaE t r)).map λi=>f r i:=by
 unfold Zaj;rw[aA,aP,cV h];rfl
theorem Zm6 (t:Zb) (f:Nat->Nat->Int) {r i:Nat} (h:r<(callsOf t).length) (hi:i<ZaE t r):((Zaj t f).getD r []).getD i 0=f r i:=by
 rw[ZgU t f h,aA,aP,cV hi];rfl
def ZjK (ds:List ZU) (m n:Nat):List Int:=(aT m).map λi=>(ds.getD i default).by_.getD ((Ye ds m n).getD i 0).toNat 0
theorem Zgh {α:Type} (g:Nat->Int->α) (l:List Int):∀P:Nat,(aT P).flatMap (λa=>l.map (g a))=(aT (P*l.length)).map λn=>g (n/l.length) (l.getD (n%l.length) 0)
 |0=>by simp
 |P+1=>by
  rw[eL,List.flatMap_append,Zgh g l P,Nat.succ_mul,List.range_add,dD,List.flatMap_singleton,fp];congr 1;refine List.ext_getElem (by simp) λi G H=>?_;have A:i<l.length:=by rw[bA]at G;exact G
  rw[fw,fw,List.getElem_range];show g P l[i]=g ((P*l.length+i)/l.length) (l.getD ((P*l.length+i)%l.length) 0);rw[Nat.mul_comm P,Nat.mul_add_div (by omega),Nat.div_eq_of_lt A,Nat.add_zero,Nat.mul_add_mod,Nat.mod_eq_of_lt A,aA,aC A];rfl
theorem Ze5 (d:ZU):∀l:List ZU,Xg (l++[d])=(Xg l).flatMap λx=>d.by_.map λn=>x++[n]
 |[]=>by
  show(d.by_.flatMap λn=>(Xg []).map λx=>n::x)=_;unfold Xg;simp[List.map_eq_flatMap]
 |e::l=>by
  show(e.by_.flatMap λn=>(Xg (l++[d])).map λx=>n::x)=(e.by_.flatMap λn=>(Xg l).map λx=>n::x).flatMap λx=>d.by_.map λn=>x++[n];rw[Ze5 d l,List.flatMap_assoc];congr 1;funext n;rw[List.map_flatMap,io];congr 1;funext x;rw[fp];rfl
theorem Znq (ds:List ZU) (m n:Nat) (hm:m<6):ZjK ds (m+1) n=ZjK ds m (n/lenAt ds m)++[(ds.getD m default).by_.getD (n%lenAt ds m) 0]:=by
 unfold ZjK;rw[eL,dD,List.map_singleton];congr 1
 ·refine fD λi A=>?_;have A:=bZ.1 A;show _=(ds.getD i default).by_.getD ((Ye ds m (n/lenAt ds m)).getD i 0).toNat 0;congr 2;show((Ye ds m (n/lenAt ds m)).set m _).getD i 0=_;rw[aA,cQ (by omega),<-aA]
 congr 2;show(((Ye ds m (n/lenAt ds m)).set m ((n%lenAt ds m:Nat):Int)).getD m 0).toNat=_;rw[aA,cS (by rw[Yc];exact hm)];exact aW _
theorem Ze4 (ds:List ZU) (A:ds.length<=6):∀m,m<=ds.length->Xg (ds.take m)=(aT (Yw ds m)).map (ZjK ds m)
 |0,_=>rfl
 |m+1,hm=>by
  have e:ds.take (m+1)=ds.take m++[ds.getD m default]:=by
   rw[List.take_add_one,aC (by omega),aA,aC (by omega)];rfl
  rw[e,Ze5,Ze4 ds A m (by omega),io,Zgh (λa n=>ZjK ds m a++[n])];show(aT (Yw ds m*lenAt ds m)).map _=(aT (Yw ds m*lenAt ds m)).map _;refine fD λn _=>?_;rw[Znq ds m n (by omega)];rfl
theorem ZfY {t:Zb} (A:t.delays.length<=6):Xg t.delays=(aT (manyT t)).map λn=>Y8 t (Zk t n):=by
 have h:=Ze4 t.delays A t.delays.length (aJ _);rw[List.take_length]at h;exact h
theorem Zkb {t:Zb} (A:t.delays.length<=6) (G:∀d∈t.delays,d.by_.length<=3):manyT t<=729:=by
 have h:=Zb1 t.delays G;rw[ZfY A,bA,cZ]at h;exact cF h (cF (Nat.pow_le_pow_right (by decide) A) (by decide))
def Zef (x:ZbV) (n:Int) (first:Bool):ZbV:=bif first then⟨n,n⟩else⟨min x.fr n,max x.to_ n⟩
def ZrL (f:Nat->Int) (n:Nat):ZbV:=⟨(ZbS f n).fr,(ZbS f n).to_⟩
theorem ZrM (f:Nat->Int):∀n,(ZbS f n).some_=decide (0<n)
 |0=>rfl
 |n+1=>by
  show((ZbS f n).add (f n)).some_=_;unfold Wd.add;rw[iX (by omega)];split<;>rfl
theorem ZoF (f:Nat->Int) (n:Nat):ZrL f (n+1)=Zef (ZrL f n) (f n) (n==0):=by
 unfold ZrL Zef;show ZbV.mk ((ZbS f n).add (f n)).fr ((ZbS f n).add (f n)).to_=_;unfold Wd.add;rw[ZrM];match n with
 |0=>rfl
 |n+1=>rw[iQ (by simp)];rfl
theorem ZgV (t:Zb) (f:Nat->Nat->Int) {r a:Int} (G:StopIn (callsOf t) r a):((Zaj t f).length:Int)=(callsOf t).length/\(((Zaj t f).getD r.toNat []).length:Int)=(Zm (callsOf t) r).length/\((Zaj t f).getD r.toNat []).getD a.toNat 0=f r.toNat a.toNat:=by
 obtain⟨A,H,J,I⟩:=G;have e:ZaE t r.toNat=(Zm (callsOf t) r).length:=by unfold ZaE;rw[f9 A]
 refine⟨by rw[Zks],?_,Zm6 t f (by omega) (by rw[e];omega)⟩;rw[ZgU t f (by omega),bA,cZ,e]
theorem ZjH {A:(α:Type)->α->List α->Int->α} (O:∀(α:Type) (d:α) (l:List α) (i:Int),A α d l i=l.getD i.toNat d) {t:Zb} {n:Nat} (V:n<manyT t) {r a:Int} (G:StopIn (callsOf t) r a):
  (((A WorldL default (Xq t) (n:Int)).come.length:Int)=(callsOf t).length/\((A (List Int) [] (A WorldL default (Xq t) (n:Int)).come r).length:Int)=(Zm (callsOf t) r).length/\A Int 0 (A (List Int) [] (A WorldL default (Xq t) (n:Int)).come r) a=(ZR t (Zk t n) r a).comes)/\
  (((A WorldL default (Xq t) (n:Int)).ready.length:Int)=(callsOf t).length/\((A (List Int) [] (A WorldL default (Xq t) (n:Int)).ready r).length:Int)=(Zm (callsOf t) r).length/\A Int 0 (A (List Int) [] (A WorldL default (Xq t) (n:Int)).ready r) a=(ZR t (Zk t n) r a).ready)/\
  (((A WorldL default (Xq t) (n:Int)).go.length:Int)=(callsOf t).length/\((A (List Int) [] (A WorldL default (Xq t) (n:Int)).go r).length:Int)=(Zm (callsOf t) r).length/\A Int 0 (A (List Int) [] (A WorldL default (Xq t) (n:Int)).go r) a=(ZR t (Zk t n) r a).goes):=by
 simp only[O,aW,ZhK t V];have S:((r.toNat:Nat):Int)=r:=f9 G.1;have U:((a.toNat:Nat):Int)=a:=f9 G.2.2.1;have I:=ZgV t (λr i=>(ZR t (Zk t n) r i).comes) G;have H:=ZgV t (λr i=>(ZR t (Zk t n) r i).ready) G;have J:=ZgV t (λr i=>(ZR t (Zk t n) r i).goes) G;rw[S,U]at I H J;exact⟨I,H,J⟩
end Sp
namespace Vm
open Sp
def QL (w:WorldL):List AV:=[lst 1 Z0 [] w.come,lst 1 Z0 [] w.ready,lst 1 Z0 [] w.go]
end Vm
namespace Sp
open Vm
theorem ZfM:∀ {l:List Pc} {r a:Int},(∀p∈l,p.bef<=1099511627776)->0<=a/\a<=1099511627776->a<=Xl l r a/\Xl l r a<=1099511627776
 |[],r,a,_,h=>by unfold Xl XO;exact⟨h.2,bR _⟩
 |p::l,r,a,hl,h=>by
  unfold Xl;have G:=hl p (aU ..);split
  ·omega
  exact ZfM (λq A=>hl q (aR _ A)) h
theorem Zdo {G:List Zone} (U:∀z∈G,ZB z=0) {day:Int} {many:Nat}:∀(S:List Stop) (i:Nat) (A:Int),0<=A/\A<=1099511627776->(∀s∈S,0<=s.zone/\s.zone<G.length)->∀c∈Xj G day many i A S,0<=c.arrive/\c.arrive<=c.depart/\c.depart<=1099511627776
 |[],_,_,_,_,c,H=>by unfold Xj at H;cases H
 |s::r,i,A,hn,hs,c,H=>by
  have aa:=hs s (aU ..);have V:G.getD s.zone.toNat default∈G:=by rw[aA,aC (by omega)];exact bL _
  have J:=λp J=>((Zeo (U _ V)).2 p J).2.2.2.1;have hr:=λq Z=>hs q (aR _ Z);unfold Xj at H;split at H
  ·have I:0<=(if i+1<many then Xl (ZW (G.getD s.zone.toNat default)) (1440*day+s.depart) A else 0)/\(if i+1<many then Xl (ZW (G.getD s.zone.toNat default)) (1440*day+s.depart) A else 0)<=1099511627776:=by
    split
    ·have:=ZfM (r:=1440*day+s.depart) J hn;omega
    omega
   rcases bG.1 H with rfl|H
   ·exact⟨I.1,bR _,I.2⟩
   exact Zdo U r _ _ I hr c H
  have Y:=ZfM (r:=1440*day+s.arrive) J hn;have I:Xl (ZW (G.getD s.zone.toNat default)) (1440*day+s.arrive) A<=(if i+1<many then Xl (ZW (G.getD s.zone.toNat default)) (1440*day+s.depart) (Xl (ZW (G.getD s.zone.toNat default)) (1440*day+s.arrive) A)else Xl (ZW (G.getD s.zone.toNat default)) (1440*day+s.arrive) A)/\
    (if i+1<many then Xl (ZW (G.getD s.zone.toNat default)) (1440*day+s.depart) (Xl (ZW (G.getD s.zone.toNat default)) (1440*day+s.arrive) A)else Xl (ZW (G.getD s.zone.toNat default)) (1440*day+s.arrive) A)<=1099511627776:=by
   split
   ·exact ZfM J ⟨by omega,Y.2⟩
   exact⟨bR _,Y.2⟩
  rcases bG.1 H with rfl|H
  ·exact⟨by show 0<=Xl _ _ _;omega,I⟩
  exact Zdo U r _ _ ⟨by omega,I.2⟩ hr c H
theorem Zu1 {b:Xv} (h:Zmx b) {t:Train} {day:Int} (A:t∈QS b day):Zd5 b.zones.length t:=by
 unfold QS at A;split at A
 ·exact h.old t A
 exact h.new t A
theorem Zu5 {b:Xv} {n d:Int} (h:(J1 b n d).2=0):∀c∈(J1 b n d).1,0<=c.arrive/\c.arrive<=c.depart/\c.depart<=1099511627776:=by
 unfold J1 at*;split
 ·intro c A;cases A
 rename_i I;split
 ·intro c A;cases A
 split
 ·intro c A;cases A
 rename_i S;split
 ·intro c A;cases A
 have G:=ZcO (bO I);have H:(place (QS b d) n).toNat<(QS b d).length:=by
  have:=Xi (q:=λt:Train=>decide (t.number=n)) (l:=QS b d) (i:=0) (by omega);unfold place at*;omega
 have hm:(QS b d).getD (place (QS b d) n).toNat default∈QS b d:=by
  rw[aA,aC H];exact bL _
 exact Zdo G.zones _ 0 0 ⟨by omega,by omega⟩ λs J=>((Zu1 G hm).stops s J).zone
theorem Zkn {α:Type} {q:α->Bool} {d:α}:∀ {l:List α} {i:Int} {k:Nat},k<l.length->q (l.getD k d)=true->i<=Zr q i l/\Zr q i l<=i+k
 |[],_,k,h,_=>by simp at h
 |x::r,i,0,_,hq=>by
  have A:q x=true:=hq;rw[Zr,iQ A];omega
 |x::r,i,k+1,h,hq=>by
  rw[Zr];split
  ·omega
  have:=Zkn (l:=r) (i:=i+1) (k:=k) (by simpa using h) hq;omega
theorem XM {t:Zb} (h:Zq t=0):Zz t:=by
 unfold Zq at h;split at h
 ·exact absurd h (by assumption)
 split at h
 ·exact absurd h (by assumption)
 rename_i h0 U;split at h
 ·cases h
 split at h
 ·exact absurd h (by assumption)
 rename_i h2 H;split at h
 ·cases h
 rename_i h4;have hr:=bO U;have hw:=ZZ (bO H);have hd:=ZZ h;have ai:=J6 hr;have ak:t.runs.length=(callsOf t).length:=by unfold callsOf;rw[bA]
 have J:∀r:Int,0<=r->r<(callsOf t).length->(∀c∈Zm (callsOf t) r,0<=c.arrive/\c.arrive<=c.depart/\c.depart<=1099511627776)/\Xe (Zm (callsOf t) r)=0:=λr U h2=>by
  unfold QJ at hr;split at hr
  ·cases hr
  split at hr
  ·cases hr
  have H:=ZZ hr r.toNat (by omega) (by omega);have e:Zm (callsOf t) r=YF t (t.runs.getD r.toNat default):=by
   unfold Zm callsOf;rw[aA,aP,aA,aC (by omega)];rfl
  rw[e];unfold Y9 at H;split at H
  ·exact absurd H (by assumption)
  rename_i h4;split at H
  ·cases H
  rename_i A;exact⟨Zu5 (bO h4),bO A⟩
 have Z:∀r a,StopIn (callsOf t) r a->Zu (callsOf t) r a∈Zm (callsOf t) r:=λr a G=>by
  unfold Zu;rw[aA,aC (by have:=G.2.2.2;have:=G.2.2.1;omega)];exact bL _
 have S:∀r a,StopIn (callsOf t) r a->0<a->(Zu (callsOf t) r (a-1)).depart<(Zu (callsOf t) r a).arrive:=λr a G ha=>by
  have U:=(J r G.1 G.2.1).2;have h2:=G.2.2.2;have H:=ZZ U a.toNat (by omega) (by omega);unfold YM at H;split at H
  ·cases H
  rename_i h4;unfold Zu;rw[show(a-1).toNat=a.toNat-1 by omega];omega
 refine⟨ai,λr a G=>(J r G.1 G.2.1).1 _ (Z r a G),S,by omega,by omega,λw ah=>?_,λd ac=>?_⟩
 ·obtain⟨i,hi,Y⟩:=JB (d:=default) ah;have A:=hw i (by omega) (by omega);rw[Y]at A;unfold Qf at A;split at A
  ·cases A
  rename_i g1;split at A
  ·cases A
  split at A
  ·cases A
  rename_i g3;split at A
  ·cases A
  rename_i V;split at A
  ·cases A
  rename_i g5;have b1:0<=w.feeder/\w.feeder<=((callsOf t).length:Int)-1:=QK (by cases hq:Qq w.feeder 0 ((callsOf t).length-1)with|false=>rfl|true=>exact absurd (by rw[hq];rfl) g1);have b4:=QK (by simpa using V);have s1:=XK (Zm (callsOf t) w.feeder) 1 w.station;have aj:1<=ZD (Zm (callsOf t) w.feeder) w.station:=by
   have:¬ZD (Zm (callsOf t) w.feeder) w.station<0:=λh=>g3 (.inl h);unfold ZD at*;omega
  refine⟨b1.1,by omega,aj,b4.1,b4.2,λa G al ae=>?_⟩;have hg:0<=ZQ (Zm (callsOf t) w.train) w.station:=by
   have:¬ZQ (Zm (callsOf t) w.train) w.station<0:=λh=>g3 (.inr h);omega
  have ab:ZQ (Zm (callsOf t) w.train) w.station=Zx (Zm (callsOf t) w.train) 0 w.station:=by
   unfold ZQ at*;split at hg
   ·rw[iQ (by assumption)]
   omega
  have am:Zx (Zm (callsOf t) w.train) 0 w.station<=a:=by
   have:=Zkn (q:=λc:Call=>decide (c.station=w.station)) (d:=default) (l:=Zm (callsOf t) w.train) (i:=0) (k:=a.toNat) (by have:=G.2.2.2;have:=G.2.2.1;omega) (iX ae);have h0:=G.2.2.1;unfold Zx;rw[show max 0 (0:Int)=0 from rfl,show(0:Int).toNat=0 from rfl,List.drop_zero];omega
  have aa:∀(n:Nat) (g:Int),0<=g->StopIn (callsOf t) w.train (g+n)->(Zu (callsOf t) w.train g).depart<=(Zu (callsOf t) w.train (g+n)).depart:=by
   intro n;induction n with
   |zero=>intro g _ _;rw[show g+((0:Nat):Int)=g by omega];exact bR _
   |succ n ih=>
    intro g h0 I;have hp:StopIn (callsOf t) w.train (g+n):=⟨I.1,I.2.1,by omega,by have:=I.2.2.2;omega⟩;have U:=ih g h0 hp;have h2:=S w.train (g+((n+1:Nat):Int)) I (by omega);rw[show g+((n+1:Nat):Int)-1=g+n by omega]at h2;have H:=((J w.train I.1 I.2.1).1 _ (Z _ _ I)).2.1;omega
  have hm:=aa (a-Zx (Zm (callsOf t) w.train) 0 w.station).toNat (Zx (Zm (callsOf t) w.train) 0 w.station) (by omega) (by rw[show Zx (Zm (callsOf t) w.train) 0 w.station+((a-Zx (Zm (callsOf t) w.train) 0 w.station).toNat:Int)=a by omega];exact G);rw[show Zx (Zm (callsOf t) w.train) 0 w.station+((a-Zx (Zm (callsOf t) w.train) 0 w.station).toNat:Int)=a by omega]at hm;have g6:¬(Zu (callsOf t) w.train (ZQ (Zm (callsOf t) w.train) w.station)).depart<(Zu (callsOf t) w.feeder (ZD (Zm (callsOf t) w.feeder) w.station)).arrive:=g5;rw[ab]at g6;omega
 obtain⟨i,hi,Y⟩:=JB (d:=default) ac;have A:=hd i (by omega) (by omega);rw[Y]at A;unfold Qy at A;split at A
 ·cases A
 split at A
 ·cases A
 rename_i g2;split at A
 ·cases A
 rename_i g3;split at A
 ·exact absurd A (by assumption)
 rename_i V;have V:=ZZ (bO V);refine⟨by omega,by omega,λn hn=>?_⟩;obtain⟨k,hk,Y⟩:=JB (d:=0) hn;have h6:=V k (by omega) (by omega);unfold ZeO at h6;rw[Y]at h6;split at h6
 ·cases h6
 rename_i h7;exact QK (by simpa using h7)
end Sp
end Go.Proofs.YtjgpiclllehgmaaGreat
