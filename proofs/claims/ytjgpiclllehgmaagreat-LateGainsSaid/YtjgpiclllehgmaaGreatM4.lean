/- Lemmas. -/
import Derived.Test.YtjgpiclllehgmaaGreatM3
set_option linter.all false
open Array renaming getD_eq_getD_getElem?->aI,getElem?_setIfInBounds->bS,replicate->dK
open Bool renaming and_eq_true->aS
open Go.Frame renaming enter->dO
open List renaming all_eq_true->bM,getD_eq_getElem?_getD->aA,getElem?_append->dZ,getElem?_cons_succ->cM,getElem?_cons_zero->bJ,getElem?_eq_getElem->aC,getElem?_eq_some_iff->aE,getElem?_map->aP,length_cons->bF,length_map->bA,length_range->cZ,mapM_cons->gi,mem_cons->bG,mem_cons_of_mem->aR,mem_cons_self->aU,mem_map->bE,mem_of_getElem?->aZ,mem_range->bZ,nodup_cons->ee,nodup_nil->ey,range->aT,range_eq_range'->eU
open Nat renaming add_mul->dI,le_refl->aJ,le_trans->cF,lt_irrefl->dJ,mul_le_mul_right->aL,sub_self->eJ,succ_mul->bI
open Option renaming map_eq_some_iff->aG
open Option.some renaming injEq->aD
open Prod.mk renaming injEq->aK
open Go.Result renaming andThen_ok->aH
open Go.Sem renaming run_bind->aQ,run_pure->bC
namespace Go.Proofs.YtjgpiclllehgmaaGreat
namespace Vm
open Go Conc1
def Qx (id:Nat):List Nat->Nat->Option Nat
 |[],_=>none
 |x::r,j=>if ZK x id then some j else Qx id r (j+1)
theorem Zaa {id:Nat}:∀ {l:List Nat} {k j:Nat},Qx id l k=some j->k<=j/\l[j-k]? =some id
 |[],_,_,h=>by simp[Qx]at h
 |x::r,k,j,h=>by
  simp only[Qx]at h;split at h
  ·rename_i G;simp only[aD]at h;subst h;rw[eJ];exact⟨aJ _,by rw[ZF G];rfl⟩
  obtain⟨H,A⟩:=Zaa h;exact⟨by omega,by rw[show j-k=(j-(k+1))+1 from by omega];exact A⟩
theorem Yi {id:Nat}:∀ {l:List Nat} {k:Nat},Qx id l k=none->id∉l
 |[],_,_=>by simp
 |x::r,k,h=>by
  simp only[Qx]at h;split at h
  ·cases h
  rename_i A;have:=Yi h;intro hm;rcases bG.1 hm with rfl|hm
  ·exact A (by simp[ZK])
  exact this hm
def Zqq (n:Nat) (f:(Unit->Int)->List AV):Bool:=decide (∀i,i<n->(f λ_=>(i:Int)).all XY=true)
def QE (fz:Bool) (ι:List Nat) (h:List Zi):Nat->AV->AV
 |0,_=>.undef
 |k+1,a=>(match a with
  |.ptr id A=>(match Qx id ι 0 with
   |some j=>.ptr j A
   |none=>if fz then(match Jw h id with
    |some cs=>if(cs.map λc=>purify (QE fz ι h k c)).all XY then .iptr (cs.map λc=>purify (QE fz ι h k c)) A else .undef
    |none=>.undef)else .undef)
  |.aptr id s e A=>(match Qx id ι 0 with
   |some j=>.aptr j s e A
   |none=>.undef)
  |.msl id s lo m c=>(match Qx id ι 0 with
   |some j=>.msl j s lo m c
   |none=>if fz then(match h[id]? with
    |some (.arr s' len f)=>if ZK s s' then .gd (λ_=>decide (0<=lo ()/\lo ()+m ()<=len ())) (.isl s m (λe=>f λ_=>lo ()+e ()) .none)else .undef
    |_=>.undef)else .undef)
  |.gsl id m=>(match Qx id ι 0 with
   |some j=>.gsl j m
   |none=>if fz then(match h[id]? with
    |some (.gar s m' f)=>.gd (λ_=>decide (m ()=m' ())) (.isl s m' f .none)
    |some (.fro s m' f)=>.gd (λ_=>decide (m ()=m' ())) (.isl s m' f .none)
    |some (.vgar s m' f)=>.gd (λ_=>decide (m ()=m' ())&&Zqq (m' ()).toNat (λe=>(f e).map λc=>purify (QE fz ι h k c))) (.isl s m' (λe=>(f e).map λc=>purify (QE fz ι h k c)) .none)
    |_=>.undef)else .undef)
  |.gptr id s m e A=>(match Qx id ι 0 with
   |some j=>.gptr j s m e A
   |none=>.undef)
  |.nsub id e l=>(match Qx id ι 0 with
   |some j=>.nsub j e l
   |none=>if fz then(match h[id]? with
    |some (.fam _ s _ _ g)=>.isl s l (g e) .none
    |_=>.undef)else .undef)
  |.nptr id s e q A=>(match Qx id ι 0 with
   |some j=>.nptr j s e q A
   |none=>.undef)
  |.lit s cs=>.lit s (cs.map (QE fz ι h k))
  |.map id=>(match Qx id ι 0 with
   |some j=>.map j
   |none=>if fz then(match h[id]? with
    |some (.gob (.mapL ka n L))=>.imap ka n L
    |_=>.undef)else .undef)
  |.mit id=>(match Qx id ι 0 with
   |some j=>.mit j
   |none=>.undef)
  |.yld id=>(match Qx id ι 0 with
   |some j=>.yld j
   |none=>.undef)
  |.isl s m f (.own id)=>(match Qx id ι 0 with
   |some j=>.isl s m f (.own j)
   |none=>.isl s m f .none)
  |.fn f G H=>.fn f (G.map (QE fz ι h k)) (H.map (QE fz ι h k))
  |.agg cs=>.agg (cs.map (QE fz ι h k))
  |.tup cs=>.tup (cs.map (QE fz ι h k))
  |.gd g v=>.gd g (QE fz ι h k v)
  |a=>a)
def ZvZ (fz:Bool) (z l:Nat):Nat:=match fz with
 |true=>z
 |false=>l
def ZT (fz:Bool) (ι:List Nat) (h:List Zi):Zi->Zi
 |.cells cs=>.cells (cs.map (QE fz ι h 5))
 |.loop s d=>.loop (s.map (QE fz ι h 5)) d
 |.vgar s n f=>.vgar s n λe=>(f e).map (QE fz ι h 5)
 |.fam z s n m g=>.fam (ZvZ fz z ι.length) s n m g
 |b=>b
def Zf7 (fz:Bool) (ι:List Nat) (h:List Zi):List Nat->List Zi
 |[]=>[]
 |i::r=>(match h[i]? with
  |some b=>ZT fz ι h b
  |none=>.dead)::Zf7 fz ι h r
def sel (fz:Bool) (ι:List Nat) (h:List Zi):List Zi:=Zf7 fz ι h ι
theorem Zbl {fz:Bool} {ι:List Nat} {h:List Zi}:∀ {l:List Nat},(Zf7 fz ι h l).length=l.length
 |[]=>rfl
 |_::r=>by simp[Zf7,Zbl (l:=r)]
theorem ZcB {fz:Bool} {ι:List Nat} {h:List Zi}:∀ {l:List Nat} {j:Nat} {x:Zi},(∀i∈l,i<h.length)->(Zf7 fz ι h l)[j]? =some x->∃i b,l[j]? =some i/\h[i]? =some b/\x=ZT fz ι h b
 |[],j,x,_,hx=>by simp[Zf7]at hx
 |i::r,j,x,hl,hx=>by
  simp only[Zf7]at hx;have A:=hl i (aU ..);rw[aC A]at hx;cases j with
  |zero=>
   simp only[bJ,aD]at hx;exact⟨i,_,rfl,aC A,hx.symm⟩
  |succ j=>
   simp only[cM]at hx;exact ZcB (l:=r) (λi A=>hl i (aR _ A)) hx
theorem ZaV {R R':RC} {fz:Bool} {ι:List Nat} {h:List Zi} {i j:Nat} (A:R'.α j=R.α i) (G:R'.hv j=R.hv i) {blk:Zi} {b:Nat}:ZE R' j (ZT fz ι h blk) b↔ZE R i blk b:=by
 cases blk with
 |_=>simp only[ZT,ZE,A,G]
theorem Zhe {R R':RC} {fz:Bool} {ι:List Nat} {h:List Zi} {i j:Nat} (A:R'.α j=R.α i) (G:R'.hv j=R.hv i) {blk:Zi} {b o m:Nat}:Qo R' j (ZT fz ι h blk) b o m↔Qo R i blk b o m:=by
 cases blk with
 |_=>simp only[ZT,Qo,ZE,A,G]
theorem Zo5 {fz:Bool} {ι:List Nat} {h:List Zi} {blk:Zi}:Zaz (ZT fz ι h blk)=Zaz blk:=by
 cases blk<;>rfl
section
variable {R R':RC} {h:List Zi} {ι:List Nat} {fz:Bool}
theorem Zsw {G:Nat->Nat->Nat->Prop} (H:HR G R h) (hm:R'.m=ι.length) (hw:R'.w=R.w) (bh:∀j i,ι[j]? =some i->R'.α j=R.α i) (bk:∀j i,ι[j]? =some i->R'.hw j=R.hw i) (bg:∀j i,ι[j]? =some i->R'.hv j=R.hv i)
  (au:∀b o n,R.ok b o n->R'.ok b o n) (aa:fz=true->∀id blk b,id∉ι->h[id]? =some blk->ZE R id blk b->∀o n,R'.ok b o n):∀(k:Nat) {a:AV} {v:Value},VR R a v->VR R' (QE fz ι h k a) v:=by
 have ac:∀ {a:AV} {v:Value},PR R.w R.ok a v->PR R'.w R'.ok a v:=λh=>h.mono au (λ_ _ _ _ _ _=>by rw[hw]) (λ_ _ _ _ h=>by rw[hw];exact h);have lt:∀ {id j:Nat},Qx id ι 0=some j->j<R'.m/\R'.α j=R.α id/\R'.hw j=R.hw id/\R'.hv j=R.hv id:=λ{id j} h=>by
  obtain⟨_,I⟩:=Zaa h;rw[Nat.sub_zero]at I;exact⟨by rw[hm];exact(aE.1 I).1,bh _ _ I,bk _ _ I,bg _ _ I⟩
 intro k;induction k with
 |zero=>exact λ_=>.undef _
 |succ k ih=>
  intro a v hv;cases hv with
  |pure _ _ hp=>
   cases hp with
   |isl0 s m f tk h0 ht=>cases tk with
    |own id=>cases ht
    |nn=>cases ht
    |_=>exact .pure _ _ (.isl0 _ _ _ _ h0 ht)
   |islE s m f tk a h0 ht=>cases tk with
    |own id=>exact absurd ht (λh=>by cases h<;>contradiction)
    |nn=>exact absurd ht (λh=>by cases h<;>contradiction)
    |_=>exact .pure _ _ (.islE _ _ _ _ a h0 ht)
   |isl s m f tk b o len ai us hn hc ht Z hl J I S=>cases tk with
    |own id=>exact absurd ht (λh=>by cases h<;>contradiction)
    |nn=>exact absurd ht (λh=>by cases h<;>contradiction)
    |_=>exact .pure _ _ (ac (.isl _ _ _ _ b o len ai us hn hc ht Z hl J I S))
   |iptr cs ab b o us J I S=>exact .pure _ _ (ac (.iptr cs ab b o us J I S))
   |bool b=>exact .pure _ _ (.bool b)
   |int k n=>exact .pure _ _ (.int k n)
   |str s=>exact .pure _ _ (.str s)
   |nilptr=>exact .pure _ _ .nilptr
   |cch c=>exact .pure _ _ (.cch c)
   |imap ka n L b es ak J I S=>exact .pure _ _ (ac (.imap ka n L b es ak J I S))
   |imap0 ka n L h=>exact .pure _ _ (.imap0 ka n L h)
   |nilmap=>exact .pure _ _ .nilmap
   |nilfn=>exact .pure _ _ .nilfn
  |undef=>exact .undef _
  |ptr id ab ae=>
   simp only[QE];split
   ·rename_i j A;obtain⟨J,I,_,_⟩:=lt A;rw[<-I];exact .ptr j ab J
   rename_i A;split
   ·rename_i ah;split
    ·rename_i cs ar;split
     ·rename_i ap;obtain⟨arr,ty,J,I,S⟩:=H.blk id _ (Jq ar);refine .pure _ _ (.iptr _ ab (R.α id).b (R.α id).o (λj=>arr.getD ((R.α id).o+j) undef) (λj c hc=>?_) (λj c hc=>?_) (aa ah id _ _ (Yi A) (Jq ar) rfl _ _))
      ·have az:=(aE.1 hc).1;rw[bA]at az;rw[hw];exact Z4 J (by omega)
      rw[aP,aG]at hc;obtain⟨c0,V,rfl⟩:=hc;rw[bM]at ap;exact(ih (S j c0 V)).purify (ap _ (bE.2 ⟨c0,aZ V,rfl⟩))
     exact .undef _
    exact .undef _
   exact .undef _
  |nn s m f _ hp hv=>exact .nn s m f v (ac hp) hv
  |own s m f id _ ae hp hn Z=>
   simp only[QE];split
   ·rename_i j A;obtain⟨J,_,I,S⟩:=lt A;exact .own s m f j v J (ac hp) (by rw[I];exact hn) (by rw[I,S];exact Z)
   exact .pure _ _ (ac hp)
  |aptr id s e ab i ae Z=>
   simp only[QE];split
   ·rename_i j A;obtain⟨J,I,_,_⟩:=lt A;rw[<-I];exact .aptr j s e ab i J Z
   exact .undef _
  |gptr id s m e ab a ae hn Z=>
   simp only[QE];split
   ·rename_i j A;obtain⟨J,_,I,S⟩:=lt A;exact .gptr j s m e ab a J (by rw[I];exact hn) (by rw[I,S];exact Z)
   exact .undef _
  |msl id s lo m c i len ai ae be hn hc aw=>
   simp only[QE];split
   ·rename_i j A;obtain⟨J,I,_,_⟩:=lt A;rw[<-I];exact .msl j s lo m c i len ai J be hn hc aw
   rename_i A;split
   ·rename_i ah;split
    ·rename_i s' ln f Y;split
     ·rename_i hs;have hs:=ZF hs;subst hs;refine .gd _ _ _ λU=>?_;have U:=iU U;obtain⟨arr,ty,l0,J,I,S,h4⟩:=H.blk id _ Y;have bc:i+len<=l0:=by omega
      have al:(i+len)*s<=l0*s:=aL _ bc;rw[dI]at al;have am:∀k:Nat,(f λ_=>lo ()+((λ_:Unit=>(k:Int)) ()))=f λ_=>((i+k:Nat):Int):=λk=>congrArg f (funext λ_=>by show lo ()+(k:Int)=_;omega);refine .pure _ _ (.isl _ _ _ _ (R.α id).b ((R.α id).o+i*s) len ai (λk j=>arr.getD ((R.α id).o+i*s+k*s+j) undef) hn aw (.inl rfl) (λh=>by cases h) (λk hk=>?_) (λk j c hk A=>?_) (λk j c hk A=>?_) (aa ah id _ _ (Yi A) Y rfl _ _))
      ·simp only[am];exact(h4 (i+k) (by omega)).1
      ·simp only[am]at A;have a9:j<s:=by rw[<-(h4 (i+k) (by omega)).1];exact(aE.1 A).1
       have:(k+1)*s<=len*s:=aL _ hk;rw[bI]at this;rw[hw];exact Z4 J (by omega)
      simp only[am]at A;have:=ac ((h4 (i+k) (by omega)).2 j c A);rw[dI]at this;rw[show(R.α id).o+i*s+k*s+j=(R.α id).o+(i*s+k*s)+j from by omega];exact this
     exact .undef _
    exact .undef _
   exact .undef _
  |gsl id m a l c ae hn Z hl=>
   simp only[QE];split
   ·rename_i j A;obtain⟨J,_,I,S⟩:=lt A;exact .gsl j m a l c J (by rw[I];exact hn) (by rw[I,S];exact Z) hl
   rename_i A;split
   ·rename_i ah;split
    ·rename_i s m' f Y;refine .gd _ _ _ λU=>?_;have U:=iU U;obtain⟨e1,J⟩:=H.blk id _ Y;have hv:(Value.slice a l c)=R.hv id:=Z (by rw[U,e1]);rw[hv];rcases J with⟨J,a0,I⟩|⟨b,o,len,ai,arr,ty,J,I,S,h4,h5,h6⟩
     ·rw[I];cases a0 with
      |none=>exact .pure _ _ (.isl0 _ _ _ _ J rfl)
      |some a0=>exact .pure _ _ (.islE _ _ _ _ a0 J (.inl rfl))
     rw[S];rcases Nat.eq_zero_or_pos ai with V|V
     ·rw[V,show len=0 by omega];exact .pure _ _ (.islE _ _ _ _ ⟨b,o,none⟩ (by omega) (.inl rfl))
     have al:len*s<=ai*s:=aL _ I;refine .pure _ _ (.isl _ _ _ _ b o len ai (λk j=>arr.getD (o+k*s+j) undef) J I (.inl rfl) (λh=>by cases h) (λk hk=>(h6 k hk).1) (λk j c hk A=>?_) (λk j c hk A=>ac ((h6 k hk).2 j c A)) (aa ah id _ _ (Yi A) Y ⟨_,_,_,S,V,rfl⟩ _ _));have a9:j<s:=by rw[<-(h6 k hk).1];exact(aE.1 A).1
     have:(k+1)*s<=len*s:=aL _ hk;rw[bI]at this;rw[hw];exact Z4 h4 (by omega)
    ·rename_i s m' f Y;refine .gd _ _ _ λU=>?_;have U:=iU U;obtain⟨e1,J⟩:=H.blk id _ Y;have hv:(Value.slice a l c)=R.hv id:=Z (by rw[U,e1]);rw[hv];exact .pure _ _ (ac J)
    ·rename_i s m' f Y;refine .gd _ _ _ λU=>?_;simp only[aS]at U;obtain⟨U,ao⟩:=U;have U:=iU U;have ao:=iU ao;obtain⟨e1,J⟩:=H.blk id _ Y;have hv:(Value.slice a l c)=R.hv id:=Z (by rw[U,e1]);rw[hv];have I:J4 (PR R'.w R'.ok) R.w s m' (λe=>(f e).map λc=>purify (QE fz ι h k c)) (R.hv id):=J.cong rfl (λi _=>by simp) λi hi j c A=>by
      rw[aP,aG]at A;obtain⟨c0,V,rfl⟩:=A;refine⟨c0,V,λu hu=>(ih hu).purify ?_⟩;have:=ao i (by omega);rw[bM]at this;exact this _ (bE.2 ⟨c0,aZ V,rfl⟩)
     rw[<-hw]at I;refine .pure _ _ (I.isl λb hp o n=>aa ah id _ _ (Yi A) Y ?_ _ _);exact hp
    exact .undef _
   exact .undef _
  |nsub id e l a ll c us i ae aj Z hu hl=>
   simp only[QE];split
   ·rename_i j A;obtain⟨J,_,I,S⟩:=lt A;exact .nsub j e l a ll c us i J (S.trans aj) Z hu hl
   rename_i A;split
   ·rename_i ah;split
    ·rename_i z s n m g Y;obtain⟨_,_,bl,aq,_,ha,_⟩:=H.blk id _ Y;rw[aj]at aq;cases aq;have J:=ha i _ hu;have ba:e=λ_=>(i:Int):=funext λ_=>Z;subst ba;have I:J4 (PR R'.w R'.ok) R.w s l (g λ_=>(i:Int)) (.slice a ll c):=J.cong (hl.1.trans J.len.1.symm) (λ_ _=>rfl) λi' _ j c A=>⟨c,A,λu hu=>ac hu⟩;rw[<-hw]at I;exact .pure _ _ (I.isl λb hp o n=>aa ah id _ _ (Yi A) Y ⟨us,aj,i,_,hu,hp⟩ _ _)
    exact .undef _
   exact .undef _
  |nptr id s e q ab us i b o l c j ae aj Z hu hk=>
   simp only[QE];split
   ·rename_i j' A;obtain⟨J,_,I,S⟩:=lt A;exact .nptr j' s e q ab us i b o l c j J (S.trans aj) Z hu hk
   exact .undef _
  |lit s cs b o us hs J I S=>
   simp only[QE];refine .lit s _ b o us (by rw[bA];exact hs) (λj c A=>?_) (λj c A=>?_) (au _ _ _ S)
   ·rw[aP,aG]at A;obtain⟨c0,V,rfl⟩:=A;rw[hw];exact J j c0 V
   rw[aP,aG]at A;obtain⟨c0,V,rfl⟩:=A;exact ih (I j c0 V)
  |map id ae=>
   simp only[QE];split
   ·rename_i j A;obtain⟨J,I,_,_⟩:=lt A;rw[<-I];exact .map j J
   rename_i A;split
   ·rename_i ah;split
    ·rename_i ka n L Y;obtain⟨o,ho,_,es,ak,rfl,U⟩:=H.blk id _ Y;exact .pure _ _ (.imap ka n L (R.α id).b es ak (by rw[hw];exact ho) U (aa ah id _ _ (Yi A) Y rfl _ _))
    exact .undef _
   exact .undef _
  |mit id ae h0=>
   simp only[QE];split
   ·rename_i j A;obtain⟨J,I,_,_⟩:=lt A;rw[<-I];exact .mit j J (by rw[I];exact h0)
   exact .undef _
  |yld id ae=>
   simp only[QE];split
   ·rename_i j A;obtain⟨J,I,_,_⟩:=lt A;rw[<-I];exact .yld j J
   exact .undef _
  |fn f xs bs us vs ha Y J I=>
   refine .fn f _ _ us vs (by simpa using ha) (by simpa using Y) (λj c A=>?_) (λj c A=>?_)
   ·rw[aP,aG]at A;obtain⟨x,hx,rfl⟩:=A;exact ih (J j x hx)
   rw[aP,aG]at A;obtain⟨x,hx,rfl⟩:=A;exact ih (I j x hx)
  |agg cs us ha h=>
   refine .agg _ us (by simpa using ha) (λj c A=>?_);rw[aP,aG]at A;obtain⟨x,hx,rfl⟩:=A;exact ih (h j x hx)
  |tup cs us ha h=>
   refine .tup _ us (by simpa using ha) (λj c A=>?_);rw[aP,aG]at A;obtain⟨x,hx,rfl⟩:=A;exact ih (h j x hx)
  |gd g a _ h=>exact .gd g _ _ λU=>ih (h U)
  |ob g b _ J I=>exact .ob g b _ J I
theorem HR.sel {G:Nat->Nat->Nat->Prop} (H:HR G R h) (G':Nat->Nat->Nat->Prop) (hG:∀b o n,R.ok b o n->G' b o n) (bm:∀b o n o' n',G' b o n->o<=o'->o'+n'<=o+n->G' b o' n') (bg:∀b o n,R.w.heap.size<=b->G' b o n)
  (bh:∀i blk b,i∈ι->h[i]? =some blk->Zaz blk=true->ZE R i blk b->∀o n,G' b o n) (bk:ι.Nodup) (a9:∀i∈ι,i<h.length)
  (aq:fz=true->∀id blk b,id∉ι->h[id]? =some blk->ZE R id blk b->∀o n,G' b o n) (ae:Nat) (ar:ae<=ι.length) (bl:fz=true->ae<=R.n0):
  ∃J,J.cx=R.cx/\J.n0=ae/\J.w=R.w/\J.m=ι.length/\(∀j i,ι[j]? =some i->J.α j=R.α i)/\(∀j i,ι[j]? =some i->J.hw j=R.hw i)/\(∀j i,ι[j]? =some i->J.hv j=R.hv i)/\HR G' J (sel fz ι h)/\(∀b o n,R.ok b o n->J.ok b o n)/\
   ∀k a v,VR R a v->VR J (QE fz ι h k a) v:=by
 let J:=Zlz R.cx G' ae R.w ι.length (λj=>R.α (ι.getD j 0)) (λj=>R.hw (ι.getD j 0)) (λj=>R.hv (ι.getD j 0)) (Vm.sel fz ι h);have Z:∀j i,ι[j]? =some i->J.α j=R.α i:=λj i hj=>by show R.α (ι.getD j 0)=_;rw[aA,hj];rfl
 have ap:∀j i,ι[j]? =some i->J.hw j=R.hw i:=λj i hj=>by show R.hw (ι.getD j 0)=_;rw[aA,hj];rfl
 have aa:∀j i,ι[j]? =some i->J.hv j=R.hv i:=λj i hj=>by show R.hv (ι.getD j 0)=_;rw[aA,hj];rfl
 have Y:∀ {j x},(Vm.sel fz ι h)[j]? =some x->∃i b,ι[j]? =some i/\h[i]? =some b/\x=ZT fz ι h b:=λhx=>ZcB a9 hx;have ai:∀b o n,R.ok b o n->J.ok b o n:=λb o n k=>by
  obtain⟨I,A,h3⟩:=(H.okd _ _ _).1 k;refine⟨I,hG _ _ _ k,λj x hx=>?_⟩;obtain⟨i,y,S,hy,rfl⟩:=Y hx;exact(Zhe (Z j i S) (aa j i S)).2 (h3 i y hy)
 have al:fz=true->∀id blk b,id∉ι->h[id]? =some blk->ZE R id blk b->∀o n,J.ok b o n:=λbe id blk b aw U hp o n=>by
  refine⟨H.phys_lt U hp,aq be id blk b aw U hp o n,λj x hx=>?_⟩;obtain⟨i,y,S,hy,rfl⟩:=Y hx;refine(Zhe (Z j i S) (aa j i S)).2 ?_;have az:i≠id:=λe=>aw (e▸aZ S);have au:∀ {b'},ZE R i y b'->b'≠b:=λab e=>H.dis i id y blk b az hy U (e▸ab) hp;cases y with
  |tok s1 bo=>exact λa len am hv hl bc=>absurd bc (au ⟨a,len,am,hv,hl,rfl⟩)
  |_=>exact λab=>au ab rfl
 have ac:∀k a v,VR R a v->VR J (QE fz ι h k a) v:=λk a v hv=>Zsw (R':=J) H rfl rfl Z ap aa ai al k hv;have aj:∀ {a:AV} {v:Value},PR R.w R.ok a v->PR J.w J.ok a v:=λh=>h.mono ai (λ_ _ _ _ _ _=>rfl) λ_ _ _ _ h=>h;refine⟨J,rfl,rfl,rfl,rfl,Z,ap,aa,⟨Zbl,λ_ _ _=>Iff.rfl,λj x hx=>?_,λi j bi bj b ba S hj hp ab=>?_,bm,bg,λj x b hx V hp o n=>?_,ar⟩,ai,ac⟩
 ·obtain⟨i,y,S,hy,rfl⟩:=Y hx;have U:=H.blk i y hy;have e1:=Z j i S;have e2:=ap j i S;have e3:=aa j i S;cases y with
  |cells cs=>
   obtain⟨arr,ty,I,A,h3⟩:=U;refine⟨arr,ty,by rw[e1];exact I,by rw[bA,e1];exact A,λk c V=>?_⟩;rw[aP,aG]at V;obtain⟨c0,ah,rfl⟩:=V;rw[e1];exact ac 5 _ _ (h3 k c0 ah)
  |arr s m f=>
   obtain⟨arr,ty,len,I,A,h3,h4⟩:=U;exact⟨arr,ty,len,by rw[e1];exact I,A,by rw[e1];exact h3,λk V=>⟨(h4 k V).1,λq c hq=>by rw[e1];exact aj ((h4 k V).2 q c hq)⟩⟩
  |tok s hw=>
   obtain⟨I,A⟩:=U;exact⟨e2.trans I,by rw[e3];exact A⟩
  |gar s m f=>
   obtain⟨I,A⟩:=U;refine⟨e2.trans I,?_⟩;rw[e3];rcases A with A|⟨b,o,len,am,arr,ty,g1,g2,g3,g4,g5,g6⟩
   ·exact .inl A
   exact .inr ⟨b,o,len,am,arr,ty,g1,g2,g3,g4,g5,λk V=>⟨(g6 k V).1,λq c hq=>aj ((g6 k V).2 q c hq)⟩⟩
  |vgar s m f=>
   obtain⟨I,A⟩:=U;refine⟨e2.trans I,?_⟩;rw[e3];exact A.cong rfl (λi _=>by simp) λi _ j c hj=>by
    rw[aP,aG]at hj;obtain⟨c0,ah,rfl⟩:=hj;exact⟨c0,ah,λu hu=>ac 5 _ _ hu⟩
  |fam z s n m g=>
   obtain⟨hz,I,us,hv,A,h3,h4⟩:=U;refine⟨?_,e2.trans I,us,e3.trans hv,A,λi v hu=>(h3 i v hu).mono (λ_ _ h=>aj h) λ_ _=>rfl,h4⟩;show ae<=ZvZ fz z ι.length;cases fz with
   |true=>exact cF (bl rfl) hz
   |false=>exact ar
  |fro s m f=>
   obtain⟨I,A⟩:=U;exact⟨e2.trans I,by rw[e3];exact aj A⟩
  |mapB m=>
   obtain⟨es,c,I,A⟩:=U;exact⟨es,c,by rw[e1];exact I,A⟩
  |gob g=>
   obtain⟨o,I,A,h3⟩:=U;exact⟨o,by rw[e1];exact I,A,by rw[e1];exact h3.tr rfl ai rfl⟩
  |main=>exact U
  |loop s d=>
   obtain⟨l,I,A,h3,h4,h5,h6,h7,h8⟩:=U;refine⟨l,by rw[e1];exact I,A,h3,h4,h5,h6,by rw[bA];exact h7,λk c V=>?_⟩;rw[aP,aG]at V;obtain⟨c0,ah,rfl⟩:=V;exact ac 5 _ _ (h8 k c0 ah)
  |dead=>trivial
 ·obtain⟨i',y,ak,hy,rfl⟩:=Y S;obtain⟨j',z,ao,hz,rfl⟩:=Y hj;have hp:=(ZaV (Z _ _ ak) (aa _ _ ak)).1 hp;have ab:=(ZaV (Z _ _ ao) (aa _ _ ao)).1 ab;refine H.dis i' j' y z b (λe=>ba ?_) hy hz hp ab;subst e;have I:=aE.1 ak;have A:=aE.1 ao;exact(List.getElem_inj (h₀:=I.1) (h₁:=A.1) bk).1 (by rw[I.2,A.2])
 obtain⟨i,y,S,hy,rfl⟩:=Y hx;rw[Zo5]at V;exact bh i y b (aZ S) hy V ((ZaV (Z _ _ S) (aa _ _ S)).1 hp) o n
end
end Vm
namespace Vm
open Go Conc1
def ZiR (T:Tb) (s:List AV) (h:List Zi):List ResultVar->Option (List AV×Cd)
 |[]=>some ([],[])
 |.tmp t::r=>(match ZiR T s h r with
  |some (vs,c)=>some (strip (ev s (.tmp t))::vs,ZaB (ev s (.tmp t))++c)
  |none=>none)
 |.cell a ty::r=>(match ev s (.tmp a),T.ti ty,ZiR T s h r with
  |.ptr id off,some I,some (vs,c)=>(match Zh6 I h (.ptr id off)with
   |some (v,c')=>some (v::vs,c'++c)
   |none=>none)
  |_,_,_=>none)
def Zo3:List AV->AV
 |[v]=>v
 |vs=>.tup vs
def Zj (fn:Func):Code:=match fn.body with
 |some c=>c
 |none=>.skip
def memN (a:Nat):List Nat->Bool
 |[]=>false
 |b::l=>if ZK a b then true else memN a l
theorem Zj9 {a:Nat}:∀ {l:List Nat},memN a l=false->a∉l
 |[],_=>by simp
 |b::l,h=>by
  unfold memN at h;split at h
  ·cases h
  rename_i A;intro hm;rcases bG.1 hm with rfl|hm
  ·exact A (by simp[ZK])
  exact Zj9 h hm
def Zis (n m id:Nat) (t:List Nat):List Nat:=if Qd n id&&ltN id m then(if memN id t then t else id::t)else t
def Zgp (n m:Nat):List AV->List Nat
 |[]=>[]
 |.isl _ _ _ (.own id)::r=>Zis n m id (Zgp n m r)
 |_::r=>Zgp n m r
def ZiP (n m:Nat):List AV->List Nat
 |.agg cs::_=>Zgp n m cs
 |.isl _ _ _ (.own id)::_=>Zis n m id []
 |.gsl id _::_|.msl id _ _ _ _::_|.ptr id _::_=>if Qd n id&&ltN id m then [id]else []
 |_=>[]
def ZdJ (n m:Nat):List Nat->List Nat
 |[]=>[]
 |i::r=>Zis n m i (ZdJ n m r)
def Zgg (ks:Option (List Nat)) (kp:Bool) (n m:Nat) (vs:List AV):List Nat:=aT n++(match ks with
 |some l=>ZdJ n m l
 |none=>if kp then ZiP n m vs else [])
def ZwQ (c:Cd) (A:AV->List Zi->Prop) (r:AV) (h:List Zi):Prop:=chk (c++ZaB r) (A (strip r) h)
def Zfw (T:Tb) (rs:List ResultVar) (n:Nat) (A:AV->List Zi->Prop) (e:Ex) (s:List AV) (h:List Zi) (c:Cd):Prop:=match e with
 |.exit _=>False
 |_=>(match ZiR T s h rs with
  |some (vs,c')=>ZwQ (c++c') A (QE true (Zgg T.ks T.kp n h.length vs) h 5 (Zo3 vs)) (sel true (Zgg T.ks T.kp n h.length vs) h)
  |none=>False)
def entry (n:Nat) (xs:List AV):List AV:=xs++List.replicate (n-xs.length) .undef
section
variable {P:Program}
structure Y5 (n m:Nat) (ι:List Nat):Prop where
 ex:∃l,ι=aT n++l/\l.Nodup/\∀i∈l,n<=i/\i<m
theorem Y5.nodup {n m:Nat} {ι:List Nat} (h:Y5 n m ι):ι.Nodup:=by
 obtain⟨l,rfl,A,H⟩:=h.ex;exact List.nodup_append.2 ⟨List.nodup_range,A,λa G b I=>by have:=bZ.1 G;have:=(H b I).1;omega⟩
theorem Y5.lt {n m:Nat} {ι:List Nat} (h:Y5 n m ι) (H:n<=m):∀i∈ι,i<m:=by
 obtain⟨l,rfl,I,G⟩:=h.ex;intro i A;rcases List.mem_append.1 A with A|A
 ·have:=bZ.1 A;omega
 exact(G i A).2
theorem Y5.low {n m:Nat} {ι:List Nat} (h:Y5 n m ι) {j:Nat} (A:j<n):ι[j]? =some j:=by
 obtain⟨l,rfl,G,H⟩:=h.ex;rw[List.getElem?_append_left (by simpa using A)];simp[A]
theorem Y5.high {n m:Nat} {ι:List Nat} (h:Y5 n m ι) {j i:Nat} (A:ι[j]? =some i) (hi:i<n):j=i:=by
 obtain⟨l,rfl,I,H⟩:=h.ex;rw[dZ]at A;split at A
 ·rename_i G;rw[List.getElem?_range (by simpa using G)]at A;exact Option.some.inj A
 have:=(H i (aZ A)).1;omega
theorem Y5.mem {n m:Nat} {ι:List Nat} (h:Y5 n m ι) {i:Nat} (hi:i∉ι):n<=i:=by
 obtain⟨l,rfl,A,G⟩:=h.ex;by_cases hlt:i<n
 ·exact absurd (List.mem_append_left _ (bZ.2 hlt)) hi
 omega
theorem Y5.len {n m:Nat} {ι:List Nat} (h:Y5 n m ι):n<=ι.length:=by
 obtain⟨l,rfl,A,G⟩:=h.ex;simp
theorem Zd2 {n m id:Nat} {t:List Nat} (h:t.Nodup/\∀i∈t,n<=i/\i<m):(Zis n m id t).Nodup/\∀i∈Zis n m id t,n<=i/\i<m:=by
 unfold Zis;split
 ·rename_i A;simp only[aS]at A;split
  ·exact h
  rename_i hm;refine⟨ee.2 ⟨Zj9 (by simpa using hm),h.1⟩,λi G=>?_⟩;rcases bG.1 G with rfl|G
  ·exact⟨Xc A.1,ZaD A.2⟩
  exact h.2 i G
 exact h
theorem Zgo (n m:Nat):∀l,(Zgp n m l).Nodup/\∀i∈Zgp n m l,n<=i/\i<m
 |[]=>by simp[Zgp]
 |a::r=>by
  have G:=Zgo n m r;unfold Zgp;split
  ·simp
  ·rename_i A;cases A;exact Zd2 G
  rename_i A;cases A;exact G
theorem Zdh (n m:Nat):∀l,(ZdJ n m l).Nodup/\∀i∈ZdJ n m l,n<=i/\i<m
 |[]=>by simp[ZdJ]
 |a::r=>Zd2 (Zdh n m r)
theorem Zn2 (ks:Option (List Nat)) (kp:Bool) (n m:Nat) (vs:List AV):Y5 n m (Zgg ks kp n m vs):=by
 cases ks with
 |some l=>exact⟨_,rfl,(Zdh n m l).1,(Zdh n m l).2⟩
 |none=>
 show Y5 n m (aT n++if kp then ZiP n m vs else []);refine⟨_,rfl,?_,?_⟩
 ·split
  ·unfold ZiP;split<;>(try exact(Zgo n m _).1)<;>(try exact(Zd2 ⟨ey,λi A=>by cases A⟩).1)<;>(try split)<;>simp
  simp
 split
 ·unfold ZiP;split<;>(try exact(Zgo n m _).2)<;>(try exact(Zd2 ⟨ey,λi A=>by cases A⟩).2)<;>(try split)<;>(try (intro i A;simp at A;done));all_goals
   rename_i G;simp only[aS]at G;intro i A;simp only[List.mem_singleton]at A;subst A;exact⟨Xc G.1,ZaD G.2⟩
 simp
theorem Zas {n m:Nat} (N:Nat) (G:n<=N) (H:N<=m):Y5 n m (aT N):=by
 refine⟨List.range' n (N-n),?_,List.nodup_range',λi A=>?_⟩
 ·rw[eU,eU,show N=n+(N-n)from by omega,<-List.range'_append_1];simp
 have:=List.mem_range'_1.1 A;omega
theorem Xs.sel {A R R':RC} {h₁ h:List Zi} {ι:List Nat} (S:Xs A h₁ R h) (H:A.le R) (Z:h₁.length=A.m) (J:Y5 h₁.length h.length ι) (hm:h₁.length<=h.length) (ah:R'.cx=R.cx) (hw:R'.w=R.w) (ae:R'.m=ι.length) (ak:R'.n0=A.n0)
  (Y:∀j i,ι[j]? =some i->R'.α j=R.α i) (al:∀j i,ι[j]? =some i->R'.hw j=R.hw i) (U:∀j i,ι[j]? =some i->R'.hv j=R.hv i) (aj:∀b o n,R.ok b o n->R'.ok b o n):Xs A h₁ R' (sel true ι h)/\A.le R':=by
 have G:A.le R':=by
  refine⟨by rw[ae,<-Z];exact J.len,λid I=>?_,λid I=>?_,λid I=>by rw[U id id (J.low (by omega))];exact H.fm id I,λb o n k=>aj _ _ _ (H.ok _ _ _ k),λb o n k j hj=>by rw[hw];exact H.keep b o n k j hj,λb k es ai e=>by rw[hw];exact H.keepM b k es ai e,ah.trans H.cx⟩
  ·rw[Y id id (J.low (by omega))];exact H.α id I
  rw[al id id (J.low (by omega)),U id id (J.low (by omega))];exact H.tk id I
 refine⟨⟨ak,by rw[hw];exact S.os,by rw[hw];exact S.tape,by rw[hw];exact S.output,by rw[hw];exact S.size,G.m,G.α,G.ok,G.keep,λb hb hn=>by rw[hw];exact S.frame b hb hn,λj blk b hj hp=>?_⟩,G⟩;obtain⟨i,y,I,hy,rfl⟩:=ZcB (J.lt hm) hj;have hp:=(ZaV (Y j i I) (U j i I)).1 hp;rcases S.own i y b hy hp with V|⟨aa,ab,V,h2,h3⟩
 ·exact .inl V
 have ac:=(aE.1 V).1;refine .inr ⟨aa,ab,V,h2,?_⟩;rcases h3 with rfl|h3
 ·have:=J.high I ac;exact .inl this.symm
 exact .inr h3
theorem Inv.leave {G:Nat->Nat->Nat->Prop} {R₀ R:RC} {h₀ h:List Zi} {ι:List Nat} (A:HR G R₀ h₀) (H:Inv R₀ h₀ R h) (I:Y5 h₀.length h.length ι):
  ∃J,J.w=R.w/\HR G J (sel true ι h)/\Xs R₀ h₀ J (sel true ι h)/\R₀.le J/\∀k a v,VR R a v->VR J (QE true ι h k a) v:=by
 have U:h₀.length<=h.length:=by rw[A.len,H.hr.len];exact H.le.m
 have hG:∀b o n,Gof R₀ h₀ b o n->G b o n:=λb o n k=>by
  rcases k with k|k|⟨id,blk,Z,I,S⟩
  ·exact((A.okd _ _ _).1 k).2.1
  ·exact A.fresh _ _ _ k
  exact A.tokG id blk b Z I S o n
 obtain⟨J,aa,a0,a1,a2,a3,a4,a5,a6,a7,a8⟩:=H.hr.sel (fz:=true) (ι:=ι) G (λb o n k=>hG _ _ _ ((H.hr.okd _ _ _).1 k).2.1) A.cl (λb o n V=>A.fresh b o n (cF H.ext.size V)) (λi blk b _ Z I S o n=>hG _ _ _ (H.hr.tokG i blk b Z I S o n)) I.nodup (I.lt U)
  (λ_ id blk b ab V S o n=>A.fresh b o n (by
   rcases H.ext.own id blk b V S with Y|⟨ac,y,Y,_,h3⟩
   ·exact Y
   have:=(aE.1 Y).1;have:=I.mem ab;have:=H.st
   omega)) R₀.n0 (by have:=A.n0m;have:=I.len;have:=A.len;omega) (λ_=>by rw[H.ext.n0];exact aJ _)
 obtain⟨b1,b2⟩:=H.ext.sel H.le A.len I U aa a1 a2 a0 a3 a4 a5 a7;exact⟨J,a1,a6,b1,b2,a8⟩
theorem Inv.trim {R₀ A R:RC} {h₀ h₁ h:List Zi} (H:Inv R₀ h₀ R h) (Z:Xs A h₁ R h) (V:A.le R) (I:h₁.length=A.m) (ab:h₀.length<=h₁.length) (H1:A.n0<=h₁.length):
  ∃G,G.w=R.w/\Inv R₀ h₀ G (sel true (aT h₁.length) h)/\Xs A h₁ G (sel true (aT h₁.length) h)/\A.le G/\∀k a v,VR R a v->VR G (QE true (aT h₁.length) h k a) v:=by
 have J:h₁.length<=h.length:=by rw[I,H.hr.len];exact V.m
 have S:Y5 h₀.length h.length (aT h₁.length):=Zas _ ab J;have aa:Y5 h₁.length h.length (aT h₁.length):=Zas _ (aJ _) J;obtain⟨G,U,a0,a1,a2,a3,a4,a5,a6,a7,a8⟩:=H.hr.sel (fz:=true) (ι:=aT h₁.length) (Gof R₀ h₀) (λb o n k=>((H.hr.okd _ _ _).1 k).2.1) H.hr.cl H.hr.fresh (λi blk b _=>H.hr.tokG i blk b) S.nodup (S.lt (by omega))
  (λ_ id blk b ac hb hp o n=>.inr (.inl (by
   rcases H.ext.own id blk b hb hp with Y|⟨ae,y,Y,_,h3⟩
   ·exact Y
   have:=(aE.1 Y).1;have:=S.mem ac;have:=H.st
   omega))) R.n0 (by rw[cZ];have:=Z.n0;have:=H1;omega) (λ_=>aJ _)
 obtain⟨b1,b2⟩:=Z.sel V I aa J U a1 a2 (a0.trans Z.n0) a3 a4 a5 a7;obtain⟨c1,c2⟩:=H.ext.sel H.le H.len S (by omega) U a1 a2 (a0.trans H.ext.n0) a3 a4 a5 a7;exact⟨G,a1,⟨a6,c1,c2,H.len,H.st⟩,b1,b2,a8⟩
theorem Inv.trimN {R₀ R:RC} {h₀ h:List Zi} (H:Inv R₀ h₀ R h) (n:Nat) (I:R₀.n0<=n) (hn:n<=h.length):
  ∃A,A.w=R.w/\Inv R₀ h₀ A (sel true (aT n) h)/\∀k a v,VR R a v->VR A (QE true (aT n) h k a) v:=by
 have U:h₀.length<=n:=cF H.st I;have G:Y5 h₀.length h.length (aT n):=Zas _ U hn;obtain⟨A,S,a0,V,a2,a3,a4,a5,a6,a7,Z⟩:=H.hr.sel (fz:=true) (ι:=aT n) (Gof R₀ h₀) (λb o n k=>((H.hr.okd _ _ _).1 k).2.1) H.hr.cl H.hr.fresh (λi blk b _=>H.hr.tokG i blk b) G.nodup (G.lt (by omega))
  (λ_ id blk b Y hb hp o n=>.inr (.inl (by
   rcases H.ext.own id blk b hb hp with J|⟨aa,y,J,_,h3⟩
   ·exact J
   have:=(aE.1 J).1;have:=G.mem Y;have:=H.st
   omega))) R.n0 (by rw[cZ,H.ext.n0];exact I) (λ_=>aJ _)
 obtain⟨c1,c2⟩:=H.ext.sel H.le H.len G (by omega) S V a2 (a0.trans H.ext.n0) a3 a4 a5 a7;exact⟨A,V,⟨a6,c1,c2,H.len,H.st⟩,Z⟩
theorem ZiQ {T:Tb} (V:T.Of P) {G:Nat->Nat->Nat->Prop} {R:RC} {h:List Zi} (H:HR G R h) {s:List AV} {t:Array Value} (hs:SL R s t):∀ {rs:List ResultVar} {U:List AV} {c:Cd},ZiR T s h rs=some (U,c)->ZV c->
  ∃J:List Value,(rs.mapM (m:=Sem) λ
   |.tmp t'=>pure (t.getD t' undef)
   |.cell a ty=>do loadVar ty (<-asAddr (t.getD a undef))).run P R.w= .ok J R.w/\J.length=U.length/\∀j c,U[j]? =some c->VR R c (J.getD j undef)
 |[],U,c,hv,_=>by
  simp only[ZiR,aD,aK]at hv;obtain⟨rfl,rfl⟩:=hv;exact⟨[],by simp,rfl,λj c h=>by simp at h⟩
 |.tmp t'::r,U,c,hv,hc=>by
  simp only[ZiR]at hv;split at hv;case h_2=>cases hv
  rename_i ah c' hr;simp only[aD,aK]at hv;obtain⟨rfl,rfl⟩:=hv;obtain⟨Z,Y⟩:=Z7 hc;obtain⟨J,h1,h2,h3⟩:=ZiQ V H hs hr Y;refine⟨t.getD t' undef::J,by rw[gi];simp only[aQ,bC,aH,h1],by simp[h2],λj c S=>?_⟩;cases j with
  |zero=>simp at S;subst S;exact(hs.ev (.tmp t')).strip Z
  |succ j=>simpa using h3 j c (by simpa using S)
 |.cell a ty::r,U,c,hv,hc=>by
  simp only[ZiR]at hv;split at hv;case h_2=>cases hv
  rename_i id aj I ah c' ha hT hr;split at hv;case h_2=>cases hv
  rename_i v c1 hl;simp only[aD,aK]at hv;obtain⟨rfl,rfl⟩:=hv;obtain⟨Z,Y⟩:=Z7 hc;obtain⟨J,h1,h2,h3⟩:=ZiQ V H hs hr Y;have A:=hs.ev (.tmp a);rw[ha]at A;obtain⟨x,hx,ae⟩:=Zki (V.ti _ _ hT) H A hl Z;have ai:∃ad,t.getD a undef= .pointer (some ad):=by
   have:QV t (.tmp a)=t.getD a undef:=rfl;rw[this]at A;generalize t.getD a undef=u at A;cases A with
   |pure _ _ hp=>cases hp
   |ptr _ _ _=>exact⟨_,rfl⟩
  obtain⟨ad,aa⟩:=ai;have ac:(loadVar ty ad).run P R.w= .ok x R.w:=by
   have:QV t (.tmp a)=t.getD a undef:=rfl;rw[this,aa]at hx;simpa [Instr.loadAt,Instr.sureAddr]using hx
  have ab:(asAddr (t.getD a undef)).run P R.w= .ok ad R.w:=by rw[aa];simp[asAddr]
  refine⟨x::J,by rw[gi];simp only[aQ,bC,aH,h1,ab,ac],by simp[h2],λj c S=>?_⟩;cases j with
  |zero=>simp at S;subst S;exact ae
  |succ j=>simpa using h3 j c (by simpa using S)
theorem Zlr {T:Tb} (S:T.Of P) {G:Nat->Nat->Nat->Prop} {R:RC} {h:List Zi} (H:HR G R h) {s:List AV} {t:Array Value} (hs:SL R s t) {fn:Func} {vs:List AV} {c:Cd} (hv:ZiR T s h fn.results.toList=some (vs,c)) (hc:ZV c):
  ∃v,(results fn t).run P R.w= .ok v R.w/\VR R (Zo3 vs) v:=by
 obtain⟨A,h1,I,V⟩:=ZiQ S H hs hv hc
 have Y:(fn.results.mapM (m:=Sem) λ
   |.tmp t'=>pure (t.getD t' undef)
   |.cell a ty=>do loadVar ty (<-asAddr (t.getD a undef))).run P R.w= .ok A.toArray R.w:=by
  rw[Array.mapM_eq_mapM_toList,Sem.run_map];simp only[h1];rfl
 refine⟨if h:A.toArray.size=1 then A.toArray[0]else .tuple A.toArray,?_,?_⟩
 ·unfold results;rw[aQ];exact Eq.trans (congrArg (λr=>Result.andThen r (λa Z=>Sem.run P (pure (if h:a.size=1 then a[0]else Value.tuple a)) Z)) Y) rfl
 cases vs with
 |nil=>
  have:A=[]:=List.eq_nil_of_length_eq_zero (by simpa using I);subst this;exact .tup [] #[] rfl λj c J=>by simp at J
 |cons v vs=>
  cases vs with
  |nil=>
   obtain⟨u,rfl⟩:∃u,A=[u]:=List.length_eq_one_iff.1 I;exact V 0 v rfl
  |cons v' vs=>
   have U:¬A.toArray.size=1:=by simp[I]
   rw[dif_neg U];exact .tup _ _ (by simpa using I.symm) λj c J=>by
    rw[aI,List.getElem?_toArray,<-aA];exact V j c J
theorem Inv.taken {R₀ R:RC} {h₀ h:List Zi} (H:Inv R₀ h₀ R h) {r:Nat} (hr:R₀.w.heap.size<=r) (I:R.w.heap[r]? =some (.deferred (some []))):
  ∃J,J.w={R.w with heap:=R.w.heap.setIfInBounds r (.deferred none)}/\Inv R₀ h₀ J h/\R.le J:=by
 have Z:∀b i,({R.w with heap:=R.w.heap.setIfInBounds r (.deferred none)}:World).cell? ⟨b,i,none⟩=R.w.cell? ⟨b,i,none⟩:=λb i=>by
  simp only[World.cell?,bS];by_cases e:r=b
  ·subst e;simp[I]
  rw[iP e]
 have V:∀b,b≠r->(R.w.heap.setIfInBounds r (.deferred none))[b]? =R.w.heap[b]? :=λb A=>by
  rw[bS,iP (Ne.symm A)]
 have aa:(R.w.heap.setIfInBounds r (.deferred none)).size=R.w.heap.size:=by simp
 have ai:∀id blk b,h[id]? =some blk->ZE R id blk b->b≠r:=λid blk b hi G e=>by
  subst e;have A:=H.hr.blk id blk hi;cases blk with
  |cells cs=>obtain⟨arr,ty,e,_⟩:=A;rw[show(R.α id).b=b from G,I]at e;cases e
  |arr s n f=>obtain⟨arr,ty,_,e,_⟩:=A;rw[show(R.α id).b=b from G,I]at e;cases e
  |mapB m=>obtain⟨es,c,e,_⟩:=A;rw[show(R.α id).b=b from G,I]at e;cases e
  |gob g=>obtain⟨o,e,h1,_⟩:=A;rw[show(R.α id).b=b from G,I]at e;cases e;cases h1
  |loop s d=>obtain⟨l,e,_⟩:=A;rw[show(R.α id).b=b from G,I]at e;cases e
  |dead=>exact G
  |main=>exact G
  |fro s n f=>exact G
  |gar s n f=>
   obtain⟨a,l,c,S,e2,e3⟩:=G;obtain⟨_,⟨_,a3,Y⟩|⟨b',o,len,ah,arr,ty,_,_,Y,U,_⟩⟩:=A
   ·rw[Y]at S;cases S;omega
   rw[Y]at S;cases S;rw[show b'=b from e3,I]at U;cases U
  |vgar s n f=>
   obtain⟨arr,ty,e⟩:=A.2.heap G;rw[I]at e;cases e
  |fam z s n m g=>
   obtain⟨us,hv,i,v,hu,G⟩:=G;obtain⟨_,_,aj,ac,_,ha,_⟩:=A;rw[hv]at ac;cases ac;obtain⟨arr,ty,e⟩:=(ha i v hu).heap G;rw[I]at e;cases e
  |tok s hw=>
   obtain⟨a,n,c,S,e2,e3⟩:=G;obtain⟨_,⟨_,a3,Y⟩|⟨b',o,len,ah,_,_,Y,U⟩⟩:=A
   ·rw[Y]at S;cases S;omega
   rw[Y]at S;cases S;obtain⟨arr,ty,U,_⟩:=U e2;rw[show b'=b from e3,I]at U;cases U
 let J:RC:={R with w:={R.w with heap:=R.w.heap.setIfInBounds r (.deferred none)}};have ab:R.le J:=⟨aJ _,λ_ _=>rfl,λ_ _=>⟨Int.le_refl _,λ_=>rfl⟩,λ_ _=>.refl _,λ_ _ _ h=>h,λ_ _ _ _ _ _=>Z _ _,(λb _ es ak e=>(V b λA=>by subst A;rw[I]at e;cases e).trans e),rfl⟩;have hH:HR (Gof R₀ h₀) J h:=⟨H.hr.len,λb o n=>by rw[show J.w.heap.size=R.w.heap.size from aa];exact H.hr.okd b o n,λid blk hi=>(H.hr.blk id blk hi).mono ab rfl rfl rfl rfl (λb G=>V b (ai id blk b hi G)),H.hr.dis,H.hr.cl,λb o n A=>H.hr.fresh b o n (by rw[show J.w.heap.size=R.w.heap.size from aa]at A;exact A),H.hr.tokG,H.hr.n0m⟩;have ae:Xs R₀ h₀ J h:=by
  refine⟨H.ext.n0,H.ext.os,H.ext.tape,H.ext.output,by rw[show J.w.heap.size=R.w.heap.size from aa];exact H.ext.size,H.ext.m,H.ext.α,H.ext.ok,λb o n k j hj=>(Z _ _).trans (H.ext.keep b o n k j hj),λb A hn=>?_,H.ext.own⟩;exact(V b (by omega)).trans (H.ext.frame b A hn)
 exact⟨J,rfl,⟨hH,ae,H.le.trans ab,H.len,H.st⟩,ab⟩
theorem Zdd {R₀:RC} {h₀ h:List Zi} {b:FB} {base:List Deferred} {t:Array Value} {todo:List Item} {cs:List Frame}:∀(rs:List Nat) (R:RC),rs.Nodup->Inv R₀ h₀ R h->(∀r∈rs,R₀.w.heap.size<=r/\R.w.heap[r]? =some (.deferred (some [])))->
  ∃A,Inv R₀ h₀ A h/\R.le A/\Steps P R.cx (ZN {mkF b t ((rs.map λr=>{target:=.collected r,args:= #[]})++base) todo with mode:=.returning} cs R.w) (ZN {mkF b t base todo with mode:=.returning} cs A.w)
 |[],R,_,hi,_=>⟨R,hi,RC.le.refl _,.refl _⟩
 |r::rs,R,hn,hi,hd=>by
  rw[ee]at hn;obtain⟨h1,I⟩:=hd r (aU ..);obtain⟨A,hw,Y,G⟩:=hi.taken h1 I;obtain⟨Z,J,S,U⟩:=Zdd (b:=b) (base:=base) (t:=t) (todo:=todo) (cs:=cs) rs A hn.2 Y λx hx=>by
   obtain⟨h3,h4⟩:=hd x (aR _ hx);refine⟨h3,?_⟩;rw[hw];show(R.w.heap.setIfInBounds r _)[x]? =_;have V:¬r=x:=λe=>hn.1 (e▸hx);rw[bS,iP V];exact h4
  refine⟨Z,J,G.trans S,.head ?_ (YE G U)⟩;rw[hw];have H:(Instr.takeDeferred r).run P R.w= .ok [] {R.w with heap:=R.w.heap.setIfInBounds r (.deferred none)}:=by
   simp only[Instr.takeDeferred,aQ];have:(getObj r).run P R.w= .ok (.deferred (some [])) R.w:=by simp[getObj,Sem.run,I]
   simp only[this,aH,aQ];have:(setObj r (.deferred none)).run P R.w= .ok () {R.w with heap:=R.w.heap.setIfInBounds r (.deferred none)}:=by
    simp only[setObj,Sem.run];rw[I]
   simp only[this,aH,bC]
  exact Zp6 (calls:=[]) H
end
section
variable {T:Tb} {p:Unit->Program}
def zOk (h:List Zi):Bool:=h.all λ|.fam z .. =>Qd h.length z|_=>true
theorem SC.ofN {p:Unit->Program} {f:FuncId} {xs:List AV} {h:List Zi} {U:AV->List Zi->Prop} (he:∃fn c,(p ()).funcs[f]? =some fn/\fn.body=some c/\(fn.name== "runtime.NumGoroutine")=false) (hz:zOk h=true)
  (H:∀(G:Nat->Nat->Nat->Prop) (R:RC) (Z:Array Value),HR G R h->R.n0=h.length->Yf R xs Z->
   ∀(cs:List Frame),∃v A r V,ZiA (p ()) R.cx f Z cs R.w v A.w/\HR G A V/\Xs R h A V/\R.le A/\VR A r v/\U r V):SC p f xs h U:=
 ⟨he,λG R Z hr ha cs=>by
  have ac:∀(id z s:Nat) (N:Unit->Int) (m:(Unit->Int)->Unit->Int) (g:(Unit->Int)->(Unit->Int)->List AV),h[id]? =some (Zi.fam z s N m g)->h.length<=z:=λid z s N m g Y=>by
   simp only[zOk,bM]at hz;exact Xc (hz _ (aZ Y))
  have ab:=hr.setN0 h.length (by rw[hr.len];exact aJ _) ac;obtain⟨v,A,r,V,b1,b3,I,J,b6,b7⟩:=H G _ Z ab rfl ⟨ha.1,λj c hj=>(ha.2 j c hj).mono (.setN0 R _)⟩ cs;have e0:A.n0=h.length:=I.n0;have aa:R.n0<=h.length:=by rw[hr.len];exact hr.n0m
  refine⟨v,{A with n0:=R.n0},r,V,b1,b3.setN0 R.n0 (cF aa (e0▸b3.n0m)) (λid z s N m g Y=>cF aa (e0▸(b3.blk id _ Y).1)),⟨rfl,I.os,I.tape,I.output,I.size,I.m,I.α,I.ok,I.keep,I.frame,λid x b Y hp=>?_⟩,⟨J.m,J.α,J.tk,J.fm,J.ok,J.keep,J.keepM,J.cx⟩,b6.mono (.setN0 A _),b7⟩;rcases I.own id x b Y ((ZE.congr (R:=A) (R':={A with n0:=R.n0}) rfl rfl).1 hp)with h1|⟨i,y,h1,h2,S⟩
  ·exact .inl h1
  refine .inr ⟨i,y,h1,h2,.inl ?_⟩;have:=(aE.1 h1).1;rcases S with S|S
  ·exact S
  have S:h.length<=i:=S
  omega⟩
theorem SC.of (hT:T.Of (p ())) (hm:(p ()).follows .mixedOrders=true) {f:FuncId} {fn:Func} {body:Code} (Z:(p ()).funcs[f]? =some fn) (hb:fn.body=some body) (hn:(fn.name== "runtime.NumGoroutine")=false) {xs:List AV} {h:List Zi} {U:AV->List Zi->Prop} (hz:zOk h=true)
  {n:Nat} (hW:W T p (Zfw T fn.results.toList h.length U) n [.code body] (entry fn.ntmps xs) h []) (bm:T.fl=true->h.length<=T.nb):SC p f xs h U:=by
 have hK:∀e s V c,Zfw T fn.results.toList h.length U e s V c->ZV c:=λe s V c A=>by
  cases e with
  |exit id=>exact A.elim
  |_=>
   simp only[Zfw]at A;split at A
   ·exact(Z7 (Z7 (Qb A).1).1).1
   exact A.elim
 refine SC.ofN ⟨fn,body,Z,hb,hn⟩ hz λG R Y H ah ha cs=>?_;obtain⟨ar,bl⟩:=ha;have aw:dO (p ()) f Y .normal=mkF ⟨f,false,none,[]⟩ (Y++dK (fn.ntmps-Y.size) undef) [] [.code body]:=by
  simp[dO,mkF,FB.kind,Z,hb]
 have bc:SL R (entry fn.ntmps xs) (Y++dK (fn.ntmps-Y.size) undef):=by
  refine⟨by simp[entry,ar],λi a J=>?_⟩;rw[entry,dZ]at J;split at J
  ·rename_i bo;have:=bl i a J;rw[aI]at this|-;rw[Array.getElem?_append_left (by omega)];exact this
  rw[List.getElem?_replicate]at J;split at J
  ·cases J;exact .undef _
  cases J
 obtain⟨e,s',V,R',t',bg,⟨c,A⟩,J,hs,hd,_,hA⟩:=(Zmu hT (R₀:=R) (h₀:=h) hm (λZ=>by rw[ah];exact bm Z) hK n _ _ h [] hW).2 R _ (Inv.refl H (by rw[ah];exact aJ _)) bc ⟨⟨f,false,none,[]⟩,λ_=>rfl⟩ [] [] cs ⟨[],rfl,ey,λr hr=>by cases hr⟩;have aj:∃I,Steps (p ()) R.cx (ZN (mkF ⟨f,false,none,[]⟩ (Y++dK (fn.ntmps-Y.size) undef) [] [.code body]) cs R.w) (ZN {mkF ⟨f,false,none,[]⟩ t' bg I with mode:=.returning} cs R'.w)/\∃S c',ZiR T s' V fn.results.toList=some (S,c')/\ZwQ (c++c') U (QE true (Zgg T.ks T.kp h.length V.length S) V 5 (Zo3 S)) (sel true (Zgg T.ks T.kp h.length V.length S) V):=by
  cases e with
  |exit id=>exact A.elim
  |normal=>
   refine⟨[],Steps.trans hA (.one (Zqb rfl)),?_⟩;simp only[Zfw]at A;split at A
   ·exact⟨_,_,‹_›,A⟩
   exact A.elim
  |ret=>
   obtain⟨I,hA⟩:=hA;refine⟨.code .ret::I,Steps.trans hA (.one (Zp8 rfl)),?_⟩;simp only[Zfw]at A;split at A
   ·exact⟨_,_,‹_›,A⟩
   exact A.elim
 obtain⟨I,az,S,c',am,aq⟩:=aj;obtain⟨a9,ab⟩:=Qb aq;obtain⟨hc,bk⟩:=Z7 a9;obtain⟨rs,rfl,bh,ba⟩:=hd;obtain⟨R2,ae,ak,ap⟩:=Zdd (P:=p ()) (b:=⟨f,false,none,[]⟩) (base:=[]) (t:=t') (todo:=I) (cs:=cs) rs R' bh J ba;obtain⟨v,al,be⟩:=Zlr (P:=p ()) (fn:=fn) hT ae.hr (hs.mono ak) am (Z7 hc).2;obtain⟨R3,ac,H3,au,ao,aa⟩:=ae.leave H (Zn2 T.ks T.kp h.length V.length S);have ai:=(aa 5 _ _ be).strip bk;refine⟨v,R3,_,_,⟨⟨f,false,none,[]⟩,t',I,fn,?_,rfl,Z,by rw[ac];exact al,rfl⟩,H3,au,ao,ai,ab⟩;rw[aw,ac];exact az.trans (YE J.le ap)
end
end Vm
namespace Vm
open Go Conc1
inductive Cx where
 |u (ops:Array Oper) (o:Oper) (rest:List Oper)
 |d (ops:Array Oper) (pr:List Pr) (s0:List AV) (n done:Nat) (q:Pr)
inductive Hd where
 |none
 |ops (ops:Array Oper) (rest:List Oper)
 |drawn (ops:Array Oper) (pr:List Pr) (s0:List AV) (n done:Nat)
 |gev (x:Cx)
 |event (x:Cx)
inductive St where
 |bad
 |fin (e:Ex) (s:List AV) (h:List Zi) (c:Cd)
 |br (c:Cd) (b:Unit->Bool) (k₁ k₂:List Item) (s:List AV) (h:List Zi)
 |gd (c:Cd) (g:Unit->Bool) (x:Cx) (k:List Item) (s:List AV) (h:List Zi)
 |call (c:Cd) (f:Tg) (xs:List AV) (x:Cx) (k:List Item) (s:List AV) (h:List Zi)
 |alls (c:Cd) (ops:Array Oper) (pr:List Pr) (s0:List AV) (n done:Nat) (qs:List Pr) (k:List Item) (s:List AV) (h:List Zi)
 |loop (c:Cd) (x:Code) (k:List Item) (s:List AV) (h:List Zi)
 |cb (c:Cd) (f:Operand) (ps:Array Tmp) (a x:Code) (k:List Item) (s:List AV) (h:List Zi)
 |cut (c:Cd) (x:Code) (k:List Item) (s:List AV) (h:List Zi)
 |hand (c:Cd) (k:List Item) (s:List AV) (h:List Zi)
def Cx.o:Cx->Oper
 |.u _ o _=>o
 |.d _ _ _ _ _ q=>q.o
def Cx.ops:Cx->Array Oper
 |.u ops _ _=>ops
 |.d ops _ _ _ _ _=>ops
inductive Ev where
 |bad
 |val (v:AV) (h:List Zi) (c:Cd)
 |call (f:Tg) (xs:List AV) (c:Cd)
def evt (T:Tb) (o:Oper) (E:Operand->AV) (h:List Zi):Ev:=match Zeq o.op with
 |1=>(match ZqY T (λx=>strip (E x)) h o.op with
  |some (v,h',c')=>.val v h' (gdC E o.op.operands.toList++c')
  |none=>.bad)
 |2=>(match Zjt o.op with
  |some (f,xs)=>(match ZpZ (strip (E f))with
   |some (tg,a,b)=>.call tg (a++(xs.map λx=>strip (E x))++b) (gdC E o.op.operands.toList)
   |none=>.bad)
  |none=>.bad)
 |5=>(match ZiM o.op with
  |some (a,b)=>(match ZjP h (strip (E a)) (strip (E b))with
   |some (h',c')=>.val .undef h' (gdC E o.op.operands.toList++c')
   |none=>.bad)
  |none=>.bad)
 |6=>(match ZiU o.op with
  |some x=>(match ZmY (strip (E x))with
   |some id=>.call (.nxt id) [] (gdC E o.op.operands.toList)
   |none=>.bad)
  |none=>.bad)
 |_=>.bad
def YO (T:Tb) (x:Cx) (v:AV) (s:List AV) (h:List Zi) (c:Cd):Option (Hd×List AV×Cd):=match x with
 |.u ops o r=>some (.ops ops r,putO s o.dst v,c)
 |.d ops G A n done q=>(match YU T ops A (putO s q.o.dst v) h q.a done G with
  |some H=>some (.drawn ops G A n (add done q.i),putO s q.o.dst v,c++H)
  |none=>none)
def Zxz (ops:Array Oper):Cd:=[dd λ_=>Zql ops=true]
def exec (T:Tb):Nat->Hd->List Item->List AV->List Zi->Cd->St
 |0,_,_,_,_,_=>.bad
 |n+1,hd,k,s,h,c=>(match hd with
  |.none=>(match k with
   |[]=>.fin .normal s h c
   |.inBlock _::k=>exec T n .none k s h c
   |.inScope _::k=>exec T n .none k s h c
   |.code x::k=>(match x with
    |.skip=>exec T n .none k s h c
    |.label _=>exec T n .none k s h c
    |.seq x y=>exec T n .none (.code x:: .code y::k) s h c
    |.cond o x y=>(match Zii T k with
     |true=>.cut c (.cond o x y) k s h
     |false=>(match strip (ev s o)with
      |.bool b=>.br (c++ZaB (ev s o)) b (.code x::k) (.code y::k) s h
      |_=>.bad))
    |.block id x=>(match Zii T k with
     |true=>.cut c (.block id x) k s h
     |false=>exec T n .none (.code x:: .inBlock id::k) s h c)
    |.scope x=>exec T n .none (.code x:: .inScope x::k) s h c
    |.loop x=>if T.fl&&T.lp then .hand c (.code x:: .inLoop x::k) s h else .loop c x k s h
    |.exit id=>(match exitTo id k with
     |some k=>exec T n .none k s h c
     |none=>.fin (.exit id) s h c)
    |.goto l=>(match gotoIn l k with
     |some k=>if T.fl then .hand c k s h else .bad
     |none=>.bad)
    |.ret=>.fin .ret s h c
    |.region id ops d=>if ZlY T id then .hand c (.code (.region id ops d)::k) s h else if d then exec T n (.drawn ops (ZsO ops) s (ops.size+1) 0) k s h (c++Zxz ops)else exec T n (.ops ops ops.toList) k s h c
    |.rangeFunc f ps a x=>if T.rd then .bad else .cb c f ps a x k s h
    |_=>.bad)
   |.inLoop x::k=>if T.fl then .hand c (.code x:: .inLoop x::k) s h else .bad
   |_=>.bad)
  |.ops ops l=>(match l with
   |[]=>exec T n .none k (Zek T h s) h c
   |o::r=>if XA o.op then(match JM T ops o (ev s) h with
     |some (v,G)=>exec T n (.ops ops r) k (putO s o.dst v) h (c++G)
     |none=>.bad)
    else exec T n (.gev (.u ops o r)) k s h c)
  |.drawn ops A I m done=>(match m with
   |0=>.bad
   |m+1=>(match Yl T ops h A s done c with
    |none=>.bad
    |some (s,done,c)=>if ZhU A done then(match Yr A done with
      |[]=>if Zro A done then exec T n .none k (Zek T h s) h c else .bad
      |[q]=>exec T n (.gev (.d ops A I m done q)) k s h c
      |qs=>.alls c ops A I m done qs k s h)
     else .bad))
  |.gev x=>if XA x.o.op then .bad else(match ZgW x.ops (ev s) x.o.guard with
   |none=>.bad
   |some none=>exec T n (.event x) k s h c
   |some (some g)=>.gd c g x k s h)
  |.event x=>(match evt T x.o (ev s) h with
   |.bad=>.bad
   |.val v H G=>(match YO T x v s H (c++G)with
    |some (hd,s,c)=>exec T n hd k s H c
    |none=>.bad)
   |.call f J G=>.call (c++G) f J x k s h))
def den (T:Tb) (p:Unit->Program) (K:Ex->List AV->List Zi->Cd->Prop) (D:Hd->List Item->List AV->List Zi->Cd->Prop):St->Prop
 |.bad=>False
 |.fin e s h c=>K e s h c
 |.br c b A G s h=>chk c (Br b (λ_=>D .none A s h []) (λ_=>D .none G s h []))
 |.gd c g x k s h=>chk c (Br g (λ_=>D (.event x) k s h []) (λ_=>match YO T x (skV T) s h []with
  |some (hd,s,c)=>D hd k s h c
  |none=>False))
 |.call c f J x k s h=>chk c (SCt p f J h λr H=>match YO T x r s H []with
  |some (hd,s,c)=>D hd k s H c
  |none=>False)
 |.alls c ops U S n done I k s h=>chk c (Zot (λq:Pr=>D (.gev (.d ops U S n done q)) k s h []) I)
 |.loop c x k s h=>chk c (LP T.rd p x (λe s h=>match e with
  |.normal=>False
  |.exit id=>(match exitTo id k with
   |some k=>D .none k s h []
   |none=>K (.exit id) s h [])
  |.ret=>K .ret s h []) s h)
 |.cb c f ps a x k s h=>chk c (CB p (.rangeFunc f ps a x) (λe s h=>match e with
  |.normal=>D .none k s h []
  |.exit id=>(match exitTo id k with
   |some k=>D .none k s h []
   |none=>K (.exit id) s h [])
  |.ret=>K .ret s h []) s h)
 |.cut c x k s h=>chk c (XP T.rd p x (λe s h=>match e with
  |.normal=>D .none k s h []
  |.exit id=>(match exitTo id k with
   |some k=>D .none k s h []
   |none=>K (.exit id) s h [])
  |.ret=>K .ret s h []) s h)
 |.hand c k s h=>chk c (HP T.rd T.nb p k K s h)
def Dn (T:Tb) (p:Unit->Program) (K:Ex->List AV->List Zi->Cd->Prop):Nat->Hd->List Item->List AV->List Zi->Cd->Prop
 |0,_,_,_,_,_=>False
 |m+1,hd,k,s,h,c=>den T p K (Dn T p K m) (exec T 4000 hd k s h c)
section
variable {T:Tb} {p:Unit->Program}
theorem Qi {c:Cd} {G H:Prop} (A:G->H) (h:chk c G):chk c H:=by
 unfold chk at*;split at h
 ·exact A h
 exact⟨h.c,A h.g⟩
theorem Yg {c:Cd} {g:Option (Unit->Bool)} {A I:Cd->Prop} {B G:Unit->Prop} (H:∀c,A c->I c) (J:B ()->G ()) (h:Zc1 c g A B):Zc1 c g I G:=by
 unfold Zc1 at*;split at h
 ·exact H _ h
 exact Qi (λh=>⟨λe=>H _ (h.t e),λe=>J (h.f e)⟩) h
theorem Zd3 {ops:Array Oper} {o:Oper} {E:Operand->AV} {h:List Zi} {c:Cd} {K G:AV->List Zi->Cd->Prop} (A:∀v h c,K v h c->G v h c) (hW:Wop T p ops o E h c K):Wop T p ops o E h c G:=by
 unfold Wop at*;split at hW
 ·split at hW
  ·exact hW
  refine Yg (λc h=>?_) (λh=>A _ _ _ h) hW;split at h
  ·exact A _ _ _ h
  exact h
 ·split at hW
  ·exact hW
  refine Yg (λc h=>?_) (λh=>A _ _ _ h) hW;split at h
  ·split at h
   ·exact Qi (λh=>h.mono λr H hr=>A _ _ _ hr) h
   exact h
  exact h
 ·split at hW
  ·exact hW
  refine Yg (λc h=>?_) (λh=>A _ _ _ h) hW;split at h
  ·split at h
   ·exact A _ _ _ h
   exact h
  exact h
 ·split at hW
  ·exact hW
  refine Yg (λc h=>?_) (λh=>A _ _ _ h) hW;split at h
  ·split at h
   ·exact Qi (λh=>h.mono λr H hr=>A _ _ _ hr) h
   exact h
  exact h
 split at hW
 ·exact A _ _ _ hW
 exact hW
theorem ZcS {ops:Array Oper} {K G:List AV->List Zi->Cd->Prop} (A:∀s h c,K s h c->G s h c):∀ {l:List Oper} {s:List AV} {h:List Zi} {c:Cd},ZjA T p ops l s h c K->ZjA T p ops l s h c G
 |[],_,_,_,h=>A _ _ _ h
 |_::_,_,_,_,h=>Zd3 (λ_ _ _ h=>ZcS A h) h
theorem Zhk {ops:Array Oper} {pr:List Pr} {s0:List AV} {K G:List AV->List Zi->Cd->Prop} {n done:Nat} {s:List AV} {q:Pr} (H:∀done s h c,WD T p ops pr s0 K n done s h c->WD T p ops pr s0 G n done s h c) (v:AV) (h:List Zi) (c:Cd)
  (A:WDk T p ops pr s0 K n done s q v h c):WDk T p ops pr s0 G n done s q v h c:=by
 unfold WDk at*;split at A
 ·exact H _ _ _ _ A
 exact A
theorem ZcV {α:Type} {f g:α->Prop} (h:∀a,f a->g a):∀ {l:List α},Zot f l->Zot g l
 |[],_=>trivial
 |[a],hh=>h a hh
 |_::_::_,hh=>⟨h _ hh.l,ZcV h hh.r⟩
theorem ZfQ {ops:Array Oper} {pr:List Pr} {s0:List AV} {K J:List AV->List Zi->Cd->Prop} (H:∀s h c,K s h c->J s h c):∀(n done:Nat) (s:List AV) (h:List Zi) (c:Cd),WD T p ops pr s0 K n done s h c->WD T p ops pr s0 J n done s h c
 |0,_,_,_,_,hW=>by simp only[WD]at hW
 |n+1,done,s,h,c,hW=>by
  have I:=ZfQ (ops:=ops) (pr:=pr) (s0:=s0) H n;simp only[WD]at hW|-;split at hW
  ·exact hW
  rename_i Y S Z V;split at hW;case isFalse=>exact hW.elim
  rename_i G;rw[iQ G];split at hW
  ·rename_i hr;split at hW
   ·rename_i U;rw[iQ U];exact H _ _ _ hW
   exact hW.elim
  ·exact Zd3 (λv h c A=>Zhk I v h c A) hW
  exact Qi (λh=>ZcV (λq A=>Zd3 (λv h c A=>Zhk I v h c A) A) h) hW
theorem CB.mono {x:Code} {Q Q':Ex->List AV->List Zi->Prop} {s:List AV} {h:List Zi} (H:CB p x Q s h) (I:∀e s h,Q e s h->Q' e s h):CB p x Q' s h:=⟨λA G=>(H.run A G).mono I⟩
theorem Zru {K:Ex->List AV->List Zi->Cd->Prop}:∀(n:Nat) (k:List Item) (s:List AV) (h:List Zi) (c:Cd),W T p K n k s h c->W T p K (n+1) k s h c
 |0,_,_,_,_,hW=>by simp only[W]at hW
 |n+1,k,s,h,c,hW=>by
  have G:=Zru (K:=K) n
  have I:∀(id:Nat) (k:List Item) (s:List AV) (h:List Zi) (c:Cd),(match exitTo id k with
    |some k=>W T p K n k s h c
    |none=>K (.exit id) s h c)->(match exitTo id k with
    |some k=>W T p K (n+1) k s h c
    |none=>K (.exit id) s h c):=λid k s h c J=>by
   split at J
   ·exact G _ _ _ _ J
   exact J
  unfold W at hW|-;split at hW
  ·exact hW
  ·exact G _ _ _ _ hW
  ·exact G _ _ _ _ hW
  ·split at hW
   ·exact G _ _ _ _ hW
   ·exact G _ _ _ _ hW
   ·exact G _ _ _ _ hW
   ·split at hW
    ·rename_i H;rw[iQ H];refine Qi (λh=>h.mono λe s h A=>?_) hW;cases e with
     |normal=>exact G _ _ _ _ A
     |exit id=>exact I _ _ _ _ _ A
     |ret=>exact A
    rename_i H;rw[iP H];split at hW
    ·exact Qi (λh=>⟨λe=>G _ _ _ _ (h.t e),λe=>G _ _ _ _ (h.f e)⟩) hW
    exact hW
   ·split at hW
    ·rename_i H;rw[iQ H];refine Qi (λh=>h.mono λe s h A=>?_) hW;cases e with
     |normal=>exact G _ _ _ _ A
     |exit id=>exact I _ _ _ _ _ A
     |ret=>exact A
    rename_i H;rw[iP H];exact G _ _ _ _ hW
   ·exact G _ _ _ _ hW
   ·split at hW
    ·rename_i H;rw[iQ H];exact hW
    rename_i H;rw[iP H];refine Qi (λh=>h.mono λe s h A=>?_) hW;cases e with
    |normal=>exact A
    |exit id=>exact I _ _ _ _ _ A
    |ret=>exact A
   ·exact I _ _ _ _ _ hW
   ·exact hW
   ·exact hW
   ·rename_i d;split at hW
    ·rename_i H;rw[iQ H];exact hW
    rename_i H;rw[iP H];cases d with
    |false=>exact ZcS (λs h c J=>G _ _ _ _ J) hW
    |true=>exact ZfQ (λs h c J=>G _ _ _ _ J) _ _ _ _ _ hW
   ·split at hW
    ·exact hW.elim
    rename_i S;rw[iP S];refine Qi (λh=>h.mono λe s h A=>?_) hW;cases e with
    |normal=>exact G _ _ _ _ A
    |exit id=>exact I _ _ _ _ _ A
    |ret=>exact A
   exact hW
  ·exact hW
  exact hW
theorem Zk2 {K:Ex->List AV->List Zi->Cd->Prop} {n m:Nat} (A:n<=m) {k:List Item} {s:List AV} {h:List Zi} {c:Cd} (hW:W T p K n k s h c):W T p K m k s h c:=by
 induction A with
 |refl=>exact hW
 |step _ G=>exact Zru _ _ _ _ _ G
def ZjC (T:Tb) (p:Unit->Program) (o:Oper) (E:Operand->AV) (h:List Zi) (c:Cd) (K:AV->List Zi->Cd->Prop):Prop:=match evt T o E h with
 |.bad=>False
 |.val v A G=>K v A (c++G)
 |.call f H G=>chk (c++G) (SCt p f H h λr A=>K r A [])
theorem Zrt {ops:Array Oper} {o:Oper} {E:Operand->AV} {h:List Zi} {c:Cd} {K:AV->List Zi->Cd->Prop} (I:XA o.op=false) {g:Option (Unit->Bool)} (H:ZgW ops E o.guard=some g)
  (hW:Zc1 c g (λc=>ZjC T p o E h c K) (λ_=>K (skV T) h [])):Wop T p ops o E h c K:=by
 unfold Wop;have G:∀c,ZjC T p o E h c K->∀n,Zeq o.op=n->_:=λc J n S=>by
  unfold ZjC evt at J;rw[S]at J;exact J
 unfold XA at I;split at I
 ·rename_i A;simp only[H];refine Yg (λc h=>?_) (λh=>h) hW;have:=G c h _ A;simp only at this;cases he:ZqY T (λx=>strip (E x)) _ o.op with
  |none=>simp only[he]at this
  |some r=>simp only[he]at this|-;exact this
 ·rename_i A;simp only[H];refine Yg (λc h=>?_) (λh=>h) hW;have:=G c h _ A;simp only at this;cases he:Zjt o.op with
  |none=>simp only[he]at this
  |some r=>
   obtain⟨f,U⟩:=r;simp only[he]at this|-;cases hs:strip (E f)<;>simp only[hs]at this|-<;>exact this
 ·rename_i A;simp only[H];refine Yg (λc h=>?_) (λh=>h) hW;have:=G c h _ A;simp only at this;cases he:ZiM o.op with
  |none=>simp only[he]at this
  |some r=>
   obtain⟨a,b⟩:=r;simp only[he]at this|-;cases hs:ZjP _ (strip (E a)) (strip (E b))<;>simp only[hs]at this|-<;>exact this
 ·rename_i A;simp only[H];refine Yg (λc h=>?_) (λh=>h) hW;have:=G c h _ A;simp only at this;cases he:ZiU o.op with
  |none=>simp only[he]at this
  |some x=>
   simp only[he]at this|-;cases hs:ZmY (strip (E x))<;>simp only[hs]at this|-<;>exact this
 cases I
end
end Vm
namespace Vm
open Go Conc1
def ZrB (R:RC) (n k:Nat):Prop:=∀id,n<=id->id<n+k->id<R.m/\R.hw id=0/\R.hv id= .slice none 0 0
structure ZC (n k:Nat) (a b:AV):Prop where
 f:∀(R:RC) (v:Value),ZrB R n k->VR R a v->VR R b v
def To (s:List AV) (h:List Zi) (s₂:List AV) (h₂:List Zi):Prop:=∀(G:Nat->Nat->Nat->Prop) (R:RC) (t:Array Value),HR G R h->SL R s t->∃A,A.w=R.w/\HR G A h₂/\Xs R h A h₂/\R.le A/\SL A s₂ t
theorem To.trans {J s₂ A:List AV} {h₁ h₂ I:List Zi} (a:To J h₁ s₂ h₂) (b:To s₂ h₂ A I):To J h₁ A I:=λG R t H hs=>by
 obtain⟨R',a1,a2,Z,a4,a5⟩:=a G R t H hs;obtain⟨S,U,b2,Y,b4,V⟩:=b G R' t a2 a5;exact⟨S,U.trans a1,b2,Z.trans Y,a4.trans b4,V⟩
def Yz (n k:Nat):List AV->List AV->Prop
 |[],[]=>True
 |a::r,b::s=>(match b with
  |.undef=>Yz n k r s
  |b=>ZC n k a b/\Yz n k r s)
 |_,_=>False
theorem Yz.cons {n k:Nat} {a b:AV} {r s:List AV} (h:Yz n k (a::r) (b::s)):ZC n k a b/\Yz n k r s:=by
 unfold Yz at h;split at h
 ·exact⟨⟨λ_ _ _ _=>.undef _⟩,h⟩
 exact h
theorem Yz.mk {n k:Nat} {a b:AV} {r s:List AV} (G:ZC n k a b) (A:Yz n k r s):Yz n k (a::r) (b::s):=by
 unfold Yz;split
 ·exact A
 exact⟨G,A⟩
theorem Yz.len {n k:Nat}:∀ {s A:List AV},Yz n k s A->s.length=A.length
 |[],[],_=>rfl
 |_::_,_::_,h=>by simp[Yz.len h.cons.2]
 |[],_::_,h=>h.elim
 |_::_,[],h=>h.elim
theorem Yz.get {n k:Nat}:∀ {s A:List AV},Yz n k s A->∀ {i:Nat} {b:AV},A[i]? =some b->∃a,s[i]? =some a/\ZC n k a b
 |[],[],_,i,b,h=>by simp at h
 |a::_,b::_,h,0,c,hc=>by
  simp only[bJ,aD]at hc;subst hc;exact⟨a,rfl,h.cons.1⟩
 |_::_,_::_,h,i+1,c,hc=>Yz.get h.cons.2 hc
 |[],_::_,h,_,_,_=>h.elim
 |_::_,[],h,_,_,_=>h.elim
structure ZM (n k:Nat) (a b:Zi):Prop where
 br:∀(R:RC) (id:Nat),ZrB R n k->BR R id a->BR R id b
 ph:∀(R:RC) (id x:Nat),ZE R id a x↔ZE R id b x
 av:∀(R:RC) (id x o m:Nat),Qo R id a x o m↔Qo R id b x o m
 tk:Zaz a=Zaz b
def Zeb (n k:Nat):List Zi->List Zi->Prop
 |[],[]=>True
 |a::r,b::s=>ZM n k a b/\Zeb n k r s
 |_,_=>False
theorem Zeb.len {n k:Nat}:∀ {s A:List Zi},Zeb n k s A->s.length=A.length
 |[],[],_=>rfl
 |_::_,_::_,h=>by simp[Zeb.len h.2]
 |[],_::_,h=>h.elim
 |_::_,[],h=>h.elim
theorem Zeb.get {n k:Nat}:∀ {s A:List Zi},Zeb n k s A->∀ {i:Nat} {b:Zi},A[i]? =some b->∃a,s[i]? =some a/\ZM n k a b
 |[],[],_,i,b,h=>by simp at h
 |a::_,b::_,h,0,c,hc=>by
  simp only[bJ,aD]at hc;subst hc;exact⟨a,rfl,h.1⟩
 |_::_,_::_,h,i+1,c,hc=>Zeb.get h.2 hc
 |[],_::_,h,_,_,_=>h.elim
 |_::_,[],h,_,_,_=>h.elim
theorem Zeb.get' {n k:Nat}:∀ {s A:List Zi},Zeb n k s A->∀ {i:Nat} {a:Zi},s[i]? =some a->∃b,A[i]? =some b/\ZM n k a b
 |[],[],_,i,b,h=>by simp at h
 |a::_,b::_,h,0,c,hc=>by
  simp only[bJ,aD]at hc;subst hc;exact⟨b,rfl,h.1⟩
 |_::_,_::_,h,i+1,c,hc=>Zeb.get' h.2 hc
 |[],_::_,h,_,_,_=>h.elim
 |_::_,[],h,_,_,_=>h.elim
theorem HR.wk {G:Nat->Nat->Nat->Prop} {R:RC} {h h₂:List Zi} {n k:Nat} (H:HR G R h) (hN:ZrB R n k) (J:Zeb n k h h₂):HR G R h₂:=by
 refine⟨J.len▸H.len,λb o m=>?_,λid x S=>?_,λi j bi bj b Y hi hj U Z=>?_,H.cl,H.fresh,λid x b S hk U o m=>?_,H.n0m⟩
 ·rw[H.okd];refine and_congr_right λ_=>and_congr_right λ_=>⟨λV id x S=>?_,λV id x S=>?_⟩
  ·obtain⟨a,I,A⟩:=J.get S;exact(A.av R id b o m).1 (V id a I)
  obtain⟨a,I,A⟩:=J.get' S;exact(A.av R id b o m).2 (V id a I)
 ·obtain⟨a,I,A⟩:=J.get S;exact A.br R id hN (H.blk id a I)
 ·obtain⟨a,I,A⟩:=J.get hi;obtain⟨a',ab,aa⟩:=J.get hj;exact H.dis i j a a' b Y I ab ((A.ph R i b).2 U) ((aa.ph R j b).2 Z)
 obtain⟨a,I,A⟩:=J.get S;exact H.tokG id a b I (by rw[A.tk];exact hk) ((A.ph R id b).2 U) o m
theorem Xs.wk {R R':RC} {h h' h₂:List Zi} {n k:Nat} (A:Xs R h R' h') (J:Zeb n k h' h₂):Xs R h R' h₂:=
 ⟨A.n0,A.os,A.tape,A.output,A.size,A.m,A.α,A.ok,A.keep,A.frame,λid x b S G=>by
  obtain⟨a,I,H⟩:=J.get S
  exact A.own id a b I ((H.ph R' id b).2 G)⟩
def ghosts:List (Nat×Bool)->List Zi
 |[]=>[]
 |(s,true)::r=>.gar s (λ_=>0) (λ_=>[])::ghosts r
 |(s,false)::r=>.tok s (λ_=>0)::ghosts r
theorem HR.ghost {G:Nat->Nat->Nat->Prop} {R:RC} {h:List Zi} (H:HR G R h) (s:Nat) (g:Bool):
  ∃A,A.w=R.w/\HR G A (h++ghosts [(s,g)])/\Xs R h A (h++ghosts [(s,g)])/\R.le A/\A.m=R.m+1/\A.hw R.m=0/\A.hv R.m= .slice none 0 0:=by
 have aa:∀blk,(blk= .gar s (λ_=>0) (λ_=>[])\/blk= .tok s (λ_=>0))->∃A,A.w=R.w/\HR G A (h++[blk])/\Xs R h A (h++[blk])/\R.le A/\A.m=R.m+1/\A.hw R.m=0/\A.hv R.m= .slice none 0 0:=by
  intro blk I;have ab:∀i x,(h++[blk])[i]? =some x->(i=R.m/\x=blk)\/(i≠R.m/\h[i]? =some x):=λi x Z=>by
   rcases QD Z with Z|⟨rfl,rfl⟩
   ·exact .inr ⟨λe=>by have:=(aE.1 Z).1;rw[H.len]at this;omega,Z⟩
   exact .inl ⟨H.len,rfl⟩
  have V:∀A:RC,A.hv R.m= .slice none 0 0->∀b,¬ZE A R.m blk b:=λA hv b Y=>by
   rcases I with rfl|rfl
   ·obtain⟨a,n,c,J,_⟩:=Y;rw[hv]at J;cases J
   obtain⟨a,n,c,J,_⟩:=Y;rw[hv]at J;cases J
  obtain⟨A,a1,a2,a3,a4,a5,a6,a7,_⟩:=H.room R.m (R.m+1) blk 0 (.slice none 0 0) R.w (h++[blk]) (by rw[List.length_append,H.len];rfl) (Nat.le_succ _) ab (λhi=>absurd hi (dJ _)) (λ_=>False)
   (λb=>⟨λh=>h.elim,λh=>absurd h.1 (dJ _)⟩) rfl rfl rfl (aJ _) (λ_ _ _=>rfl) (λ_ _ _ _ _ _=>rfl)
   (λA _ _ S U _=>by
    rcases I with rfl|rfl
    ·first|exact⟨S,.inl ⟨rfl,U⟩⟩|exact⟨S,.inl ⟨rfl,none,U⟩⟩
    first|exact⟨S,.inl ⟨rfl,U⟩⟩|exact⟨S,.inl ⟨rfl,none,U⟩⟩)
   (λA hv _ b Y=>absurd Y (V A hv b))
   (λA hv b o n _=>by
    rcases I with rfl|rfl
    ·exact V A hv b
    exact λa len ac J=>by rw[hv]at J;cases J)
   (by rcases I with rfl|rfl<;>rfl)
  exact⟨A,a1,a5,a6,a7,a2,a4,a3⟩
 cases g with
 |true=>exact aa _ (.inl rfl)
 |false=>exact aa _ (.inr rfl)
theorem HR.ghosts {G:Nat->Nat->Nat->Prop}:∀(l:List (Nat×Bool)) {R:RC} {h:List Zi},HR G R h->
  ∃A,A.w=R.w/\HR G A (h++Vm.ghosts l)/\Xs R h A (h++Vm.ghosts l)/\R.le A/\A.m=R.m+l.length/\ZrB A R.m l.length
 |[],R,h,H=>⟨R,rfl,by simpa [Vm.ghosts]using H,by simpa [Vm.ghosts]using Xs.refl R h,RC.le.refl _,rfl,λid h1 U=>by simp at U;omega⟩
 |(s,g)::l,R,h,H=>by
  obtain⟨A,a1,a2,a3,a4,a5,a6,a7⟩:=H.ghost s g;obtain⟨I,b1,V,Z,b4,b5,b6⟩:=HR.ghosts l a2;have e:h++Vm.ghosts [(s,g)]++Vm.ghosts l=h++Vm.ghosts ((s,g)::l):=by
   cases g<;>simp[Vm.ghosts]
  rw[e]at V Z;refine⟨I,b1.trans a1,V,a3.trans Z,a4.trans b4,by rw[b5,a5,bF];omega,λid h1 U=>?_⟩;rw[bF]at U;by_cases he:id=R.m
  ·subst he;obtain⟨t1,t2⟩:=b4.tk R.m (by omega);obtain⟨_,c2,c3⟩:R.m<I.m/\True/\True:=⟨by omega,trivial,trivial⟩;have hb:=V.blk R.m;have Y:∃blk,(h++Vm.ghosts ((s,g)::l))[R.m]? =some blk/\(blk= .gar s (λ_=>0) (λ_=>[])\/blk= .tok s (λ_=>0)):=by
    rw[List.getElem?_append_right (by rw[H.len];exact aJ _),H.len,eJ];cases g
    ·exact⟨_,rfl,.inr rfl⟩
    exact⟨_,rfl,.inl rfl⟩
   obtain⟨blk,aa,ab⟩:=Y;have J:=hb blk aa;have S:I.hw R.m=0:=by
    rcases ab with rfl|rfl
    ·exact J.1
    exact J.1
   exact⟨by omega,S,by rw[t2 (by rw[a6,S])];exact a7⟩
  exact b6 id (by omega) (by omega)
theorem To.of (gs:List (Nat×Bool)) {s s₂:List AV} {h h₂:List Zi} (U:Yz h.length gs.length s s₂/\Zeb h.length gs.length (h++ghosts gs) h₂):To s h s₂ h₂:=λG R t H A=>by
 obtain⟨Y,V⟩:=U;obtain⟨S,Z,a2,a3,J,a5,I⟩:=HR.ghosts gs H;rw[<-H.len]at I;refine⟨S,Z,a2.wk I V,a3.wk V,J,by rw[<-Y.len];exact A.1,λi b hi=>?_⟩;obtain⟨a,h1,h2⟩:=Y.get hi;exact h2.f S _ I ((A.2 i a h1).mono J)
section
variable {P:Program} {rd:Bool} {R₀:RC} {h₀:List Zi}
theorem CI.to {pre:List Item} {K:Ex->List AV->List Zi->Prop} {s s₂:List AV} {h h₂:List Zi} (A:To s h s₂ h₂) (H:CI P rd R₀ h₀ pre K s₂ h₂):CI P rd R₀ h₀ pre K s h:=λR t J hs b ds k cs Y=>by
 obtain⟨R',S,a2,a3,I,a5⟩:=A _ R t J.hr hs;obtain⟨e,Z,h',U,t',G,b1,b2,b5,b6,b7,V⟩:=H R' t (J.step a2 a3 I) a5 b ds k cs (by rw[S];exact Y);exact⟨e,Z,h',U,t',G,b1,b2,b5,b6,b7,by rw[S]at V;exact ZvJ I V⟩
end
section
variable {T:Tb} {p:Unit->Program}
theorem LP.to {rd:Bool} {x:Code} {Q:Ex->List AV->List Zi->Prop} {s s₂:List AV} {h h₂:List Zi} (I:To s h s₂ h₂) (H:LP rd p x Q s₂ h₂):LP rd p x Q s h:=⟨λA G=>CI.to I (H.run A G)⟩
def Zch (L:List Nat):Nat->List AV->List AV
 |_,[]=>[]
 |i,a::r=>(if L.any (ZK i)then a else .undef)::Zch L (i+1) r
def keep (L:List Nat) (s:List AV):List AV:=Zch L 0 s
theorem ZgM {L:List Nat}:∀ {s:List AV} {i j:Nat} {a:AV},(Zch L i s)[j]? =some a->a= .undef\/s[j]? =some a
 |[],_,_,_,h=>by simp[Zch]at h
 |x::r,i,0,a,h=>by
  simp only[Zch,bJ,aD]at h;subst h;split
  ·exact .inr rfl
  exact .inl rfl
 |x::r,i,j+1,a,h=>by
  simp only[Zch,cM]at h;simpa using ZgM h
theorem Zc9 {L:List Nat}:∀ {s:List AV} {i:Nat},(Zch L i s).length=s.length
 |[],_=>rfl
 |x::r,i=>by simp[Zch,Zc9]
theorem SL.keep {R:RC} {s:List AV} {t:Array Value} (A:SL R s t) (L:List Nat):SL R (Vm.keep L s) t:=
 ⟨by rw[Vm.keep,Zc9];exact A.1,λi a h=>by
  rcases ZgM h with rfl|h
  ·exact .undef _
  exact A.2 i a h⟩
theorem To.keep (L:List Nat) (s:List AV) (h:List Zi):To s h (Vm.keep L s) h:=λ_ R _ H A=>⟨R,rfl,H,Xs.refl _ _,RC.le.refl _,A.keep L⟩
def trimS (n:Nat) (h:List Zi) (s:List AV):List AV:=s.map (QE true (aT n) h 5)
theorem SL.trimS {R R':RC} {s:List AV} {t:Array Value} {n:Nat} {h:List Zi} (G:SL R s t) (A:∀k a v,VR R a v->VR R' (QE true (aT n) h k a) v):SL R' (Vm.trimS n h s) t:=
 ⟨by rw[Vm.trimS,bA];exact G.1,λi a H=>by
  rw[Vm.trimS,aP,aG]at H;obtain⟨x,I,rfl⟩:=H
  exact A 5 x _ (G.2 i x I)⟩
structure ZuO {ι:Type} (st:ι->List AV) (hp:ι->List Zi) (inv:ι->Prop) (μ:ι->Nat) (i:ι) (s:List AV) (h:List Zi):Prop where
 ex:∃j,inv j/\μ j<μ i/\To s h (st j) (hp j)
def ZfD {ι:Type} (L:List Nat) (st:ι->List AV) (A:ι->List Zi) (inv:ι->Prop) (G:ι->Nat) (i:ι) (n:Nat) (Q:Ex->List AV->List Zi->Prop) (e:Ex) (s:List AV) (h:List Zi) (c:Cd):Prop:=match e with
 |.normal=>(match Qd n h.length with
  |true=>chk c (ZuO st A inv G i (trimS n h (keep L s)) (sel true (aT n) h))
  |false=>False)
 |.exit id=>chk c (Q (.exit id) s h)
 |.ret=>chk c (Q .ret s h)
theorem Zci {ι:Type} {L:List Nat} {st:ι->List AV} {G:ι->List Zi} {inv:ι->Prop} {H:ι->Nat} {i:ι} {n:Nat} {Q:Ex->List AV->List Zi->Prop} {s:List AV} {h:List Zi} {c:Cd} (A:ZfD L st G inv H i n Q .normal s h c):n<=h.length/\chk c (ZuO st G inv H i (trimS n h (keep L s)) (sel true (aT n) h)):=by
 simp only[ZfD]at A;split at A
 ·rename_i I;exact⟨Xc I,A⟩
 exact A.elim
theorem Zia {ι:Type} {L:List Nat} {st:ι->List AV} {G:ι->List Zi} {inv:ι->Prop} {H:ι->Nat} {i:ι} {n:Nat} {Q:Ex->List AV->List Zi->Prop} {e:Ex} {s:List AV} {h:List Zi} {c:Cd} (A:ZfD L st G inv H i n Q e s h c):ZV c:=by
 cases e with
 |normal=>exact(Qb (Zci A).2).1
 |exit id=>exact(Qb A).1
 |ret=>exact(Qb A).1
theorem LP.ind (hT:T.Of (p ())) (hm:(p ()).follows .mixedOrders=true) (aa:T.fl=false) {x:Code} {Q:Ex->List AV->List Zi->Prop} {s:List AV} {h:List Zi} {ι:Type} (L:List Nat) (st:ι->List AV) (hp:ι->List Zi) (inv:ι->Prop) (μ:ι->Nat) (i:ι) (n:Nat)
  (hn:∀i,(hp i).length=n) (hi:inv i) (ai:To (Vm.keep L s) h (st i) (hp i)) {m:Nat} (step:∀i,inv i->W T p (ZfD L st hp inv μ i n Q) m [.code x] (st i) (hp i) []):LP T.rd p x Q s h:=by
 refine LP.to ((To.keep L s h).trans ai) ?_;have ak:∀n i,μ i<=n->inv i->LP T.rd p x Q (st i) (hp i):=by
  intro n';induction n' with
  |zero=>
   intro i am hi;refine⟨λA G R t S hs b ds k cs hd=>?_⟩;obtain⟨e,s',h',R',J,I,⟨c,H⟩,Z,U,V,Y,b8⟩:=(Zmu (R₀:=A) (h₀:=G) hT hm (λh=>by rw[aa]at h;cases h) (λe s h c hk=>Zia hk) m _ _ _ [] (step i hi)).2 R t S hs b ds (.inLoop x::k) cs hd;cases e with
   |normal=>
    obtain⟨_,H⟩:=Zci H;obtain⟨j,_,hj,_⟩:=(Qb H).2.ex;omega
   |exit id=>exact⟨.exit id,s',h',R',J,I,⟨λh=>(by cases h),(Qb H).2⟩,Z,U,V,Y,by
     have:=Arr.pass (x:=.inLoop x) (λ_ _=>rfl) (λh=>(by cases h)) b8
     exact this⟩
   |ret=>exact⟨.ret,s',h',R',J,I,⟨λh=>(by cases h),(Qb H).2⟩,Z,U,V,Y,b8⟩
  |succ n' ih=>
   intro i am hi;refine⟨λA G R t S hs b ds k cs hd=>?_⟩;obtain⟨e,s',h',R',J,I,⟨c,H⟩,Z,U,V,Y,b8⟩:=(Zmu (R₀:=A) (h₀:=G) hT hm (λh=>by rw[aa]at h;cases h) (λe s h c hk=>Zia hk) m _ _ _ [] (step i hi)).2 R t S hs b ds (.inLoop x::k) cs hd;cases e with
   |normal=>
    obtain⟨al,H⟩:=Zci H;obtain⟨j,ac,aq,ap⟩:=(Qb H).2.ex;obtain⟨R2,c1,c2,c5⟩:=Z.trimN n (by rw[<-S.ext.n0,<-hn i,S.hr.len];exact S.hr.n0m) al;obtain⟨R3,d1,d2,d3,d4,d5⟩:=ap _ R2 J c2.hr ((U.keep L).trimS c5);obtain⟨e,aj,ah,ao,ae,ab,f1,f2,f5,f6,f7,f8⟩:=(ih j (by omega) ac).run A G R3 J (c2.step d2 d3 d4) d5 b I k cs (by rw[d1,c1];exact V);rw[d1,c1]at f8;exact⟨e,aj,ah,ao,ae,ab,f1,f2,f5,f6,λhr=>(f7 hr).trans (Y hr),Arr.of_steps (Steps.trans b8 (.one ZhR)) (Zhf S (c2.step d2 d3 d4) f8)⟩
   |exit id=>exact⟨.exit id,s',h',R',J,I,⟨λh=>(by cases h),(Qb H).2⟩,Z,U,V,Y,Arr.pass (x:=.inLoop x) (λ_ _=>rfl) (λh=>(by cases h)) b8⟩
   |ret=>exact⟨.ret,s',h',R',J,I,⟨λh=>(by cases h),(Qb H).2⟩,Z,U,V,Y,b8⟩
 exact ak (μ i) i (aJ _) hi
structure Zxo {ι:Type} (st:ι->List AV) (hp:ι->List Zi) (inv:ι->Prop) (s:List AV) (h:List Zi):Prop where
 ex:∃j,inv j/\To s h (st j) (hp j)
def Zmh {ι:Type} (L:List Nat) (st:ι->List AV) (A:ι->List Zi) (inv:ι->Prop) (n:Nat) (Q:Ex->List AV->List Zi->Prop) (e:Ex) (s:List AV) (h:List Zi) (c:Cd):Prop:=match e with
 |.normal=>(match Qd n h.length with
  |true=>chk c (Zxo st A inv (trimS n h (keep L s)) (sel true (aT n) h))
  |false=>False)
 |.exit id=>chk c (Q (.exit id) s h)
 |.ret=>chk c (Q .ret s h)
theorem Zfp {ι:Type} {L:List Nat} {st:ι->List AV} {G:ι->List Zi} {inv:ι->Prop} {n:Nat} {Q:Ex->List AV->List Zi->Prop} {s:List AV} {h:List Zi} {c:Cd} (A:Zmh L st G inv n Q .normal s h c):n<=h.length/\chk c (Zxo st G inv (trimS n h (keep L s)) (sel true (aT n) h)):=by
 simp only[Zmh]at A;split at A
 ·rename_i H;exact⟨Xc H,A⟩
 exact A.elim
theorem Zof {ι:Type} {L:List Nat} {st:ι->List AV} {G:ι->List Zi} {inv:ι->Prop} {n:Nat} {Q:Ex->List AV->List Zi->Prop} {e:Ex} {s:List AV} {h:List Zi} {c:Cd} (A:Zmh L st G inv n Q e s h c):ZV c:=by
 cases e with
 |normal=>exact(Qb (Zfp A).2).1
 |exit id=>exact(Qb A).1
 |ret=>exact(Qb A).1
theorem XP.by (hT:T.Of (p ())) (hm:(p ()).follows .mixedOrders=true) (ac:T.fl=false) {x:Code} {Q:Ex->List AV->List Zi->Prop} {s:List AV} {h:List Zi} {ι:Type} (L:List Nat) (st:ι->List AV) (Y:ι->List Zi) (inv:ι->Prop)
  {m:Nat} (step:W T p (Zmh L st Y inv h.length Q) m [.code x] s h []) (rest:∀i,inv i->Q .normal (st i) (Y i)):XP T.rd p x Q s h:=by
 refine⟨λG I R t S hs b ds k cs hd=>?_⟩;obtain⟨e,s',h',R',J,H,⟨c,A⟩,b2,U,V,Z,b8⟩:=(Zmu (R₀:=G) (h₀:=I) hT hm (λh=>by rw[ac]at h;cases h) (λe s h c hk=>Zof hk) m _ _ _ [] step).2 R t S hs b ds k cs hd;cases e with
 |normal=>
  obtain⟨ab,A⟩:=Zfp A;obtain⟨j,aa,ae⟩:=(Qb A).2.ex;obtain⟨R2,c1,c2,c5⟩:=b2.trimN h.length (by rw[<-S.ext.n0,S.hr.len];exact S.hr.n0m) ab;obtain⟨R3,d1,d2,d3,d4,d5⟩:=ae _ R2 J c2.hr ((U.keep L).trimS c5);refine⟨.normal,st j,Y j,R3,J,H,rest j aa,c2.step d2 d3 d4,d5,by rw[d1,c1];exact V,Z,by rw[d1,c1];exact b8⟩
 |exit id=>exact⟨.exit id,s',h',R',J,H,(Qb A).2,b2,U,V,Z,b8⟩
 |ret=>exact⟨.ret,s',h',R',J,H,(Qb A).2,b2,U,V,Z,b8⟩
theorem HP.cut {rd:Bool} {nb:Nat} {K:Ex->List AV->List Zi->Cd->Prop} {k:List Item} {s s₂:List AV} {h h₂:List Zi} (L:List Nat) (n:Nat) (hn:n<=h.length) (h0:nb<=n) (ab:To (trimS n h (Vm.keep L s)) (Vm.sel true (aT n) h) s₂ h₂) (H:HP rd nb p k K s₂ h₂):HP rd nb p k K s h:=by
 refine⟨λhK G S A R t hI hs b ds k' cs hd=>?_⟩;obtain⟨R2,c1,J,c5⟩:=hI.trimN n (cF A h0) hn;obtain⟨R3,d1,U,V,d4,d5⟩:=ab _ R2 t J.hr ((hs.keep L).trimS c5);obtain⟨e,ac,aa,ae,Z,I,f1,f2,f5,f6,f7,Y⟩:=H.run hK G S A R3 t (J.step U V d4) d5 b ds k' cs (by rw[d1,c1];exact hd);rw[d1,c1]at Y;exact⟨e,ac,aa,ae,Z,I,f1,f2,f5,f6,f7,Zhf hI (J.step U V d4) Y⟩
end
end Vm
end Go.Proofs.YtjgpiclllehgmaaGreat
