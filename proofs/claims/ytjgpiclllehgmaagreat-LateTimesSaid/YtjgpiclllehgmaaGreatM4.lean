/- Lemmas. -/
import Derived.Test.YtjgpiclllehgmaaGreatM3
set_option linter.all false
open Array renaming getD_eq_getD_getElem?->aI,getElem?_setIfInBounds->bR,replicate->dJ
open Bool renaming and_eq_true->aT
open Go.Frame renaming enter->dM
open List renaming all_eq_true->bL,getD_eq_getElem?_getD->aA,getElem?_append->dX,getElem?_cons_succ->cN,getElem?_cons_zero->bJ,getElem?_eq_getElem->aD,getElem?_eq_some_iff->aE,getElem?_map->aO,length_cons->bF,length_map->bA,length_range->cO,mapM_cons->gb,mem_cons->bG,mem_cons_of_mem->aQ,mem_cons_self->aU,mem_map->bE,mem_of_getElem?->aZ,mem_range->bW,nodup_cons->ee,nodup_nil->ez,range->aR,range_eq_range'->eU
open Nat renaming add_mul->dH,le_refl->aJ,le_trans->cF,lt_irrefl->dI,mul_le_mul_right->aL,sub_self->eX,succ_mul->bI
open Option renaming map_eq_some_iff->aG
open Option.some renaming injEq->aC
open Prod.mk renaming injEq->aK
open Go.Result renaming andThen_ok->aH
open Go.Sem renaming run_bind->aP,run_pure->bC
namespace Go.Proofs.YtjgpiclllehgmaaGreat
namespace Vm
open Go Conc1
def Ql (id:Nat):List Nat->Nat->Option Nat
 |[],_=>none
 |x::r,j=>if ZD x id then some j else Ql id r (j+1)
theorem JW {id:Nat}:∀ {l:List Nat} {k j:Nat},Ql id l k=some j->k<=j/\l[j-k]? =some id
 |[],_,_,h=>by simp[Ql]at h
 |x::r,k,j,h=>by
  simp only[Ql]at h;split at h
  ·rename_i G;simp only[aC]at h;subst h;rw[eX];exact⟨aJ _,by rw[ZB G];rfl⟩
  obtain⟨H,A⟩:=JW h;exact⟨by omega,by rw[show j-k=(j-(k+1))+1 from by omega];exact A⟩
theorem X3 {id:Nat}:∀ {l:List Nat} {k:Nat},Ql id l k=none->id∉l
 |[],_,_=>by simp
 |x::r,k,h=>by
  simp only[Ql]at h;split at h
  ·cases h
  rename_i A;have:=X3 h;intro hm;rcases bG.1 hm with rfl|hm
  ·exact A (by simp[ZD])
  exact this hm
def Zp4 (n:Nat) (f:(Unit->Int)->List AV):Bool:=decide (∀i,i<n->(f fun _=>(i:Int)).all XI=true)
def Qs (fz:Bool) (ι:List Nat) (h:List Zh):Nat->AV->AV
 |0,_=>.undef
 |k+1,a=>(match a with
  |.ptr id A=>(match Ql id ι 0 with
   |some j=>.ptr j A
   |none=>if fz then(match Jm h id with
    |some cs=>if(cs.map fun c=>purify (Qs fz ι h k c)).all XI then .iptr (cs.map fun c=>purify (Qs fz ι h k c)) A else .undef
    |none=>.undef)else .undef)
  |.aptr id s e A=>(match Ql id ι 0 with
   |some j=>.aptr j s e A
   |none=>.undef)
  |.msl id s lo m c=>(match Ql id ι 0 with
   |some j=>.msl j s lo m c
   |none=>if fz then(match h[id]? with
    |some (.arr s' len f)=>if ZD s s' then .gd (fun _=>decide (0<=lo ()/\lo ()+m ()<=len ())) (.isl s m (fun e=>f fun _=>lo ()+e ()) .none)else .undef
    |_=>.undef)else .undef)
  |.gsl id m=>(match Ql id ι 0 with
   |some j=>.gsl j m
   |none=>if fz then(match h[id]? with
    |some (.gar s m' f)=>.gd (fun _=>decide (m ()=m' ())) (.isl s m' f .none)
    |some (.fro s m' f)=>.gd (fun _=>decide (m ()=m' ())) (.isl s m' f .none)
    |some (.vgar s m' f)=>.gd (fun _=>decide (m ()=m' ())&&Zp4 (m' ()).toNat (fun e=>(f e).map fun c=>purify (Qs fz ι h k c))) (.isl s m' (fun e=>(f e).map fun c=>purify (Qs fz ι h k c)) .none)
    |_=>.undef)else .undef)
  |.gptr id s m e A=>(match Ql id ι 0 with
   |some j=>.gptr j s m e A
   |none=>.undef)
  |.nsub id e l=>(match Ql id ι 0 with
   |some j=>.nsub j e l
   |none=>if fz then(match h[id]? with
    |some (.fam _ s _ _ g)=>.isl s l (g e) .none
    |_=>.undef)else .undef)
  |.nptr id s e q A=>(match Ql id ι 0 with
   |some j=>.nptr j s e q A
   |none=>.undef)
  |.lit s cs=>.lit s (cs.map (Qs fz ι h k))
  |.map id=>(match Ql id ι 0 with
   |some j=>.map j
   |none=>if fz then(match h[id]? with
    |some (.gob (.mapL ka n L))=>.imap ka n L
    |_=>.undef)else .undef)
  |.mit id=>(match Ql id ι 0 with
   |some j=>.mit j
   |none=>.undef)
  |.yld id=>(match Ql id ι 0 with
   |some j=>.yld j
   |none=>.undef)
  |.isl s m f (.own id)=>(match Ql id ι 0 with
   |some j=>.isl s m f (.own j)
   |none=>.isl s m f .none)
  |.fn f G H=>.fn f (G.map (Qs fz ι h k)) (H.map (Qs fz ι h k))
  |.agg cs=>.agg (cs.map (Qs fz ι h k))
  |.tup cs=>.tup (cs.map (Qs fz ι h k))
  |.gd g v=>.gd g (Qs fz ι h k v)
  |a=>a)
def ZvE (fz:Bool) (z l:Nat):Nat:=match fz with
 |true=>z
 |false=>l
def ZQ (fz:Bool) (ι:List Nat) (h:List Zh):Zh->Zh
 |.cells cs=>.cells (cs.map (Qs fz ι h 5))
 |.loop s d=>.loop (s.map (Qs fz ι h 5)) d
 |.vgar s n f=>.vgar s n fun e=>(f e).map (Qs fz ι h 5)
 |.fam z s n m g=>.fam (ZvE fz z ι.length) s n m g
 |b=>b
def ZfT (fz:Bool) (ι:List Nat) (h:List Zh):List Nat->List Zh
 |[]=>[]
 |i::r=>(match h[i]? with
  |some b=>ZQ fz ι h b
  |none=>.dead)::ZfT fz ι h r
def sel (fz:Bool) (ι:List Nat) (h:List Zh):List Zh:=ZfT fz ι h ι
theorem Zbd {fz:Bool} {ι:List Nat} {h:List Zh}:∀ {l:List Nat},(ZfT fz ι h l).length=l.length
 |[]=>rfl
 |_::r=>by simp[ZfT,Zbd (l:=r)]
theorem Zcv {fz:Bool} {ι:List Nat} {h:List Zh}:∀ {l:List Nat} {j:Nat} {x:Zh},(∀i∈l,i<h.length)->(ZfT fz ι h l)[j]? =some x->∃i b,l[j]? =some i/\h[i]? =some b/\x=ZQ fz ι h b
 |[],j,x,_,hx=>by simp[ZfT]at hx
 |i::r,j,x,hl,hx=>by
  simp only[ZfT]at hx;have A:=hl i (aU ..);rw[aD A]at hx;cases j with
  |zero=>
   simp only[bJ,aC]at hx;exact⟨i,_,rfl,aD A,hx.symm⟩
  |succ j=>
   simp only[cN]at hx;exact Zcv (l:=r) (fun i A=>hl i (aQ _ A)) hx
theorem ZaN {R R':RC} {fz:Bool} {ι:List Nat} {h:List Zh} {i j:Nat} (A:R'.α j=R.α i) (G:R'.hv j=R.hv i) {blk:Zh} {b:Nat}:Zz R' j (ZQ fz ι h blk) b↔Zz R i blk b:=by
 cases blk with
 |_=>simp only[ZQ,Zz,A,G]
theorem ZgZ {R R':RC} {fz:Bool} {ι:List Nat} {h:List Zh} {i j:Nat} (A:R'.α j=R.α i) (G:R'.hv j=R.hv i) {blk:Zh} {b o m:Nat}:Qe R' j (ZQ fz ι h blk) b o m↔Qe R i blk b o m:=by
 cases blk with
 |_=>simp only[ZQ,Qe,Zz,A,G]
theorem ZoK {fz:Bool} {ι:List Nat} {h:List Zh} {blk:Zh}:Zar (ZQ fz ι h blk)=Zar blk:=by
 cases blk<;>rfl
section
variable {R R':RC} {h:List Zh} {ι:List Nat} {fz:Bool}
theorem Zr8 {G:Nat->Nat->Nat->Prop} (H:HR G R h) (hm:R'.m=ι.length) (hw:R'.w=R.w) (a9:∀j i,ι[j]? =some i->R'.α j=R.α i) (az:∀j i,ι[j]? =some i->R'.hw j=R.hw i) (bh:∀j i,ι[j]? =some i->R'.hv j=R.hv i)
  (aw:∀b o n,R.ok b o n->R'.ok b o n) (aa:fz=true->∀id blk b,id∉ι->h[id]? =some blk->Zz R id blk b->∀o n,R'.ok b o n):∀(k:Nat) {a:AV} {v:Value},VR R a v->VR R' (Qs fz ι h k a) v:=by
 have ae:∀ {a:AV} {v:Value},PR R.w R.ok a v->PR R'.w R'.ok a v:=fun h=>h.mono aw (fun _ _ _ _ _ _=>by rw[hw]) (fun _ _ _ _ h=>by rw[hw];exact h);have lt:∀ {id j:Nat},Ql id ι 0=some j->j<R'.m/\R'.α j=R.α id/\R'.hw j=R.hw id/\R'.hv j=R.hv id:=fun {id j} h=>by
  obtain⟨_,I⟩:=JW h;rw[Nat.sub_zero]at I;exact⟨by rw[hm];exact(aE.1 I).1,a9 _ _ I,az _ _ I,bh _ _ I⟩
 intro k;induction k with
 |zero=>exact fun _=>.undef _
 |succ k ih=>
  intro a v hv;cases hv with
  |pure _ _ hp=>
   cases hp with
   |isl0 s m f tk h0 ht=>cases tk with
    |own id=>cases ht
    |nn=>cases ht
    |_=>exact .pure _ _ (.isl0 _ _ _ _ h0 ht)
   |islE s m f tk a h0 ht=>cases tk with
    |own id=>exact absurd ht (fun h=>by cases h<;>contradiction)
    |nn=>exact absurd ht (fun h=>by cases h<;>contradiction)
    |_=>exact .pure _ _ (.islE _ _ _ _ a h0 ht)
   |isl s m f tk b o len ai us hn hc ht Z hl J I S=>cases tk with
    |own id=>exact absurd ht (fun h=>by cases h<;>contradiction)
    |nn=>exact absurd ht (fun h=>by cases h<;>contradiction)
    |_=>exact .pure _ _ (ae (.isl _ _ _ _ b o len ai us hn hc ht Z hl J I S))
   |iptr cs ab b o us J I S=>exact .pure _ _ (ae (.iptr cs ab b o us J I S))
   |bool b=>exact .pure _ _ (.bool b)
   |int k n=>exact .pure _ _ (.int k n)
   |str s=>exact .pure _ _ (.str s)
   |nilptr=>exact .pure _ _ .nilptr
   |cch c=>exact .pure _ _ (.cch c)
   |imap ka n L b es ak J I S=>exact .pure _ _ (ae (.imap ka n L b es ak J I S))
   |imap0 ka n L h=>exact .pure _ _ (.imap0 ka n L h)
   |nilmap=>exact .pure _ _ .nilmap
   |nilfn=>exact .pure _ _ .nilfn
  |undef=>exact .undef _
  |ptr id ab ah=>
   simp only[Qs];split
   ·rename_i j A;obtain⟨J,I,_,_⟩:=lt A;rw[<-I];exact .ptr j ab J
   rename_i A;split
   ·rename_i ac;split
    ·rename_i cs au;split
     ·rename_i ap;obtain⟨arr,ty,J,I,S⟩:=H.blk id _ (Jg au);refine .pure _ _ (.iptr _ ab (R.α id).b (R.α id).o (fun j=>arr.getD ((R.α id).o+j) undef) (fun j c hc=>?_) (fun j c hc=>?_) (aa ac id _ _ (X3 A) (Jg au) rfl _ _))
      ·have ba:=(aE.1 hc).1;rw[bA]at ba;rw[hw];exact ZY J (by omega)
      rw[aO,aG]at hc;obtain⟨c0,V,rfl⟩:=hc;rw[bL]at ap;exact(ih (S j c0 V)).purify (ap _ (bE.2 ⟨c0,aZ V,rfl⟩))
     exact .undef _
    exact .undef _
   exact .undef _
  |nn s m f _ hp hv=>exact .nn s m f v (ae hp) hv
  |own s m f id _ ah hp hn Z=>
   simp only[Qs];split
   ·rename_i j A;obtain⟨J,_,I,S⟩:=lt A;exact .own s m f j v J (ae hp) (by rw[I];exact hn) (by rw[I,S];exact Z)
   exact .pure _ _ (ae hp)
  |aptr id s e ab i ah Z=>
   simp only[Qs];split
   ·rename_i j A;obtain⟨J,I,_,_⟩:=lt A;rw[<-I];exact .aptr j s e ab i J Z
   exact .undef _
  |gptr id s m e ab a ah hn Z=>
   simp only[Qs];split
   ·rename_i j A;obtain⟨J,_,I,S⟩:=lt A;exact .gptr j s m e ab a J (by rw[I];exact hn) (by rw[I,S];exact Z)
   exact .undef _
  |msl id s lo m c i len ai ah bl hn hc ar=>
   simp only[Qs];split
   ·rename_i j A;obtain⟨J,I,_,_⟩:=lt A;rw[<-I];exact .msl j s lo m c i len ai J bl hn hc ar
   rename_i A;split
   ·rename_i ac;split
    ·rename_i s' ln f Y;split
     ·rename_i hs;have hs:=ZB hs;subst hs;refine .gd _ _ _ fun U=>?_;have U:=of_decide_eq_true U;obtain⟨arr,ty,l0,J,I,S,h4⟩:=H.blk id _ Y;have bc:i+len<=l0:=by omega
      have am:(i+len)*s<=l0*s:=aL _ bc;rw[dH]at am;have ao:∀k:Nat,(f fun _=>lo ()+((fun _:Unit=>(k:Int)) ()))=f fun _=>((i+k:Nat):Int):=fun k=>congrArg f (funext fun _=>by show lo ()+(k:Int)=_;omega);refine .pure _ _ (.isl _ _ _ _ (R.α id).b ((R.α id).o+i*s) len ai (fun k j=>arr.getD ((R.α id).o+i*s+k*s+j) undef) hn ar (.inl rfl) (fun h=>by cases h) (fun k hk=>?_) (fun k j c hk A=>?_) (fun k j c hk A=>?_) (aa ac id _ _ (X3 A) Y rfl _ _))
      ·simp only[ao];exact(h4 (i+k) (by omega)).1
      ·simp only[ao]at A;have bg:j<s:=by rw[<-(h4 (i+k) (by omega)).1];exact(aE.1 A).1
       have:(k+1)*s<=len*s:=aL _ hk;rw[bI]at this;rw[hw];exact ZY J (by omega)
      simp only[ao]at A;have:=ae ((h4 (i+k) (by omega)).2 j c A);rw[dH]at this;rw[show(R.α id).o+i*s+k*s+j=(R.α id).o+(i*s+k*s)+j from by omega];exact this
     exact .undef _
    exact .undef _
   exact .undef _
  |gsl id m a l c ah hn Z hl=>
   simp only[Qs];split
   ·rename_i j A;obtain⟨J,_,I,S⟩:=lt A;exact .gsl j m a l c J (by rw[I];exact hn) (by rw[I,S];exact Z) hl
   rename_i A;split
   ·rename_i ac;split
    ·rename_i s m' f Y;refine .gd _ _ _ fun U=>?_;have U:=of_decide_eq_true U;obtain⟨e1,J⟩:=H.blk id _ Y;have hv:(Value.slice a l c)=R.hv id:=Z (by rw[U,e1]);rw[hv];rcases J with⟨J,a0,I⟩|⟨b,o,len,ai,arr,ty,J,I,S,h4,h5,h6⟩
     ·rw[I];cases a0 with
      |none=>exact .pure _ _ (.isl0 _ _ _ _ J rfl)
      |some a0=>exact .pure _ _ (.islE _ _ _ _ a0 J (.inl rfl))
     rw[S];rcases Nat.eq_zero_or_pos ai with V|V
     ·rw[V,show len=0 by omega];exact .pure _ _ (.islE _ _ _ _ ⟨b,o,none⟩ (by omega) (.inl rfl))
     have am:len*s<=ai*s:=aL _ I;refine .pure _ _ (.isl _ _ _ _ b o len ai (fun k j=>arr.getD (o+k*s+j) undef) J I (.inl rfl) (fun h=>by cases h) (fun k hk=>(h6 k hk).1) (fun k j c hk A=>?_) (fun k j c hk A=>ae ((h6 k hk).2 j c A)) (aa ac id _ _ (X3 A) Y ⟨_,_,_,S,V,rfl⟩ _ _));have bg:j<s:=by rw[<-(h6 k hk).1];exact(aE.1 A).1
     have:(k+1)*s<=len*s:=aL _ hk;rw[bI]at this;rw[hw];exact ZY h4 (by omega)
    ·rename_i s m' f Y;refine .gd _ _ _ fun U=>?_;have U:=of_decide_eq_true U;obtain⟨e1,J⟩:=H.blk id _ Y;have hv:(Value.slice a l c)=R.hv id:=Z (by rw[U,e1]);rw[hv];exact .pure _ _ (ae J)
    ·rename_i s m' f Y;refine .gd _ _ _ fun U=>?_;simp only[aT]at U;obtain⟨U,al⟩:=U;have U:=of_decide_eq_true U;have al:=of_decide_eq_true al;obtain⟨e1,J⟩:=H.blk id _ Y;have hv:(Value.slice a l c)=R.hv id:=Z (by rw[U,e1]);rw[hv];have I:JQ (PR R'.w R'.ok) R.w s m' (fun e=>(f e).map fun c=>purify (Qs fz ι h k c)) (R.hv id):=J.cong rfl (fun i _=>by simp) fun i hi j c A=>by
      rw[aO,aG]at A;obtain⟨c0,V,rfl⟩:=A;refine⟨c0,V,fun u hu=>(ih hu).purify ?_⟩;have:=al i (by omega);rw[bL]at this;exact this _ (bE.2 ⟨c0,aZ V,rfl⟩)
     rw[<-hw]at I;refine .pure _ _ (I.isl fun b hp o n=>aa ac id _ _ (X3 A) Y ?_ _ _);exact hp
    exact .undef _
   exact .undef _
  |nsub id e l a ll c us i ah aj Z hu hl=>
   simp only[Qs];split
   ·rename_i j A;obtain⟨J,_,I,S⟩:=lt A;exact .nsub j e l a ll c us i J (S.trans aj) Z hu hl
   rename_i A;split
   ·rename_i ac;split
    ·rename_i z s n m g Y;obtain⟨_,_,bm,aq,_,ha,_⟩:=H.blk id _ Y;rw[aj]at aq;cases aq;have J:=ha i _ hu;have bk:e=fun _=>(i:Int):=funext fun _=>Z;subst bk;have I:JQ (PR R'.w R'.ok) R.w s l (g fun _=>(i:Int)) (.slice a ll c):=J.cong (hl.1.trans J.len.1.symm) (fun _ _=>rfl) fun i' _ j c A=>⟨c,A,fun u hu=>ae hu⟩;rw[<-hw]at I;exact .pure _ _ (I.isl fun b hp o n=>aa ac id _ _ (X3 A) Y ⟨us,aj,i,_,hu,hp⟩ _ _)
    exact .undef _
   exact .undef _
  |nptr id s e q ab us i b o l c j ah aj Z hu hk=>
   simp only[Qs];split
   ·rename_i j' A;obtain⟨J,_,I,S⟩:=lt A;exact .nptr j' s e q ab us i b o l c j J (S.trans aj) Z hu hk
   exact .undef _
  |lit s cs b o us hs J I S=>
   simp only[Qs];refine .lit s _ b o us (by rw[bA];exact hs) (fun j c A=>?_) (fun j c A=>?_) (aw _ _ _ S)
   ·rw[aO,aG]at A;obtain⟨c0,V,rfl⟩:=A;rw[hw];exact J j c0 V
   rw[aO,aG]at A;obtain⟨c0,V,rfl⟩:=A;exact ih (I j c0 V)
  |map id ah=>
   simp only[Qs];split
   ·rename_i j A;obtain⟨J,I,_,_⟩:=lt A;rw[<-I];exact .map j J
   rename_i A;split
   ·rename_i ac;split
    ·rename_i ka n L Y;obtain⟨o,ho,_,es,ak,rfl,U⟩:=H.blk id _ Y;exact .pure _ _ (.imap ka n L (R.α id).b es ak (by rw[hw];exact ho) U (aa ac id _ _ (X3 A) Y rfl _ _))
    exact .undef _
   exact .undef _
  |mit id ah h0=>
   simp only[Qs];split
   ·rename_i j A;obtain⟨J,I,_,_⟩:=lt A;rw[<-I];exact .mit j J (by rw[I];exact h0)
   exact .undef _
  |yld id ah=>
   simp only[Qs];split
   ·rename_i j A;obtain⟨J,I,_,_⟩:=lt A;rw[<-I];exact .yld j J
   exact .undef _
  |fn f xs bs us vs ha Y J I=>
   refine .fn f _ _ us vs (by simpa using ha) (by simpa using Y) (fun j c A=>?_) (fun j c A=>?_)
   ·rw[aO,aG]at A;obtain⟨x,hx,rfl⟩:=A;exact ih (J j x hx)
   rw[aO,aG]at A;obtain⟨x,hx,rfl⟩:=A;exact ih (I j x hx)
  |agg cs us ha h=>
   refine .agg _ us (by simpa using ha) (fun j c A=>?_);rw[aO,aG]at A;obtain⟨x,hx,rfl⟩:=A;exact ih (h j x hx)
  |tup cs us ha h=>
   refine .tup _ us (by simpa using ha) (fun j c A=>?_);rw[aO,aG]at A;obtain⟨x,hx,rfl⟩:=A;exact ih (h j x hx)
  |gd g a _ h=>exact .gd g _ _ fun U=>ih (h U)
  |ob g b _ J I=>exact .ob g b _ J I
theorem HR.sel {G:Nat->Nat->Nat->Prop} (H:HR G R h) (G':Nat->Nat->Nat->Prop) (hG:∀b o n,R.ok b o n->G' b o n) (a9:∀b o n o' n',G' b o n->o<=o'->o'+n'<=o+n->G' b o' n') (bl:∀b o n,R.w.heap.size<=b->G' b o n)
  (bg:∀i blk b,i∈ι->h[i]? =some blk->Zar blk=true->Zz R i blk b->∀o n,G' b o n) (bk:ι.Nodup) (az:∀i∈ι,i<h.length)
  (aq:fz=true->∀id blk b,id∉ι->h[id]? =some blk->Zz R id blk b->∀o n,G' b o n) (ah:Nat) (ar:ah<=ι.length) (bh:fz=true->ah<=R.n0):
  ∃J,J.cx=R.cx/\J.n0=ah/\J.w=R.w/\J.m=ι.length/\(∀j i,ι[j]? =some i->J.α j=R.α i)/\(∀j i,ι[j]? =some i->J.hw j=R.hw i)/\(∀j i,ι[j]? =some i->J.hv j=R.hv i)/\HR G' J (sel fz ι h)/\(∀b o n,R.ok b o n->J.ok b o n)/\
   ∀k a v,VR R a v->VR J (Qs fz ι h k a) v:=by
 let J:=Zla R.cx G' ah R.w ι.length (fun j=>R.α (ι.getD j 0)) (fun j=>R.hw (ι.getD j 0)) (fun j=>R.hv (ι.getD j 0)) (Vm.sel fz ι h);have Z:∀j i,ι[j]? =some i->J.α j=R.α i:=fun j i hj=>by show R.α (ι.getD j 0)=_;rw[aA,hj];rfl
 have am:∀j i,ι[j]? =some i->J.hw j=R.hw i:=fun j i hj=>by show R.hw (ι.getD j 0)=_;rw[aA,hj];rfl
 have aa:∀j i,ι[j]? =some i->J.hv j=R.hv i:=fun j i hj=>by show R.hv (ι.getD j 0)=_;rw[aA,hj];rfl
 have Y:∀ {j x},(Vm.sel fz ι h)[j]? =some x->∃i b,ι[j]? =some i/\h[i]? =some b/\x=ZQ fz ι h b:=fun hx=>Zcv az hx;have aj:∀b o n,R.ok b o n->J.ok b o n:=fun b o n k=>by
  obtain⟨I,A,h3⟩:=(H.okd _ _ _).1 k;refine⟨I,hG _ _ _ k,fun j x hx=>?_⟩;obtain⟨i,y,S,hy,rfl⟩:=Y hx;exact(ZgZ (Z j i S) (aa j i S)).2 (h3 i y hy)
 have al:fz=true->∀id blk b,id∉ι->h[id]? =some blk->Zz R id blk b->∀o n,J.ok b o n:=fun bo id blk b au U hp o n=>by
  refine⟨H.phys_lt U hp,aq bo id blk b au U hp o n,fun j x hx=>?_⟩;obtain⟨i,y,S,hy,rfl⟩:=Y hx;refine(ZgZ (Z j i S) (aa j i S)).2 ?_;have bm:i≠id:=fun e=>au (e▸aZ S);have aw:∀ {b'},Zz R i y b'->b'≠b:=fun ab e=>H.dis i id y blk b bm hy U (e▸ab) hp;cases y with
  |tok s1 bp=>exact fun a len ap hv hl ba=>absurd ba (aw ⟨a,len,ap,hv,hl,rfl⟩)
  |_=>exact fun ab=>aw ab rfl
 have ac:∀k a v,VR R a v->VR J (Qs fz ι h k a) v:=fun k a v hv=>Zr8 (R':=J) H rfl rfl Z am aa aj al k hv;have ai:∀ {a:AV} {v:Value},PR R.w R.ok a v->PR J.w J.ok a v:=fun h=>h.mono aj (fun _ _ _ _ _ _=>rfl) fun _ _ _ _ h=>h;refine⟨J,rfl,rfl,rfl,rfl,Z,am,aa,⟨Zbd,fun _ _ _=>Iff.rfl,fun j x hx=>?_,fun i j bi bj b bc S hj hp ab=>?_,a9,bl,fun j x b hx V hp o n=>?_,ar⟩,aj,ac⟩
 ·obtain⟨i,y,S,hy,rfl⟩:=Y hx;have U:=H.blk i y hy;have e1:=Z j i S;have e2:=am j i S;have e3:=aa j i S;cases y with
  |cells cs=>
   obtain⟨arr,ty,I,A,h3⟩:=U;refine⟨arr,ty,by rw[e1];exact I,by rw[bA,e1];exact A,fun k c V=>?_⟩;rw[aO,aG]at V;obtain⟨c0,ae,rfl⟩:=V;rw[e1];exact ac 5 _ _ (h3 k c0 ae)
  |arr s m f=>
   obtain⟨arr,ty,len,I,A,h3,h4⟩:=U;exact⟨arr,ty,len,by rw[e1];exact I,A,by rw[e1];exact h3,fun k V=>⟨(h4 k V).1,fun q c hq=>by rw[e1];exact ai ((h4 k V).2 q c hq)⟩⟩
  |tok s hw=>
   obtain⟨I,A⟩:=U;exact⟨e2.trans I,by rw[e3];exact A⟩
  |gar s m f=>
   obtain⟨I,A⟩:=U;refine⟨e2.trans I,?_⟩;rw[e3];rcases A with A|⟨b,o,len,ap,arr,ty,g1,g2,g3,g4,g5,g6⟩
   ·exact .inl A
   exact .inr ⟨b,o,len,ap,arr,ty,g1,g2,g3,g4,g5,fun k V=>⟨(g6 k V).1,fun q c hq=>ai ((g6 k V).2 q c hq)⟩⟩
  |vgar s m f=>
   obtain⟨I,A⟩:=U;refine⟨e2.trans I,?_⟩;rw[e3];exact A.cong rfl (fun i _=>by simp) fun i _ j c hj=>by
    rw[aO,aG]at hj;obtain⟨c0,ae,rfl⟩:=hj;exact⟨c0,ae,fun u hu=>ac 5 _ _ hu⟩
  |fam z s n m g=>
   obtain⟨hz,I,us,hv,A,h3,h4⟩:=U;refine⟨?_,e2.trans I,us,e3.trans hv,A,fun i v hu=>(h3 i v hu).mono (fun _ _ h=>ai h) fun _ _=>rfl,h4⟩;show ah<=ZvE fz z ι.length;cases fz with
   |true=>exact cF (bh rfl) hz
   |false=>exact ar
  |fro s m f=>
   obtain⟨I,A⟩:=U;exact⟨e2.trans I,by rw[e3];exact ai A⟩
  |mapB m=>
   obtain⟨es,c,I,A⟩:=U;exact⟨es,c,by rw[e1];exact I,A⟩
  |gob g=>
   obtain⟨o,I,A,h3⟩:=U;exact⟨o,by rw[e1];exact I,A,by rw[e1];exact h3.tr rfl aj rfl⟩
  |main=>exact U
  |loop s d=>
   obtain⟨l,I,A,h3,h4,h5,h6,h7,h8⟩:=U;refine⟨l,by rw[e1];exact I,A,h3,h4,h5,h6,by rw[bA];exact h7,fun k c V=>?_⟩;rw[aO,aG]at V;obtain⟨c0,ae,rfl⟩:=V;exact ac 5 _ _ (h8 k c0 ae)
  |dead=>trivial
 ·obtain⟨i',y,ak,hy,rfl⟩:=Y S;obtain⟨j',z,ao,hz,rfl⟩:=Y hj;have hp:=(ZaN (Z _ _ ak) (aa _ _ ak)).1 hp;have ab:=(ZaN (Z _ _ ao) (aa _ _ ao)).1 ab;refine H.dis i' j' y z b (fun e=>bc ?_) hy hz hp ab;subst e;have I:=aE.1 ak;have A:=aE.1 ao;exact(List.getElem_inj (h₀:=I.1) (h₁:=A.1) bk).1 (by rw[I.2,A.2])
 obtain⟨i,y,S,hy,rfl⟩:=Y hx;rw[ZoK]at V;exact bg i y b (aZ S) hy V ((ZaN (Z _ _ S) (aa _ _ S)).1 hp) o n
end
end Vm
namespace Vm
open Go Conc1
def Zir (T:Tb) (s:List AV) (h:List Zh):List ResultVar->Option (List AV×Cd)
 |[]=>some ([],[])
 |.tmp t::r=>(match Zir T s h r with
  |some (vs,c)=>some (strip (ev s (.tmp t))::vs,Zas (ev s (.tmp t))++c)
  |none=>none)
 |.cell a ty::r=>(match ev s (.tmp a),T.ti ty,Zir T s h r with
  |.ptr id off,some I,some (vs,c)=>(match ZhJ I h (.ptr id off)with
   |some (v,c')=>some (v::vs,c'++c)
   |none=>none)
  |_,_,_=>none)
def ZoI:List AV->AV
 |[v]=>v
 |vs=>.tup vs
def Zj (fn:Func):Code:=match fn.body with
 |some c=>c
 |none=>.skip
def memN (a:Nat):List Nat->Bool
 |[]=>false
 |b::l=>if ZD a b then true else memN a l
theorem ZjN {a:Nat}:∀ {l:List Nat},memN a l=false->a∉l
 |[],_=>by simp
 |b::l,h=>by
  unfold memN at h;split at h
  ·cases h
  rename_i A;intro hm;rcases bG.1 hm with rfl|hm
  ·exact A (by simp[ZD])
  exact ZjN h hm
def Zh2 (n m id:Nat) (t:List Nat):List Nat:=if Z7 n id&&ltN id m then(if memN id t then t else id::t)else t
def Zgb (n m:Nat):List AV->List Nat
 |[]=>[]
 |.isl _ _ _ (.own id)::r=>Zh2 n m id (Zgb n m r)
 |_::r=>Zgb n m r
def Zip (n m:Nat):List AV->List Nat
 |.agg cs::_=>Zgb n m cs
 |.isl _ _ _ (.own id)::_=>Zh2 n m id []
 |.gsl id _::_|.msl id _ _ _ _::_|.ptr id _::_=>if Z7 n id&&ltN id m then [id]else []
 |_=>[]
def Zdy (n m:Nat):List Nat->List Nat
 |[]=>[]
 |i::r=>Zh2 n m i (Zdy n m r)
def Zf2 (ks:Option (List Nat)) (kp:Bool) (n m:Nat) (vs:List AV):List Nat:=aR n++(match ks with
 |some l=>Zdy n m l
 |none=>if kp then Zip n m vs else [])
def Zwr (c:Cd) (A:AV->List Zh->Prop) (r:AV) (h:List Zh):Prop:=chk (c++Zas r) (A (strip r) h)
def Zfj (T:Tb) (rs:List ResultVar) (n:Nat) (A:AV->List Zh->Prop) (e:Ex) (s:List AV) (h:List Zh) (c:Cd):Prop:=match e with
 |.exit _=>False
 |_=>(match Zir T s h rs with
  |some (vs,c')=>Zwr (c++c') A (Qs true (Zf2 T.ks T.kp n h.length vs) h 5 (ZoI vs)) (sel true (Zf2 T.ks T.kp n h.length vs) h)
  |none=>False)
def entry (n:Nat) (xs:List AV):List AV:=xs++List.replicate (n-xs.length) .undef
section
variable {P:Program}
structure YT (n m:Nat) (ι:List Nat):Prop where
 ex:∃l,ι=aR n++l/\l.Nodup/\∀i∈l,n<=i/\i<m
theorem YT.nodup {n m:Nat} {ι:List Nat} (h:YT n m ι):ι.Nodup:=by
 obtain⟨l,rfl,I,A⟩:=h.ex;exact List.nodup_append.2 ⟨List.nodup_range,I,fun a H b G=>by have:=bW.1 H;have:=(A b G).1;omega⟩
theorem YT.lt {n m:Nat} {ι:List Nat} (h:YT n m ι) (H:n<=m):∀i∈ι,i<m:=by
 obtain⟨l,rfl,I,G⟩:=h.ex;intro i A;rcases List.mem_append.1 A with A|A
 ·have:=bW.1 A;omega
 exact(G i A).2
theorem YT.low {n m:Nat} {ι:List Nat} (h:YT n m ι) {j:Nat} (A:j<n):ι[j]? =some j:=by
 obtain⟨l,rfl,H,G⟩:=h.ex;rw[List.getElem?_append_left (by simpa using A)];simp[A]
theorem YT.high {n m:Nat} {ι:List Nat} (h:YT n m ι) {j i:Nat} (A:ι[j]? =some i) (hi:i<n):j=i:=by
 obtain⟨l,rfl,I,H⟩:=h.ex;rw[dX]at A;split at A
 ·rename_i G;rw[List.getElem?_range (by simpa using G)]at A;exact Option.some.inj A
 have:=(H i (aZ A)).1;omega
theorem YT.mem {n m:Nat} {ι:List Nat} (h:YT n m ι) {i:Nat} (hi:i∉ι):n<=i:=by
 obtain⟨l,rfl,G,A⟩:=h.ex;by_cases hlt:i<n
 ·exact absurd (List.mem_append_left _ (bW.2 hlt)) hi
 omega
theorem YT.len {n m:Nat} {ι:List Nat} (h:YT n m ι):n<=ι.length:=by
 obtain⟨l,rfl,G,A⟩:=h.ex;simp
theorem ZdT {n m id:Nat} {t:List Nat} (h:t.Nodup/\∀i∈t,n<=i/\i<m):(Zh2 n m id t).Nodup/\∀i∈Zh2 n m id t,n<=i/\i<m:=by
 unfold Zh2;split
 ·rename_i G;simp only[aT]at G;split
  ·exact h
  rename_i hm;refine⟨ee.2 ⟨ZjN (by simpa using hm),h.1⟩,fun i A=>?_⟩;rcases bG.1 A with rfl|A
  ·exact⟨QT G.1,Zaw G.2⟩
  exact h.2 i A
 exact h
theorem Zga (n m:Nat):∀l,(Zgb n m l).Nodup/\∀i∈Zgb n m l,n<=i/\i<m
 |[]=>by simp[Zgb]
 |a::r=>by
  have G:=Zga n m r;unfold Zgb;split
  ·simp
  ·rename_i A;cases A;exact ZdT G
  rename_i A;cases A;exact G
theorem Zc8 (n m:Nat):∀l,(Zdy n m l).Nodup/\∀i∈Zdy n m l,n<=i/\i<m
 |[]=>by simp[Zdy]
 |a::r=>ZdT (Zc8 n m r)
theorem ZnF (ks:Option (List Nat)) (kp:Bool) (n m:Nat) (vs:List AV):YT n m (Zf2 ks kp n m vs):=by
 cases ks with
 |some l=>exact⟨_,rfl,(Zc8 n m l).1,(Zc8 n m l).2⟩
 |none=>
 show YT n m (aR n++if kp then Zip n m vs else []);refine⟨_,rfl,?_,?_⟩
 ·split
  ·unfold Zip;split<;>(try exact(Zga n m _).1)<;>(try exact(ZdT ⟨ez,fun i A=>by cases A⟩).1)<;>(try split)<;>simp
  simp
 split
 ·unfold Zip;split<;>(try exact(Zga n m _).2)<;>(try exact(ZdT ⟨ez,fun i A=>by cases A⟩).2)<;>(try split)<;>(try (intro i A;simp at A;done));all_goals
   rename_i G;simp only[aT]at G;intro i A;simp only[List.mem_singleton]at A;subst A;exact⟨QT G.1,Zaw G.2⟩
 simp
theorem Zaj {n m:Nat} (N:Nat) (H:n<=N) (G:N<=m):YT n m (aR N):=by
 refine⟨List.range' n (N-n),?_,List.nodup_range',fun i A=>?_⟩
 ·rw[eU,eU,show N=n+(N-n)from by omega,<-List.range'_append_1];simp
 have:=List.mem_range'_1.1 A;omega
theorem Xd.sel {A R R':RC} {h₁ h:List Zh} {ι:List Nat} (S:Xd A h₁ R h) (G:A.le R) (aa:h₁.length=A.m) (J:YT h₁.length h.length ι) (hm:h₁.length<=h.length) (al:R'.cx=R.cx) (hw:R'.w=R.w) (aj:R'.m=ι.length) (ae:R'.n0=A.n0)
  (Y:∀j i,ι[j]? =some i->R'.α j=R.α i) (ac:∀j i,ι[j]? =some i->R'.hw j=R.hw i) (U:∀j i,ι[j]? =some i->R'.hv j=R.hv i) (ak:∀b o n,R.ok b o n->R'.ok b o n):Xd A h₁ R' (sel true ι h)/\A.le R':=by
 have H:A.le R':=by
  refine⟨by rw[aj,<-aa];exact J.len,fun id I=>?_,fun id I=>?_,fun id I=>by rw[U id id (J.low (by omega))];exact G.fm id I,fun b o n k=>ak _ _ _ (G.ok _ _ _ k),fun b o n k j hj=>by rw[hw];exact G.keep b o n k j hj,fun b k es ah e=>by rw[hw];exact G.keepM b k es ah e,al.trans G.cx⟩
  ·rw[Y id id (J.low (by omega))];exact G.α id I
  rw[ac id id (J.low (by omega)),U id id (J.low (by omega))];exact G.tk id I
 refine⟨⟨ae,by rw[hw];exact S.os,by rw[hw];exact S.tape,by rw[hw];exact S.output,by rw[hw];exact S.size,H.m,H.α,H.ok,H.keep,fun b hb hn=>by rw[hw];exact S.frame b hb hn,fun j blk b hj hp=>?_⟩,H⟩;obtain⟨i,y,I,hy,rfl⟩:=Zcv (J.lt hm) hj;have hp:=(ZaN (Y j i I) (U j i I)).1 hp;rcases S.own i y b hy hp with V|⟨Z,ab,V,h2,h3⟩
 ·exact .inl V
 have ai:=(aE.1 V).1;refine .inr ⟨Z,ab,V,h2,?_⟩;rcases h3 with rfl|h3
 ·have:=J.high I ai;exact .inl this.symm
 exact .inr h3
theorem Inv.leave {G:Nat->Nat->Nat->Prop} {R₀ R:RC} {h₀ h:List Zh} {ι:List Nat} (A:HR G R₀ h₀) (H:Inv R₀ h₀ R h) (I:YT h₀.length h.length ι):
  ∃J,J.w=R.w/\HR G J (sel true ι h)/\Xd R₀ h₀ J (sel true ι h)/\R₀.le J/\∀k a v,VR R a v->VR J (Qs true ι h k a) v:=by
 have U:h₀.length<=h.length:=by rw[A.len,H.hr.len];exact H.le.m
 have hG:∀b o n,Gof R₀ h₀ b o n->G b o n:=fun b o n k=>by
  rcases k with k|k|⟨id,blk,V,I,S⟩
  ·exact((A.okd _ _ _).1 k).2.1
  ·exact A.fresh _ _ _ k
  exact A.tokG id blk b V I S o n
 obtain⟨J,aa,a0,a1,a2,a3,a4,a5,a6,a7,a8⟩:=H.hr.sel (fz:=true) (ι:=ι) G (fun b o n k=>hG _ _ _ ((H.hr.okd _ _ _).1 k).2.1) A.cl (fun b o n Y=>A.fresh b o n (cF H.ext.size Y)) (fun i blk b _ V I S o n=>hG _ _ _ (H.hr.tokG i blk b V I S o n)) I.nodup (I.lt U)
  (fun _ id blk b ab Y S o n=>A.fresh b o n (by
   rcases H.ext.own id blk b Y S with Z|⟨ac,y,Z,_,h3⟩
   ·exact Z
   have:=(aE.1 Z).1;have:=I.mem ab;have:=H.st
   omega)) R₀.n0 (by have:=A.n0m;have:=I.len;have:=A.len;omega) (fun _=>by rw[H.ext.n0];exact aJ _)
 obtain⟨b1,b2⟩:=H.ext.sel H.le A.len I U aa a1 a2 a0 a3 a4 a5 a7;exact⟨J,a1,a6,b1,b2,a8⟩
theorem Inv.trim {R₀ A R:RC} {h₀ h₁ h:List Zh} (H:Inv R₀ h₀ R h) (Z:Xd A h₁ R h) (U:A.le R) (I:h₁.length=A.m) (ac:h₀.length<=h₁.length) (H1:A.n0<=h₁.length):
  ∃G,G.w=R.w/\Inv R₀ h₀ G (sel true (aR h₁.length) h)/\Xd A h₁ G (sel true (aR h₁.length) h)/\A.le G/\∀k a v,VR R a v->VR G (Qs true (aR h₁.length) h k a) v:=by
 have J:h₁.length<=h.length:=by rw[I,H.hr.len];exact U.m
 have S:YT h₀.length h.length (aR h₁.length):=Zaj _ ac J;have aa:YT h₁.length h.length (aR h₁.length):=Zaj _ (aJ _) J;obtain⟨G,V,a0,Y,a2,a3,a4,a5,a6,a7,a8⟩:=H.hr.sel (fz:=true) (ι:=aR h₁.length) (Gof R₀ h₀) (fun b o n k=>((H.hr.okd _ _ _).1 k).2.1) H.hr.cl H.hr.fresh (fun i blk b _=>H.hr.tokG i blk b) S.nodup (S.lt (by omega))
  (fun _ id blk b ab hb hp o n=>.inr (.inl (by
   rcases H.ext.own id blk b hb hp with h1|⟨ae,y,h1,_,h3⟩
   ·exact h1
   have:=(aE.1 h1).1;have:=S.mem ab;have:=H.st
   omega))) R.n0 (by rw[cO];have:=Z.n0;have:=H1;omega) (fun _=>aJ _)
 obtain⟨b1,b2⟩:=Z.sel U I aa J V Y a2 (a0.trans Z.n0) a3 a4 a5 a7;obtain⟨c1,c2⟩:=H.ext.sel H.le H.len S (by omega) V Y a2 (a0.trans H.ext.n0) a3 a4 a5 a7;exact⟨G,Y,⟨a6,c1,c2,H.len,H.st⟩,b1,b2,a8⟩
theorem Inv.trimN {R₀ R:RC} {h₀ h:List Zh} (H:Inv R₀ h₀ R h) (n:Nat) (I:R₀.n0<=n) (hn:n<=h.length):
  ∃A,A.w=R.w/\Inv R₀ h₀ A (sel true (aR n) h)/\∀k a v,VR R a v->VR A (Qs true (aR n) h k a) v:=by
 have Y:h₀.length<=n:=cF H.st I;have G:YT h₀.length h.length (aR n):=Zaj _ Y hn;obtain⟨A,U,a0,S,a2,a3,Z,a5,a6,a7,a8⟩:=H.hr.sel (fz:=true) (ι:=aR n) (Gof R₀ h₀) (fun b o n k=>((H.hr.okd _ _ _).1 k).2.1) H.hr.cl H.hr.fresh (fun i blk b _=>H.hr.tokG i blk b) G.nodup (G.lt (by omega))
  (fun _ id blk b V hb hp o n=>.inr (.inl (by
   rcases H.ext.own id blk b hb hp with J|⟨aa,y,J,_,h3⟩
   ·exact J
   have:=(aE.1 J).1;have:=G.mem V;have:=H.st
   omega))) R.n0 (by rw[cO,H.ext.n0];exact I) (fun _=>aJ _)
 obtain⟨c1,c2⟩:=H.ext.sel H.le H.len G (by omega) U S a2 (a0.trans H.ext.n0) a3 Z a5 a7;exact⟨A,S,⟨a6,c1,c2,H.len,H.st⟩,a8⟩
theorem Ziq {T:Tb} (Y:T.Of P) {G:Nat->Nat->Nat->Prop} {R:RC} {h:List Zh} (H:HR G R h) {s:List AV} {t:Array Value} (hs:SL R s t):∀ {rs:List ResultVar} {U:List AV} {c:Cd},Zir T s h rs=some (U,c)->ZT c->
  ∃S:List Value,(rs.mapM (m:=Sem) fun
   |.tmp t'=>pure (t.getD t' undef)
   |.cell a ty=>do loadVar ty (<-asAddr (t.getD a undef))).run P R.w= .ok S R.w/\S.length=U.length/\∀j c,U[j]? =some c->VR R c (S.getD j undef)
 |[],U,c,hv,_=>by
  simp only[Zir,aC,aK]at hv;obtain⟨rfl,rfl⟩:=hv;exact⟨[],by simp,rfl,fun j c h=>by simp at h⟩
 |.tmp t'::r,U,c,hv,hc=>by
  simp only[Zir]at hv;split at hv;case h_2=>cases hv
  rename_i ai c' hr;simp only[aC,aK]at hv;obtain⟨rfl,rfl⟩:=hv;obtain⟨V,Z⟩:=Z1 hc;obtain⟨S,h1,h2,h3⟩:=Ziq Y H hs hr Z;refine⟨t.getD t' undef::S,by rw[gb];simp only[aP,bC,aH,h1],by simp[h2],fun j c J=>?_⟩;cases j with
  |zero=>simp at J;subst J;exact(hs.ev (.tmp t')).strip V
  |succ j=>simpa using h3 j c (by simpa using J)
 |.cell a ty::r,U,c,hv,hc=>by
  simp only[Zir]at hv;split at hv;case h_2=>cases hv
  rename_i id aj I ai c' ha hT hr;split at hv;case h_2=>cases hv
  rename_i v c1 hl;simp only[aC,aK]at hv;obtain⟨rfl,rfl⟩:=hv;obtain⟨V,Z⟩:=Z1 hc;obtain⟨S,h1,h2,h3⟩:=Ziq Y H hs hr Z;have A:=hs.ev (.tmp a);rw[ha]at A;obtain⟨x,hx,ae⟩:=ZjU (Y.ti _ _ hT) H A hl V;have ah:∃ad,t.getD a undef= .pointer (some ad):=by
   have:QH t (.tmp a)=t.getD a undef:=rfl;rw[this]at A;generalize t.getD a undef=u at A;cases A with
   |pure _ _ hp=>cases hp
   |ptr _ _ _=>exact⟨_,rfl⟩
  obtain⟨ad,aa⟩:=ah;have ac:(loadVar ty ad).run P R.w= .ok x R.w:=by
   have:QH t (.tmp a)=t.getD a undef:=rfl;rw[this,aa]at hx;simpa [Instr.loadAt,Instr.sureAddr]using hx
  have ab:(asAddr (t.getD a undef)).run P R.w= .ok ad R.w:=by rw[aa];simp[asAddr]
  refine⟨x::S,by rw[gb];simp only[aP,bC,aH,h1,ab,ac],by simp[h2],fun j c J=>?_⟩;cases j with
  |zero=>simp at J;subst J;exact ae
  |succ j=>simpa using h3 j c (by simpa using J)
theorem Zk2 {T:Tb} (Y:T.Of P) {G:Nat->Nat->Nat->Prop} {R:RC} {h:List Zh} (H:HR G R h) {s:List AV} {t:Array Value} (Z:SL R s t) {fn:Func} {vs:List AV} {c:Cd} (hv:Zir T s h fn.results.toList=some (vs,c)) (hc:ZT c):
  ∃v,(results fn t).run P R.w= .ok v R.w/\VR R (ZoI vs) v:=by
 obtain⟨A,h1,I,U⟩:=Ziq Y H Z hv hc
 have V:(fn.results.mapM (m:=Sem) fun
   |.tmp t'=>pure (t.getD t' undef)
   |.cell a ty=>do loadVar ty (<-asAddr (t.getD a undef))).run P R.w= .ok A.toArray R.w:=by
  rw[Array.mapM_eq_mapM_toList,Sem.run_map];simp only[h1];rfl
 refine⟨if h:A.toArray.size=1 then A.toArray[0]else .tuple A.toArray,?_,?_⟩
 ·unfold results;rw[aP];exact Eq.trans (congrArg (fun r=>Result.andThen r (fun a w'=>Sem.run P (pure (if h:a.size=1 then a[0]else Value.tuple a)) w')) V) rfl
 cases vs with
 |nil=>
  have:A=[]:=List.eq_nil_of_length_eq_zero (by simpa using I);subst this;exact .tup [] #[] rfl fun j c J=>by simp at J
 |cons v vs=>
  cases vs with
  |nil=>
   obtain⟨u,rfl⟩:∃u,A=[u]:=List.length_eq_one_iff.1 I;exact U 0 v rfl
  |cons v' vs=>
   have S:¬A.toArray.size=1:=by simp[I]
   rw[dif_neg S];exact .tup _ _ (by simpa using I.symm) fun j c J=>by
    rw[aI,List.getElem?_toArray,<-aA];exact U j c J
theorem Inv.taken {R₀ R:RC} {h₀ h:List Zh} (H:Inv R₀ h₀ R h) {r:Nat} (hr:R₀.w.heap.size<=r) (I:R.w.heap[r]? =some (.deferred (some []))):
  ∃J,J.w={R.w with heap:=R.w.heap.setIfInBounds r (.deferred none)}/\Inv R₀ h₀ J h/\R.le J:=by
 have Z:∀b i,({R.w with heap:=R.w.heap.setIfInBounds r (.deferred none)}:World).cell? ⟨b,i,none⟩=R.w.cell? ⟨b,i,none⟩:=fun b i=>by
  simp only[World.cell?,bR];by_cases e:r=b
  ·subst e;simp[I]
  rw[if_neg e]
 have U:∀b,b≠r->(R.w.heap.setIfInBounds r (.deferred none))[b]? =R.w.heap[b]? :=fun b A=>by
  rw[bR,if_neg (Ne.symm A)]
 have ab:(R.w.heap.setIfInBounds r (.deferred none)).size=R.w.heap.size:=by simp
 have ah:∀id blk b,h[id]? =some blk->Zz R id blk b->b≠r:=fun id blk b hi G e=>by
  subst e;have A:=H.hr.blk id blk hi;cases blk with
  |cells cs=>obtain⟨arr,ty,e,_⟩:=A;rw[show(R.α id).b=b from G,I]at e;cases e
  |arr s n f=>obtain⟨arr,ty,_,e,_⟩:=A;rw[show(R.α id).b=b from G,I]at e;cases e
  |mapB m=>obtain⟨es,c,e,_⟩:=A;rw[show(R.α id).b=b from G,I]at e;cases e
  |gob g=>obtain⟨o,e,h1,_⟩:=A;rw[show(R.α id).b=b from G,I]at e;cases e;cases h1
  |loop s d=>obtain⟨l,e,_⟩:=A;rw[show(R.α id).b=b from G,I]at e;cases e
  |dead=>exact G
  |main=>exact G
  |fro s n f=>exact G
  |gar s n f=>
   obtain⟨a,l,c,S,e2,e3⟩:=G;obtain⟨_,⟨_,a3,V⟩|⟨b',o,len,ai,arr,ty,_,_,V,Y,_⟩⟩:=A
   ·rw[V]at S;cases S;omega
   rw[V]at S;cases S;rw[show b'=b from e3,I]at Y;cases Y
  |vgar s n f=>
   obtain⟨arr,ty,e⟩:=A.2.heap G;rw[I]at e;cases e
  |fam z s n m g=>
   obtain⟨us,hv,i,v,hu,G⟩:=G;obtain⟨_,_,aj,ac,_,ha,_⟩:=A;rw[hv]at ac;cases ac;obtain⟨arr,ty,e⟩:=(ha i v hu).heap G;rw[I]at e;cases e
  |tok s hw=>
   obtain⟨a,n,c,S,e2,e3⟩:=G;obtain⟨_,⟨_,a3,V⟩|⟨b',o,len,ai,_,_,V,Y⟩⟩:=A
   ·rw[V]at S;cases S;omega
   rw[V]at S;cases S;obtain⟨arr,ty,Y,_⟩:=Y e2;rw[show b'=b from e3,I]at Y;cases Y
 let J:RC:={R with w:={R.w with heap:=R.w.heap.setIfInBounds r (.deferred none)}};have aa:R.le J:=⟨aJ _,fun _ _=>rfl,fun _ _=>⟨Int.le_refl _,fun _=>rfl⟩,fun _ _=>.refl _,fun _ _ _ h=>h,fun _ _ _ _ _ _=>Z _ _,(fun b _ es ak e=>(U b fun A=>by subst A;rw[I]at e;cases e).trans e),rfl⟩;have hH:HR (Gof R₀ h₀) J h:=⟨H.hr.len,fun b o n=>by rw[show J.w.heap.size=R.w.heap.size from ab];exact H.hr.okd b o n,fun id blk hi=>(H.hr.blk id blk hi).mono aa rfl rfl rfl rfl (fun b G=>U b (ah id blk b hi G)),H.hr.dis,H.hr.cl,fun b o n A=>H.hr.fresh b o n (by rw[show J.w.heap.size=R.w.heap.size from ab]at A;exact A),H.hr.tokG,H.hr.n0m⟩;have ae:Xd R₀ h₀ J h:=by
  refine⟨H.ext.n0,H.ext.os,H.ext.tape,H.ext.output,by rw[show J.w.heap.size=R.w.heap.size from ab];exact H.ext.size,H.ext.m,H.ext.α,H.ext.ok,fun b o n k j hj=>(Z _ _).trans (H.ext.keep b o n k j hj),fun b A hn=>?_,H.ext.own⟩;exact(U b (by omega)).trans (H.ext.frame b A hn)
 exact⟨J,rfl,⟨hH,ae,H.le.trans aa,H.len,H.st⟩,aa⟩
theorem Zc4 {R₀:RC} {h₀ h:List Zh} {b:FB} {base:List Deferred} {t:Array Value} {todo:List Item} {cs:List Frame}:∀(rs:List Nat) (R:RC),rs.Nodup->Inv R₀ h₀ R h->(∀r∈rs,R₀.w.heap.size<=r/\R.w.heap[r]? =some (.deferred (some [])))->
  ∃A,Inv R₀ h₀ A h/\R.le A/\Steps P R.cx (ZH {mkF b t ((rs.map fun r=>{target:=.collected r,args:= #[]})++base) todo with mode:=.returning} cs R.w) (ZH {mkF b t base todo with mode:=.returning} cs A.w)
 |[],R,_,hi,_=>⟨R,hi,RC.le.refl _,.refl _⟩
 |r::rs,R,hn,hi,hd=>by
  rw[ee]at hn;obtain⟨h1,J⟩:=hd r (aU ..);obtain⟨A,hw,aa,G⟩:=hi.taken h1 J;obtain⟨Z,S,H,U⟩:=Zc4 (b:=b) (base:=base) (t:=t) (todo:=todo) (cs:=cs) rs A hn.2 aa fun x Y=>by
   obtain⟨h3,h4⟩:=hd x (aQ _ Y);refine⟨h3,?_⟩;rw[hw];show(R.w.heap.setIfInBounds r _)[x]? =_;have V:¬r=x:=fun e=>hn.1 (e▸Y);rw[bR,if_neg V];exact h4
  refine⟨Z,S,G.trans H,.head ?_ (Ys G U)⟩;rw[hw];have I:(Instr.takeDeferred r).run P R.w= .ok [] {R.w with heap:=R.w.heap.setIfInBounds r (.deferred none)}:=by
   simp only[Instr.takeDeferred,aP];have:(getObj r).run P R.w= .ok (.deferred (some [])) R.w:=by simp[getObj,Sem.run,J]
   simp only[this,aH,aP];have:(setObj r (.deferred none)).run P R.w= .ok () {R.w with heap:=R.w.heap.setIfInBounds r (.deferred none)}:=by
    simp only[setObj,Sem.run];rw[J]
   simp only[this,aH,bC]
  exact ZpL (calls:=[]) I
end
section
variable {T:Tb} {p:Unit->Program}
def zOk (h:List Zh):Bool:=h.all fun|.fam z .. =>Z7 h.length z|_=>true
theorem SC.ofN {p:Unit->Program} {f:FuncId} {xs:List AV} {h:List Zh} {U:AV->List Zh->Prop} (he:∃fn c,(p ()).funcs[f]? =some fn/\fn.body=some c/\(fn.name== "runtime.NumGoroutine")=false) (hz:zOk h=true)
  (H:∀(G:Nat->Nat->Nat->Prop) (R:RC) (Z:Array Value),HR G R h->R.n0=h.length->X0 R xs Z->
   ∀(cs:List Frame),∃v A r V,Zia (p ()) R.cx f Z cs R.w v A.w/\HR G A V/\Xd R h A V/\R.le A/\VR A r v/\U r V):SC p f xs h U:=
 ⟨he,fun G R Z hr ha cs=>by
  have ac:∀(id z s:Nat) (N:Unit->Int) (m:(Unit->Int)->Unit->Int) (g:(Unit->Int)->(Unit->Int)->List AV),h[id]? =some (Zh.fam z s N m g)->h.length<=z:=fun id z s N m g Y=>by
   simp only[zOk,bL]at hz;exact QT (hz _ (aZ Y))
  have ab:=hr.setN0 h.length (by rw[hr.len];exact aJ _) ac;obtain⟨v,A,r,V,b1,b3,I,J,b6,b7⟩:=H G _ Z ab rfl ⟨ha.1,fun j c hj=>(ha.2 j c hj).mono (.setN0 R _)⟩ cs;have e0:A.n0=h.length:=I.n0;have aa:R.n0<=h.length:=by rw[hr.len];exact hr.n0m
  refine⟨v,{A with n0:=R.n0},r,V,b1,b3.setN0 R.n0 (cF aa (e0▸b3.n0m)) (fun id z s N m g Y=>cF aa (e0▸(b3.blk id _ Y).1)),⟨rfl,I.os,I.tape,I.output,I.size,I.m,I.α,I.ok,I.keep,I.frame,fun id x b Y hp=>?_⟩,⟨J.m,J.α,J.tk,J.fm,J.ok,J.keep,J.keepM,J.cx⟩,b6.mono (.setN0 A _),b7⟩;rcases I.own id x b Y ((Zz.congr (R:=A) (R':={A with n0:=R.n0}) rfl rfl).1 hp)with h1|⟨i,y,h1,h2,S⟩
  ·exact .inl h1
  refine .inr ⟨i,y,h1,h2,.inl ?_⟩;have:=(aE.1 h1).1;rcases S with S|S
  ·exact S
  have S:h.length<=i:=S
  omega⟩
theorem SC.of (hT:T.Of (p ())) (hm:(p ()).follows .mixedOrders=true) {f:FuncId} {fn:Func} {body:Code} (Z:(p ()).funcs[f]? =some fn) (hb:fn.body=some body) (hn:(fn.name== "runtime.NumGoroutine")=false) {xs:List AV} {h:List Zh} {U:AV->List Zh->Prop} (hz:zOk h=true)
  {n:Nat} (hW:W T p (Zfj T fn.results.toList h.length U) n [.code body] (entry fn.ntmps xs) h []) (bo:T.fl=true->h.length<=T.nb):SC p f xs h U:=by
 have hK:∀e s V c,Zfj T fn.results.toList h.length U e s V c->ZT c:=fun e s V c A=>by
  cases e with
  |exit id=>exact A.elim
  |_=>
   simp only[Zfj]at A;split at A
   ·exact(Z1 (Z1 (Z5 A).1).1).1
   exact A.elim
 refine SC.ofN ⟨fn,body,Z,hb,hn⟩ hz fun G R Y H ac ha cs=>?_;obtain⟨bl,bg⟩:=ha;have bh:dM (p ()) f Y .normal=mkF ⟨f,false,none,[]⟩ (Y++dJ (fn.ntmps-Y.size) undef) [] [.code body]:=by
  simp[dM,mkF,FB.kind,Z,hb]
 have aw:SL R (entry fn.ntmps xs) (Y++dJ (fn.ntmps-Y.size) undef):=by
  refine⟨by simp[entry,bl],fun i a J=>?_⟩;rw[entry,dX]at J;split at J
  ·rename_i bp;have:=bg i a J;rw[aI]at this|-;rw[Array.getElem?_append_left (by omega)];exact this
  rw[List.getElem?_replicate]at J;split at J
  ·cases J;exact .undef _
  cases J
 obtain⟨e,s',V,R',t',bk,⟨c,A⟩,J,hs,hd,_,hA⟩:=(Zl6 hT (R₀:=R) (h₀:=h) hm (fun Z=>by rw[ac];exact bo Z) hK n _ _ h [] hW).2 R _ (Inv.refl H (by rw[ac];exact aJ _)) aw ⟨⟨f,false,none,[]⟩,fun _=>rfl⟩ [] [] cs ⟨[],rfl,ez,fun r hr=>by cases hr⟩;have ap:∃I,Steps (p ()) R.cx (ZH (mkF ⟨f,false,none,[]⟩ (Y++dJ (fn.ntmps-Y.size) undef) [] [.code body]) cs R.w) (ZH {mkF ⟨f,false,none,[]⟩ t' bk I with mode:=.returning} cs R'.w)/\∃S c',Zir T s' V fn.results.toList=some (S,c')/\Zwr (c++c') U (Qs true (Zf2 T.ks T.kp h.length V.length S) V 5 (ZoI S)) (sel true (Zf2 T.ks T.kp h.length V.length S) V):=by
  cases e with
  |exit id=>exact A.elim
  |normal=>
   refine⟨[],Steps.trans hA (.one (ZpQ rfl)),?_⟩;simp only[Zfj]at A;split at A
   ·exact⟨_,_,‹_›,A⟩
   exact A.elim
  |ret=>
   obtain⟨I,hA⟩:=hA;refine⟨.code .ret::I,Steps.trans hA (.one (ZpN rfl)),?_⟩;simp only[Zfj]at A;split at A
   ·exact⟨_,_,‹_›,A⟩
   exact A.elim
 obtain⟨I,bc,S,c',ai,aq⟩:=ap;obtain⟨ba,ab⟩:=Z5 aq;obtain⟨hc,a9⟩:=Z1 ba;obtain⟨rs,rfl,au,bm⟩:=hd;obtain⟨R2,ah,aj,ak⟩:=Zc4 (P:=p ()) (b:=⟨f,false,none,[]⟩) (base:=[]) (t:=t') (todo:=I) (cs:=cs) rs R' au J bm;obtain⟨v,am,az⟩:=Zk2 (P:=p ()) (fn:=fn) hT ah.hr (hs.mono aj) ai (Z1 hc).2;obtain⟨R3,ae,H3,ar,ao,aa⟩:=ah.leave H (ZnF T.ks T.kp h.length V.length S);have al:=(aa 5 _ _ az).strip a9;refine⟨v,R3,_,_,⟨⟨f,false,none,[]⟩,t',I,fn,?_,rfl,Z,by rw[ae];exact am,rfl⟩,H3,ar,ao,al,ab⟩;rw[bh,ae];exact bc.trans (Ys J.le ak)
end
end Vm
namespace Vm
open Go Conc1
inductive Cx where
 |u (ops:Array Oper) (o:Oper) (rest:List Oper)
 |d (ops:Array Oper) (pr:List Pr) (s0:List AV) (n done:Nat) (q:Pr)
inductive Hd where
 |none
 |ops (ops:Array Oper) (rest:List Oper)
 |drawn (ops:Array Oper) (pr:List Pr) (s0:List AV) (n done:Nat)
 |gev (x:Cx)
 |event (x:Cx)
inductive St where
 |bad
 |fin (e:Ex) (s:List AV) (h:List Zh) (c:Cd)
 |br (c:Cd) (b:Unit->Bool) (k₁ k₂:List Item) (s:List AV) (h:List Zh)
 |gd (c:Cd) (g:Unit->Bool) (x:Cx) (k:List Item) (s:List AV) (h:List Zh)
 |call (c:Cd) (f:Tg) (xs:List AV) (x:Cx) (k:List Item) (s:List AV) (h:List Zh)
 |alls (c:Cd) (ops:Array Oper) (pr:List Pr) (s0:List AV) (n done:Nat) (qs:List Pr) (k:List Item) (s:List AV) (h:List Zh)
 |loop (c:Cd) (x:Code) (k:List Item) (s:List AV) (h:List Zh)
 |cb (c:Cd) (f:Operand) (ps:Array Tmp) (a x:Code) (k:List Item) (s:List AV) (h:List Zh)
 |cut (c:Cd) (x:Code) (k:List Item) (s:List AV) (h:List Zh)
 |hand (c:Cd) (k:List Item) (s:List AV) (h:List Zh)
def Cx.o:Cx->Oper
 |.u _ o _=>o
 |.d _ _ _ _ _ q=>q.o
def Cx.ops:Cx->Array Oper
 |.u ops _ _=>ops
 |.d ops _ _ _ _ _=>ops
inductive Ev where
 |bad
 |val (v:AV) (h:List Zh) (c:Cd)
 |call (f:Tg) (xs:List AV) (c:Cd)
def evt (T:Tb) (o:Oper) (E:Operand->AV) (h:List Zh):Ev:=match Zee o.op with
 |1=>(match ZqB T (fun x=>strip (E x)) h o.op with
  |some (v,h',c')=>.val v h' (gdC E o.op.operands.toList++c')
  |none=>.bad)
 |2=>(match Zi3 o.op with
  |some (f,xs)=>(match ZpF (strip (E f))with
   |some (tg,a,b)=>.call tg (a++(xs.map fun x=>strip (E x))++b) (gdC E o.op.operands.toList)
   |none=>.bad)
  |none=>.bad)
 |5=>(match Zim o.op with
  |some (a,b)=>(match Zjt h (strip (E a)) (strip (E b))with
   |some (h',c')=>.val .undef h' (gdC E o.op.operands.toList++c')
   |none=>.bad)
  |none=>.bad)
 |6=>(match Ziu o.op with
  |some x=>(match ZmB (strip (E x))with
   |some id=>.call (.nxt id) [] (gdC E o.op.operands.toList)
   |none=>.bad)
  |none=>.bad)
 |_=>.bad
def Jn (T:Tb) (x:Cx) (v:AV) (s:List AV) (h:List Zh) (c:Cd):Option (Hd×List AV×Cd):=match x with
 |.u ops o r=>some (.ops ops r,putO s o.dst v,c)
 |.d ops G A n done q=>(match YJ T ops A (putO s q.o.dst v) h q.a done G with
  |some H=>some (.drawn ops G A n (add done q.i),putO s q.o.dst v,c++H)
  |none=>none)
def Zw9 (ops:Array Oper):Cd:=[dd fun _=>ZpZ ops=true]
def exec (T:Tb):Nat->Hd->List Item->List AV->List Zh->Cd->St
 |0,_,_,_,_,_=>.bad
 |n+1,hd,k,s,h,c=>(match hd with
  |.none=>(match k with
   |[]=>.fin .normal s h c
   |.inBlock _::k=>exec T n .none k s h c
   |.inScope _::k=>exec T n .none k s h c
   |.code x::k=>(match x with
    |.skip=>exec T n .none k s h c
    |.label _=>exec T n .none k s h c
    |.seq x y=>exec T n .none (.code x:: .code y::k) s h c
    |.cond o x y=>(match ZhT T k with
     |true=>.cut c (.cond o x y) k s h
     |false=>(match strip (ev s o)with
      |.bool b=>.br (c++Zas (ev s o)) b (.code x::k) (.code y::k) s h
      |_=>.bad))
    |.block id x=>(match ZhT T k with
     |true=>.cut c (.block id x) k s h
     |false=>exec T n .none (.code x:: .inBlock id::k) s h c)
    |.scope x=>exec T n .none (.code x:: .inScope x::k) s h c
    |.loop x=>if T.fl&&T.lp then .hand c (.code x:: .inLoop x::k) s h else .loop c x k s h
    |.exit id=>(match exitTo id k with
     |some k=>exec T n .none k s h c
     |none=>.fin (.exit id) s h c)
    |.goto l=>(match gotoIn l k with
     |some k=>if T.fl then .hand c k s h else .bad
     |none=>.bad)
    |.ret=>.fin .ret s h c
    |.region id ops d=>if ZlA T id then .hand c (.code (.region id ops d)::k) s h else if d then exec T n (.drawn ops (Zss ops) s (ops.size+1) 0) k s h (c++Zw9 ops)else exec T n (.ops ops ops.toList) k s h c
    |.rangeFunc f ps a x=>if T.rd then .bad else .cb c f ps a x k s h
    |_=>.bad)
   |.inLoop x::k=>if T.fl then .hand c (.code x:: .inLoop x::k) s h else .bad
   |_=>.bad)
  |.ops ops l=>(match l with
   |[]=>exec T n .none k (Zd7 T h s) h c
   |o::r=>if Xk o.op then(match JA T ops o (ev s) h with
     |some (v,G)=>exec T n (.ops ops r) k (putO s o.dst v) h (c++G)
     |none=>.bad)
    else exec T n (.gev (.u ops o r)) k s h c)
  |.drawn ops A H m done=>(match m with
   |0=>.bad
   |m+1=>(match X9 T ops h A s done c with
    |none=>.bad
    |some (s,done,c)=>if Zhy A done then(match Yd A done with
      |[]=>if Zq0 A done then exec T n .none k (Zd7 T h s) h c else .bad
      |[q]=>exec T n (.gev (.d ops A H m done q)) k s h c
      |qs=>.alls c ops A H m done qs k s h)
     else .bad))
  |.gev x=>if Xk x.o.op then .bad else(match ZgJ x.ops (ev s) x.o.guard with
   |none=>.bad
   |some none=>exec T n (.event x) k s h c
   |some (some g)=>.gd c g x k s h)
  |.event x=>(match evt T x.o (ev s) h with
   |.bad=>.bad
   |.val v I G=>(match Jn T x v s I (c++G)with
    |some (hd,s,c)=>exec T n hd k s I c
    |none=>.bad)
   |.call f J G=>.call (c++G) f J x k s h))
def den (T:Tb) (p:Unit->Program) (K:Ex->List AV->List Zh->Cd->Prop) (D:Hd->List Item->List AV->List Zh->Cd->Prop):St->Prop
 |.bad=>False
 |.fin e s h c=>K e s h c
 |.br c b A G s h=>chk c (Br b (fun _=>D .none A s h []) (fun _=>D .none G s h []))
 |.gd c g x k s h=>chk c (Br g (fun _=>D (.event x) k s h []) (fun _=>match Jn T x .undef s h []with
  |some (hd,s,c)=>D hd k s h c
  |none=>False))
 |.call c f I x k s h=>chk c (SCt p f I h fun r H=>match Jn T x r s H []with
  |some (hd,s,c)=>D hd k s H c
  |none=>False)
 |.alls c ops U J n done S k s h=>chk c (Zn5 (fun q:Pr=>D (.gev (.d ops U J n done q)) k s h []) S)
 |.loop c x k s h=>chk c (LP T.rd p x (fun e s h=>match e with
  |.normal=>False
  |.exit id=>(match exitTo id k with
   |some k=>D .none k s h []
   |none=>K (.exit id) s h [])
  |.ret=>K .ret s h []) s h)
 |.cb c f ps a x k s h=>chk c (CB p (.rangeFunc f ps a x) (fun e s h=>match e with
  |.normal=>D .none k s h []
  |.exit id=>(match exitTo id k with
   |some k=>D .none k s h []
   |none=>K (.exit id) s h [])
  |.ret=>K .ret s h []) s h)
 |.cut c x k s h=>chk c (XP T.rd p x (fun e s h=>match e with
  |.normal=>D .none k s h []
  |.exit id=>(match exitTo id k with
   |some k=>D .none k s h []
   |none=>K (.exit id) s h [])
  |.ret=>K .ret s h []) s h)
 |.hand c k s h=>chk c (HP T.rd T.nb p k K s h)
def Dn (T:Tb) (p:Unit->Program) (K:Ex->List AV->List Zh->Cd->Prop):Nat->Hd->List Item->List AV->List Zh->Cd->Prop
 |0,_,_,_,_,_=>False
 |m+1,hd,k,s,h,c=>den T p K (Dn T p K m) (exec T 4000 hd k s h c)
section
variable {T:Tb} {p:Unit->Program}
theorem Qb {c:Cd} {G A:Prop} (H:G->A) (h:chk c G):chk c A:=by
 unfold chk at*;split at h
 ·exact H h
 exact⟨h.c,H h.g⟩
theorem X1 {c:Cd} {g:Option (Unit->Bool)} {A G:Cd->Prop} {B H:Unit->Prop} (I:∀c,A c->G c) (J:B ()->H ()) (h:ZcT c g A B):ZcT c g G H:=by
 unfold ZcT at*;split at h
 ·exact I _ h
 exact Qb (fun h=>⟨fun e=>I _ (h.t e),fun e=>J (h.f e)⟩) h
theorem ZdU {ops:Array Oper} {o:Oper} {E:Operand->AV} {h:List Zh} {c:Cd} {K G:AV->List Zh->Cd->Prop} (A:∀v h c,K v h c->G v h c) (hW:Wop T p ops o E h c K):Wop T p ops o E h c G:=by
 unfold Wop at*;split at hW
 ·split at hW
  ·exact hW
  refine X1 (fun c h=>?_) (fun h=>A _ _ _ h) hW;split at h
  ·exact A _ _ _ h
  exact h
 ·split at hW
  ·exact hW
  refine X1 (fun c h=>?_) (fun h=>A _ _ _ h) hW;split at h
  ·split at h
   ·exact Qb (fun h=>h.mono fun r H hr=>A _ _ _ hr) h
   exact h
  exact h
 ·split at hW
  ·exact hW
  refine X1 (fun c h=>?_) (fun h=>A _ _ _ h) hW;split at h
  ·split at h
   ·exact A _ _ _ h
   exact h
  exact h
 ·split at hW
  ·exact hW
  refine X1 (fun c h=>?_) (fun h=>A _ _ _ h) hW;split at h
  ·split at h
   ·exact Qb (fun h=>h.mono fun r H hr=>A _ _ _ hr) h
   exact h
  exact h
 split at hW
 ·exact A _ _ _ hW
 exact hW
theorem ZcL {ops:Array Oper} {K G:List AV->List Zh->Cd->Prop} (A:∀s h c,K s h c->G s h c):∀ {l:List Oper} {s:List AV} {h:List Zh} {c:Cd},Zjc T p ops l s h c K->Zjc T p ops l s h c G
 |[],_,_,_,h=>A _ _ _ h
 |_::_,_,_,_,h=>ZdU (fun _ _ _ h=>ZcL A h) h
theorem Zg5 {ops:Array Oper} {pr:List Pr} {s0:List AV} {K G:List AV->List Zh->Cd->Prop} {n done:Nat} {s:List AV} {q:Pr} (H:∀done s h c,WD T p ops pr s0 K n done s h c->WD T p ops pr s0 G n done s h c) (v:AV) (h:List Zh) (c:Cd)
  (A:WDk T p ops pr s0 K n done s q v h c):WDk T p ops pr s0 G n done s q v h c:=by
 unfold WDk at*;split at A
 ·exact H _ _ _ _ A
 exact A
theorem ZcO {α:Type} {f g:α->Prop} (h:∀a,f a->g a):∀ {l:List α},Zn5 f l->Zn5 g l
 |[],_=>trivial
 |[a],hh=>h a hh
 |_::_::_,hh=>⟨h _ hh.l,ZcO h hh.r⟩
theorem ZfF {ops:Array Oper} {pr:List Pr} {s0:List AV} {K J:List AV->List Zh->Cd->Prop} (I:∀s h c,K s h c->J s h c):∀(n done:Nat) (s:List AV) (h:List Zh) (c:Cd),WD T p ops pr s0 K n done s h c->WD T p ops pr s0 J n done s h c
 |0,_,_,_,_,hW=>by simp only[WD]at hW
 |n+1,done,s,h,c,hW=>by
  have H:=ZfF (ops:=ops) (pr:=pr) (s0:=s0) I n;simp only[WD]at hW|-;split at hW
  ·exact hW
  rename_i Y S V Z;split at hW;case isFalse=>exact hW.elim
  rename_i G;rw[if_pos G];split at hW
  ·rename_i hr;split at hW
   ·rename_i U;rw[if_pos U];exact I _ _ _ hW
   exact hW.elim
  ·exact ZdU (fun v h c A=>Zg5 H v h c A) hW
  exact Qb (fun h=>ZcO (fun q A=>ZdU (fun v h c A=>Zg5 H v h c A) A) h) hW
theorem CB.mono {x:Code} {Q Q':Ex->List AV->List Zh->Prop} {s:List AV} {h:List Zh} (H:CB p x Q s h) (I:∀e s h,Q e s h->Q' e s h):CB p x Q' s h:=⟨fun A G=>(H.run A G).mono I⟩
theorem Zq6 {K:Ex->List AV->List Zh->Cd->Prop}:∀(n:Nat) (k:List Item) (s:List AV) (h:List Zh) (c:Cd),W T p K n k s h c->W T p K (n+1) k s h c
 |0,_,_,_,_,hW=>by simp only[W]at hW
 |n+1,k,s,h,c,hW=>by
  have G:=Zq6 (K:=K) n
  have I:∀(id:Nat) (k:List Item) (s:List AV) (h:List Zh) (c:Cd),(match exitTo id k with
    |some k=>W T p K n k s h c
    |none=>K (.exit id) s h c)->(match exitTo id k with
    |some k=>W T p K (n+1) k s h c
    |none=>K (.exit id) s h c):=fun id k s h c J=>by
   split at J
   ·exact G _ _ _ _ J
   exact J
  unfold W at hW|-;split at hW
  ·exact hW
  ·exact G _ _ _ _ hW
  ·exact G _ _ _ _ hW
  ·split at hW
   ·exact G _ _ _ _ hW
   ·exact G _ _ _ _ hW
   ·exact G _ _ _ _ hW
   ·split at hW
    ·rename_i H;rw[if_pos H];refine Qb (fun h=>h.mono fun e s h A=>?_) hW;cases e with
     |normal=>exact G _ _ _ _ A
     |exit id=>exact I _ _ _ _ _ A
     |ret=>exact A
    rename_i H;rw[if_neg H];split at hW
    ·exact Qb (fun h=>⟨fun e=>G _ _ _ _ (h.t e),fun e=>G _ _ _ _ (h.f e)⟩) hW
    exact hW
   ·split at hW
    ·rename_i H;rw[if_pos H];refine Qb (fun h=>h.mono fun e s h A=>?_) hW;cases e with
     |normal=>exact G _ _ _ _ A
     |exit id=>exact I _ _ _ _ _ A
     |ret=>exact A
    rename_i H;rw[if_neg H];exact G _ _ _ _ hW
   ·exact G _ _ _ _ hW
   ·split at hW
    ·rename_i H;rw[if_pos H];exact hW
    rename_i H;rw[if_neg H];refine Qb (fun h=>h.mono fun e s h A=>?_) hW;cases e with
    |normal=>exact A
    |exit id=>exact I _ _ _ _ _ A
    |ret=>exact A
   ·exact I _ _ _ _ _ hW
   ·exact hW
   ·exact hW
   ·rename_i d;split at hW
    ·rename_i H;rw[if_pos H];exact hW
    rename_i H;rw[if_neg H];cases d with
    |false=>exact ZcL (fun s h c J=>G _ _ _ _ J) hW
    |true=>exact ZfF (fun s h c J=>G _ _ _ _ J) _ _ _ _ _ hW
   ·split at hW
    ·exact hW.elim
    rename_i S;rw[if_neg S];refine Qb (fun h=>h.mono fun e s h A=>?_) hW;cases e with
    |normal=>exact G _ _ _ _ A
    |exit id=>exact I _ _ _ _ _ A
    |ret=>exact A
   exact hW
  ·exact hW
  exact hW
theorem ZkF {K:Ex->List AV->List Zh->Cd->Prop} {n m:Nat} (A:n<=m) {k:List Item} {s:List AV} {h:List Zh} {c:Cd} (hW:W T p K n k s h c):W T p K m k s h c:=by
 induction A with
 |refl=>exact hW
 |step _ G=>exact Zq6 _ _ _ _ _ G
def Zje (T:Tb) (p:Unit->Program) (o:Oper) (E:Operand->AV) (h:List Zh) (c:Cd) (K:AV->List Zh->Cd->Prop):Prop:=match evt T o E h with
 |.bad=>False
 |.val v A G=>K v A (c++G)
 |.call f H G=>chk (c++G) (SCt p f H h fun r A=>K r A [])
theorem Zq5 {ops:Array Oper} {o:Oper} {E:Operand->AV} {h:List Zh} {c:Cd} {K:AV->List Zh->Cd->Prop} (I:Xk o.op=false) {g:Option (Unit->Bool)} (G:ZgJ ops E o.guard=some g)
  (hW:ZcT c g (fun c=>Zje T p o E h c K) (fun _=>K .undef h [])):Wop T p ops o E h c K:=by
 unfold Wop;have H:∀c,Zje T p o E h c K->∀n,Zee o.op=n->_:=fun c J n S=>by
  unfold Zje evt at J;rw[S]at J;exact J
 unfold Xk at I;split at I
 ·rename_i A;simp only[G];refine X1 (fun c h=>?_) (fun h=>h) hW;have:=H c h _ A;simp only at this;cases he:ZqB T (fun x=>strip (E x)) _ o.op with
  |none=>simp only[he]at this
  |some r=>simp only[he]at this|-;exact this
 ·rename_i A;simp only[G];refine X1 (fun c h=>?_) (fun h=>h) hW;have:=H c h _ A;simp only at this;cases he:Zi3 o.op with
  |none=>simp only[he]at this
  |some r=>
   obtain⟨f,U⟩:=r;simp only[he]at this|-;cases hs:strip (E f)<;>simp only[hs]at this|-<;>exact this
 ·rename_i A;simp only[G];refine X1 (fun c h=>?_) (fun h=>h) hW;have:=H c h _ A;simp only at this;cases he:Zim o.op with
  |none=>simp only[he]at this
  |some r=>
   obtain⟨a,b⟩:=r;simp only[he]at this|-;cases hs:Zjt _ (strip (E a)) (strip (E b))<;>simp only[hs]at this|-<;>exact this
 ·rename_i A;simp only[G];refine X1 (fun c h=>?_) (fun h=>h) hW;have:=H c h _ A;simp only at this;cases he:Ziu o.op with
  |none=>simp only[he]at this
  |some x=>
   simp only[he]at this|-;cases hs:ZmB (strip (E x))<;>simp only[hs]at this|-<;>exact this
 cases I
end
end Vm
namespace Vm
open Go Conc1
def Zre (R:RC) (n k:Nat):Prop:=∀id,n<=id->id<n+k->id<R.m/\R.hw id=0/\R.hv id= .slice none 0 0
structure Zy (n k:Nat) (a b:AV):Prop where
 f:∀(R:RC) (v:Value),Zre R n k->VR R a v->VR R b v
def To (s:List AV) (h:List Zh) (s₂:List AV) (h₂:List Zh):Prop:=∀(G:Nat->Nat->Nat->Prop) (R:RC) (t:Array Value),HR G R h->SL R s t->∃A,A.w=R.w/\HR G A h₂/\Xd R h A h₂/\R.le A/\SL A s₂ t
theorem To.trans {J s₂ A:List AV} {h₁ h₂ I:List Zh} (a:To J h₁ s₂ h₂) (b:To s₂ h₂ A I):To J h₁ A I:=fun G R t H hs=>by
 obtain⟨R',a1,a2,a3,U,a5⟩:=a G R t H hs;obtain⟨S,V,b2,Y,b4,Z⟩:=b G R' t a2 a5;exact⟨S,V.trans a1,b2,a3.trans Y,U.trans b4,Z⟩
def Yn (n k:Nat):List AV->List AV->Prop
 |[],[]=>True
 |a::r,b::s=>(match b with
  |.undef=>Yn n k r s
  |b=>Zy n k a b/\Yn n k r s)
 |_,_=>False
theorem Yn.cons {n k:Nat} {a b:AV} {r s:List AV} (h:Yn n k (a::r) (b::s)):Zy n k a b/\Yn n k r s:=by
 unfold Yn at h;split at h
 ·exact⟨⟨fun _ _ _ _=>.undef _⟩,h⟩
 exact h
theorem Yn.mk {n k:Nat} {a b:AV} {r s:List AV} (G:Zy n k a b) (A:Yn n k r s):Yn n k (a::r) (b::s):=by
 unfold Yn;split
 ·exact A
 exact⟨G,A⟩
theorem Yn.len {n k:Nat}:∀ {s A:List AV},Yn n k s A->s.length=A.length
 |[],[],_=>rfl
 |_::_,_::_,h=>by simp[Yn.len h.cons.2]
 |[],_::_,h=>h.elim
 |_::_,[],h=>h.elim
theorem Yn.get {n k:Nat}:∀ {s A:List AV},Yn n k s A->∀ {i:Nat} {b:AV},A[i]? =some b->∃a,s[i]? =some a/\Zy n k a b
 |[],[],_,i,b,h=>by simp at h
 |a::_,b::_,h,0,c,hc=>by
  simp only[bJ,aC]at hc;subst hc;exact⟨a,rfl,h.cons.1⟩
 |_::_,_::_,h,i+1,c,hc=>Yn.get h.cons.2 hc
 |[],_::_,h,_,_,_=>h.elim
 |_::_,[],h,_,_,_=>h.elim
structure ZG (n k:Nat) (a b:Zh):Prop where
 br:∀(R:RC) (id:Nat),Zre R n k->BR R id a->BR R id b
 ph:∀(R:RC) (id x:Nat),Zz R id a x↔Zz R id b x
 av:∀(R:RC) (id x o m:Nat),Qe R id a x o m↔Qe R id b x o m
 tk:Zar a=Zar b
def Zd1 (n k:Nat):List Zh->List Zh->Prop
 |[],[]=>True
 |a::r,b::s=>ZG n k a b/\Zd1 n k r s
 |_,_=>False
theorem Zd1.len {n k:Nat}:∀ {s A:List Zh},Zd1 n k s A->s.length=A.length
 |[],[],_=>rfl
 |_::_,_::_,h=>by simp[Zd1.len h.2]
 |[],_::_,h=>h.elim
 |_::_,[],h=>h.elim
theorem Zd1.get {n k:Nat}:∀ {s A:List Zh},Zd1 n k s A->∀ {i:Nat} {b:Zh},A[i]? =some b->∃a,s[i]? =some a/\ZG n k a b
 |[],[],_,i,b,h=>by simp at h
 |a::_,b::_,h,0,c,hc=>by
  simp only[bJ,aC]at hc;subst hc;exact⟨a,rfl,h.1⟩
 |_::_,_::_,h,i+1,c,hc=>Zd1.get h.2 hc
 |[],_::_,h,_,_,_=>h.elim
 |_::_,[],h,_,_,_=>h.elim
theorem Zd1.get' {n k:Nat}:∀ {s A:List Zh},Zd1 n k s A->∀ {i:Nat} {a:Zh},s[i]? =some a->∃b,A[i]? =some b/\ZG n k a b
 |[],[],_,i,b,h=>by simp at h
 |a::_,b::_,h,0,c,hc=>by
  simp only[bJ,aC]at hc;subst hc;exact⟨b,rfl,h.1⟩
 |_::_,_::_,h,i+1,c,hc=>Zd1.get' h.2 hc
 |[],_::_,h,_,_,_=>h.elim
 |_::_,[],h,_,_,_=>h.elim
theorem HR.wk {G:Nat->Nat->Nat->Prop} {R:RC} {h h₂:List Zh} {n k:Nat} (H:HR G R h) (hN:Zre R n k) (J:Zd1 n k h h₂):HR G R h₂:=by
 refine⟨J.len▸H.len,fun b o m=>?_,fun id x S=>?_,fun i j bi bj b aa hi hj V ab=>?_,H.cl,H.fresh,fun id x b S hk V o m=>?_,H.n0m⟩
 ·rw[H.okd];refine and_congr_right fun _=>and_congr_right fun _=>⟨fun U id x S=>?_,fun U id x S=>?_⟩
  ·obtain⟨a,I,A⟩:=J.get S;exact(A.av R id b o m).1 (U id a I)
  obtain⟨a,I,A⟩:=J.get' S;exact(A.av R id b o m).2 (U id a I)
 ·obtain⟨a,I,A⟩:=J.get S;exact A.br R id hN (H.blk id a I)
 ·obtain⟨a,I,A⟩:=J.get hi;obtain⟨a',Z,Y⟩:=J.get hj;exact H.dis i j a a' b aa I Z ((A.ph R i b).2 V) ((Y.ph R j b).2 ab)
 obtain⟨a,I,A⟩:=J.get S;exact H.tokG id a b I (by rw[A.tk];exact hk) ((A.ph R id b).2 V) o m
theorem Xd.wk {R R':RC} {h h' h₂:List Zh} {n k:Nat} (A:Xd R h R' h') (G:Zd1 n k h' h₂):Xd R h R' h₂:=
 ⟨A.n0,A.os,A.tape,A.output,A.size,A.m,A.α,A.ok,A.keep,A.frame,fun id x b I H=>by
  obtain⟨a,S,J⟩:=G.get I
  exact A.own id a b S ((J.ph R' id b).2 H)⟩
def ghosts:List (Nat×Bool)->List Zh
 |[]=>[]
 |(s,true)::r=>.gar s (fun _=>0) (fun _=>[])::ghosts r
 |(s,false)::r=>.tok s (fun _=>0)::ghosts r
theorem HR.ghost {G:Nat->Nat->Nat->Prop} {R:RC} {h:List Zh} (H:HR G R h) (s:Nat) (g:Bool):
  ∃A,A.w=R.w/\HR G A (h++ghosts [(s,g)])/\Xd R h A (h++ghosts [(s,g)])/\R.le A/\A.m=R.m+1/\A.hw R.m=0/\A.hv R.m= .slice none 0 0:=by
 have aa:∀blk,(blk= .gar s (fun _=>0) (fun _=>[])\/blk= .tok s (fun _=>0))->∃A,A.w=R.w/\HR G A (h++[blk])/\Xd R h A (h++[blk])/\R.le A/\A.m=R.m+1/\A.hw R.m=0/\A.hv R.m= .slice none 0 0:=by
  intro blk I;have ab:∀i x,(h++[blk])[i]? =some x->(i=R.m/\x=blk)\/(i≠R.m/\h[i]? =some x):=fun i x Z=>by
   rcases Qr Z with Z|⟨rfl,rfl⟩
   ·exact .inr ⟨fun e=>by have:=(aE.1 Z).1;rw[H.len]at this;omega,Z⟩
   exact .inl ⟨H.len,rfl⟩
  have V:∀A:RC,A.hv R.m= .slice none 0 0->∀b,¬Zz A R.m blk b:=fun A hv b Y=>by
   rcases I with rfl|rfl
   ·obtain⟨a,n,c,J,_⟩:=Y;rw[hv]at J;cases J
   obtain⟨a,n,c,J,_⟩:=Y;rw[hv]at J;cases J
  obtain⟨A,a1,a2,a3,a4,a5,a6,a7,_⟩:=H.room R.m (R.m+1) blk 0 (.slice none 0 0) R.w (h++[blk]) (by rw[List.length_append,H.len];rfl) (Nat.le_succ _) ab (fun hi=>absurd hi (dI _)) (fun _=>False)
   (fun b=>⟨fun h=>h.elim,fun h=>absurd h.1 (dI _)⟩) rfl rfl rfl (aJ _) (fun _ _ _=>rfl) (fun _ _ _ _ _ _=>rfl)
   (fun A _ _ S U _=>by
    rcases I with rfl|rfl
    ·first|exact⟨S,.inl ⟨rfl,U⟩⟩|exact⟨S,.inl ⟨rfl,none,U⟩⟩
    first|exact⟨S,.inl ⟨rfl,U⟩⟩|exact⟨S,.inl ⟨rfl,none,U⟩⟩)
   (fun A hv _ b Y=>absurd Y (V A hv b))
   (fun A hv b o n _=>by
    rcases I with rfl|rfl
    ·exact V A hv b
    exact fun a len ac J=>by rw[hv]at J;cases J)
   (by rcases I with rfl|rfl<;>rfl)
  exact⟨A,a1,a5,a6,a7,a2,a4,a3⟩
 cases g with
 |true=>exact aa _ (.inl rfl)
 |false=>exact aa _ (.inr rfl)
theorem HR.ghosts {G:Nat->Nat->Nat->Prop}:∀(l:List (Nat×Bool)) {R:RC} {h:List Zh},HR G R h->
  ∃A,A.w=R.w/\HR G A (h++Vm.ghosts l)/\Xd R h A (h++Vm.ghosts l)/\R.le A/\A.m=R.m+l.length/\Zre A R.m l.length
 |[],R,h,H=>⟨R,rfl,by simpa [Vm.ghosts]using H,by simpa [Vm.ghosts]using Xd.refl R h,RC.le.refl _,rfl,fun id h1 V=>by simp at V;omega⟩
 |(s,g)::l,R,h,H=>by
  obtain⟨A,a1,a2,a3,a4,a5,a6,a7⟩:=H.ghost s g;obtain⟨I,b1,Y,Z,b4,b5,b6⟩:=HR.ghosts l a2;have e:h++Vm.ghosts [(s,g)]++Vm.ghosts l=h++Vm.ghosts ((s,g)::l):=by
   cases g<;>simp[Vm.ghosts]
  rw[e]at Y Z;refine⟨I,b1.trans a1,Y,a3.trans Z,a4.trans b4,by rw[b5,a5,bF];omega,fun id h1 V=>?_⟩;rw[bF]at V;by_cases he:id=R.m
  ·subst he;obtain⟨t1,t2⟩:=b4.tk R.m (by omega);obtain⟨_,c2,c3⟩:R.m<I.m/\True/\True:=⟨by omega,trivial,trivial⟩;have hb:=Y.blk R.m;have U:∃blk,(h++Vm.ghosts ((s,g)::l))[R.m]? =some blk/\(blk= .gar s (fun _=>0) (fun _=>[])\/blk= .tok s (fun _=>0)):=by
    rw[List.getElem?_append_right (by rw[H.len];exact aJ _),H.len,eX];cases g
    ·exact⟨_,rfl,.inr rfl⟩
    exact⟨_,rfl,.inl rfl⟩
   obtain⟨blk,aa,ab⟩:=U;have J:=hb blk aa;have S:I.hw R.m=0:=by
    rcases ab with rfl|rfl
    ·exact J.1
    exact J.1
   exact⟨by omega,S,by rw[t2 (by rw[a6,S])];exact a7⟩
  exact b6 id (by omega) (by omega)
theorem To.of (gs:List (Nat×Bool)) {s s₂:List AV} {h h₂:List Zh} (Y:Yn h.length gs.length s s₂/\Zd1 h.length gs.length (h++ghosts gs) h₂):To s h s₂ h₂:=fun G R t H A=>by
 obtain⟨J,V⟩:=Y;obtain⟨S,a1,Z,a3,U,a5,I⟩:=HR.ghosts gs H;rw[<-H.len]at I;refine⟨S,a1,Z.wk I V,a3.wk V,U,by rw[<-J.len];exact A.1,fun i b hi=>?_⟩;obtain⟨a,h1,h2⟩:=J.get hi;exact h2.f S _ I ((A.2 i a h1).mono U)
section
variable {P:Program} {rd:Bool} {R₀:RC} {h₀:List Zh}
theorem CI.to {pre:List Item} {K:Ex->List AV->List Zh->Prop} {s s₂:List AV} {h h₂:List Zh} (I:To s h s₂ h₂) (H:CI P rd R₀ h₀ pre K s₂ h₂):CI P rd R₀ h₀ pre K s h:=fun R t U hs b ds k cs hd=>by
 obtain⟨R',S,a2,a3,A,a5⟩:=I _ R t U.hr hs;obtain⟨e,s',h',J,Z,V,Y,b2,b5,b6,b7,G⟩:=H R' t (U.step a2 a3 A) a5 b ds k cs (by rw[S];exact hd);exact⟨e,s',h',J,Z,V,Y,b2,b5,b6,b7,by rw[S]at G;exact Zvp A G⟩
end
section
variable {T:Tb} {p:Unit->Program}
theorem LP.to {rd:Bool} {x:Code} {Q:Ex->List AV->List Zh->Prop} {s s₂:List AV} {h h₂:List Zh} (I:To s h s₂ h₂) (H:LP rd p x Q s₂ h₂):LP rd p x Q s h:=⟨fun A G=>CI.to I (H.run A G)⟩
def Zca (L:List Nat):Nat->List AV->List AV
 |_,[]=>[]
 |i,a::r=>(if L.any (ZD i)then a else .undef)::Zca L (i+1) r
def keep (L:List Nat) (s:List AV):List AV:=Zca L 0 s
theorem Zgz {L:List Nat}:∀ {s:List AV} {i j:Nat} {a:AV},(Zca L i s)[j]? =some a->a= .undef\/s[j]? =some a
 |[],_,_,_,h=>by simp[Zca]at h
 |x::r,i,0,a,h=>by
  simp only[Zca,bJ,aC]at h;subst h;split
  ·exact .inr rfl
  exact .inl rfl
 |x::r,i,j+1,a,h=>by
  simp only[Zca,cN]at h;simpa using Zgz h
theorem Zc0 {L:List Nat}:∀ {s:List AV} {i:Nat},(Zca L i s).length=s.length
 |[],_=>rfl
 |x::r,i=>by simp[Zca,Zc0]
theorem SL.keep {R:RC} {s:List AV} {t:Array Value} (A:SL R s t) (L:List Nat):SL R (Vm.keep L s) t:=
 ⟨by rw[Vm.keep,Zc0];exact A.1,fun i a h=>by
  rcases Zgz h with rfl|h
  ·exact .undef _
  exact A.2 i a h⟩
theorem To.keep (L:List Nat) (s:List AV) (h:List Zh):To s h (Vm.keep L s) h:=fun _ R _ H A=>⟨R,rfl,H,Xd.refl _ _,RC.le.refl _,A.keep L⟩
def trimS (n:Nat) (h:List Zh) (s:List AV):List AV:=s.map (Qs true (aR n) h 5)
theorem SL.trimS {R R':RC} {s:List AV} {t:Array Value} {n:Nat} {h:List Zh} (G:SL R s t) (A:∀k a v,VR R a v->VR R' (Qs true (aR n) h k a) v):SL R' (Vm.trimS n h s) t:=
 ⟨by rw[Vm.trimS,bA];exact G.1,fun i a H=>by
  rw[Vm.trimS,aO,aG]at H;obtain⟨x,I,rfl⟩:=H
  exact A 5 x _ (G.2 i x I)⟩
structure Zuw {ι:Type} (st:ι->List AV) (hp:ι->List Zh) (inv:ι->Prop) (μ:ι->Nat) (i:ι) (s:List AV) (h:List Zh):Prop where
 ex:∃j,inv j/\μ j<μ i/\To s h (st j) (hp j)
def Zfq {ι:Type} (L:List Nat) (st:ι->List AV) (G:ι->List Zh) (inv:ι->Prop) (A:ι->Nat) (i:ι) (n:Nat) (Q:Ex->List AV->List Zh->Prop) (e:Ex) (s:List AV) (h:List Zh) (c:Cd):Prop:=match e with
 |.normal=>(match Z7 n h.length with
  |true=>chk c (Zuw st G inv A i (trimS n h (keep L s)) (sel true (aR n) h))
  |false=>False)
 |.exit id=>chk c (Q (.exit id) s h)
 |.ret=>chk c (Q .ret s h)
theorem Zcb {ι:Type} {L:List Nat} {st:ι->List AV} {H:ι->List Zh} {inv:ι->Prop} {G:ι->Nat} {i:ι} {n:Nat} {Q:Ex->List AV->List Zh->Prop} {s:List AV} {h:List Zh} {c:Cd} (A:Zfq L st H inv G i n Q .normal s h c):n<=h.length/\chk c (Zuw st H inv G i (trimS n h (keep L s)) (sel true (aR n) h)):=by
 simp only[Zfq]at A;split at A
 ·rename_i I;exact⟨QT I,A⟩
 exact A.elim
theorem ZhL {ι:Type} {L:List Nat} {st:ι->List AV} {H:ι->List Zh} {inv:ι->Prop} {G:ι->Nat} {i:ι} {n:Nat} {Q:Ex->List AV->List Zh->Prop} {e:Ex} {s:List AV} {h:List Zh} {c:Cd} (A:Zfq L st H inv G i n Q e s h c):ZT c:=by
 cases e with
 |normal=>exact(Z5 (Zcb A).2).1
 |exit id=>exact(Z5 A).1
 |ret=>exact(Z5 A).1
theorem LP.ind (hT:T.Of (p ())) (hm:(p ()).follows .mixedOrders=true) (aa:T.fl=false) {x:Code} {Q:Ex->List AV->List Zh->Prop} {s:List AV} {h:List Zh} {ι:Type} (L:List Nat) (st:ι->List AV) (hp:ι->List Zh) (inv:ι->Prop) (μ:ι->Nat) (i:ι) (n:Nat)
  (hn:∀i,(hp i).length=n) (hi:inv i) (ac:To (Vm.keep L s) h (st i) (hp i)) {m:Nat} (step:∀i,inv i->W T p (Zfq L st hp inv μ i n Q) m [.code x] (st i) (hp i) []):LP T.rd p x Q s h:=by
 refine LP.to ((To.keep L s h).trans ac) ?_;have aj:∀n i,μ i<=n->inv i->LP T.rd p x Q (st i) (hp i):=by
  intro n';induction n' with
  |zero=>
   intro i ap hi;refine⟨fun G A R t S hs b ds k cs hd=>?_⟩;obtain⟨e,s',h',R',J,I,⟨c,H⟩,Y,V,b6,Z,U⟩:=(Zl6 (R₀:=G) (h₀:=A) hT hm (fun h=>by rw[aa]at h;cases h) (fun e s h c hk=>ZhL hk) m _ _ _ [] (step i hi)).2 R t S hs b ds (.inLoop x::k) cs hd;cases e with
   |normal=>
    obtain⟨_,H⟩:=Zcb H;obtain⟨j,_,hj,_⟩:=(Z5 H).2.ex;omega
   |exit id=>exact⟨.exit id,s',h',R',J,I,⟨fun h=>(by cases h),(Z5 H).2⟩,Y,V,b6,Z,by
     have:=Arr.pass (x:=.inLoop x) (fun _ _=>rfl) (fun h=>(by cases h)) U
     exact this⟩
   |ret=>exact⟨.ret,s',h',R',J,I,⟨fun h=>(by cases h),(Z5 H).2⟩,Y,V,b6,Z,U⟩
  |succ n' ih=>
   intro i ap hi;refine⟨fun G A R t S hs b ds k cs hd=>?_⟩;obtain⟨e,s',h',R',J,I,⟨c,H⟩,Y,V,b6,Z,U⟩:=(Zl6 (R₀:=G) (h₀:=A) hT hm (fun h=>by rw[aa]at h;cases h) (fun e s h c hk=>ZhL hk) m _ _ _ [] (step i hi)).2 R t S hs b ds (.inLoop x::k) cs hd;cases e with
   |normal=>
    obtain⟨al,H⟩:=Zcb H;obtain⟨j,ak,aq,ah⟩:=(Z5 H).2.ex;obtain⟨R2,c1,c2,c5⟩:=Y.trimN n (by rw[<-S.ext.n0,<-hn i,S.hr.len];exact S.hr.n0m) al;obtain⟨R3,d1,d2,d3,d4,d5⟩:=ah _ R2 J c2.hr ((V.keep L).trimS c5);obtain⟨e,ao,ai,ae,am,ab,f1,f2,f5,f6,f7,f8⟩:=(ih j (by omega) ak).run G A R3 J (c2.step d2 d3 d4) d5 b I k cs (by rw[d1,c1];exact b6);rw[d1,c1]at f8;exact⟨e,ao,ai,ae,am,ab,f1,f2,f5,f6,fun hr=>(f7 hr).trans (Z hr),Arr.of_steps (Steps.trans U (.one Zhv)) (Zg0 S (c2.step d2 d3 d4) f8)⟩
   |exit id=>exact⟨.exit id,s',h',R',J,I,⟨fun h=>(by cases h),(Z5 H).2⟩,Y,V,b6,Z,Arr.pass (x:=.inLoop x) (fun _ _=>rfl) (fun h=>(by cases h)) U⟩
   |ret=>exact⟨.ret,s',h',R',J,I,⟨fun h=>(by cases h),(Z5 H).2⟩,Y,V,b6,Z,U⟩
 exact aj (μ i) i (aJ _) hi
structure ZwX {ι:Type} (st:ι->List AV) (hp:ι->List Zh) (inv:ι->Prop) (s:List AV) (h:List Zh):Prop where
 ex:∃j,inv j/\To s h (st j) (hp j)
def ZlT {ι:Type} (L:List Nat) (st:ι->List AV) (A:ι->List Zh) (inv:ι->Prop) (n:Nat) (Q:Ex->List AV->List Zh->Prop) (e:Ex) (s:List AV) (h:List Zh) (c:Cd):Prop:=match e with
 |.normal=>(match Z7 n h.length with
  |true=>chk c (ZwX st A inv (trimS n h (keep L s)) (sel true (aR n) h))
  |false=>False)
 |.exit id=>chk c (Q (.exit id) s h)
 |.ret=>chk c (Q .ret s h)
theorem Zfb {ι:Type} {L:List Nat} {st:ι->List AV} {G:ι->List Zh} {inv:ι->Prop} {n:Nat} {Q:Ex->List AV->List Zh->Prop} {s:List AV} {h:List Zh} {c:Cd} (A:ZlT L st G inv n Q .normal s h c):n<=h.length/\chk c (ZwX st G inv (trimS n h (keep L s)) (sel true (aR n) h)):=by
 simp only[ZlT]at A;split at A
 ·rename_i H;exact⟨QT H,A⟩
 exact A.elim
theorem ZnR {ι:Type} {L:List Nat} {st:ι->List AV} {G:ι->List Zh} {inv:ι->Prop} {n:Nat} {Q:Ex->List AV->List Zh->Prop} {e:Ex} {s:List AV} {h:List Zh} {c:Cd} (A:ZlT L st G inv n Q e s h c):ZT c:=by
 cases e with
 |normal=>exact(Z5 (Zfb A).2).1
 |exit id=>exact(Z5 A).1
 |ret=>exact(Z5 A).1
theorem XP.by (hT:T.Of (p ())) (hm:(p ()).follows .mixedOrders=true) (ab:T.fl=false) {x:Code} {Q:Ex->List AV->List Zh->Prop} {s:List AV} {h:List Zh} {ι:Type} (L:List Nat) (st:ι->List AV) (Z:ι->List Zh) (inv:ι->Prop)
  {m:Nat} (step:W T p (ZlT L st Z inv h.length Q) m [.code x] s h []) (rest:∀i,inv i->Q .normal (st i) (Z i)):XP T.rd p x Q s h:=by
 refine⟨fun I G R t S hs b ds k cs hd=>?_⟩;obtain⟨e,s',h',R',J,H,⟨c,A⟩,Y,V,b6,b7,U⟩:=(Zl6 (R₀:=I) (h₀:=G) hT hm (fun h=>by rw[ab]at h;cases h) (fun e s h c hk=>ZnR hk) m _ _ _ [] step).2 R t S hs b ds k cs hd;cases e with
 |normal=>
  obtain⟨ae,A⟩:=Zfb A;obtain⟨j,ac,aa⟩:=(Z5 A).2.ex;obtain⟨R2,c1,c2,c5⟩:=Y.trimN h.length (by rw[<-S.ext.n0,S.hr.len];exact S.hr.n0m) ae;obtain⟨R3,d1,d2,d3,d4,d5⟩:=aa _ R2 J c2.hr ((V.keep L).trimS c5);refine⟨.normal,st j,Z j,R3,J,H,rest j ac,c2.step d2 d3 d4,d5,by rw[d1,c1];exact b6,b7,by rw[d1,c1];exact U⟩
 |exit id=>exact⟨.exit id,s',h',R',J,H,(Z5 A).2,Y,V,b6,b7,U⟩
 |ret=>exact⟨.ret,s',h',R',J,H,(Z5 A).2,Y,V,b6,b7,U⟩
theorem HP.cut {rd:Bool} {nb:Nat} {K:Ex->List AV->List Zh->Cd->Prop} {k:List Item} {s s₂:List AV} {h h₂:List Zh} (L:List Nat) (n:Nat) (hn:n<=h.length) (h0:nb<=n) (U:To (trimS n h (Vm.keep L s)) (Vm.sel true (aR n) h) s₂ h₂) (H:HP rd nb p k K s₂ h₂):HP rd nb p k K s h:=by
 refine⟨fun hK S I A R t hI hs b ds k' cs hd=>?_⟩;obtain⟨R2,c1,G,c5⟩:=hI.trimN n (cF A h0) hn;obtain⟨R3,d1,d2,d3,d4,d5⟩:=U _ R2 t G.hr ((hs.keep L).trimS c5);obtain⟨e,ab,Z,V,aa,J,f1,f2,f5,f6,f7,Y⟩:=H.run hK S I A R3 t (G.step d2 d3 d4) d5 b ds k' cs (by rw[d1,c1];exact hd);rw[d1,c1]at Y;exact⟨e,ab,Z,V,aa,J,f1,f2,f5,f6,f7,Zg0 hI (G.step d2 d3 d4) Y⟩
end
end Vm
end Go.Proofs.YtjgpiclllehgmaaGreat
