/- Lemmas. -/
import Derived.Test.YtjgpiclllehgmaaGreatB3
import Derived.Test.YtjgpiclllehgmaaGreatB1
import Derived.Test.YtjgpiclllehgmaaGreatB2
set_option linter.all false
open Bool renaming and_eq_true->aU,false_ne_true->aO
open Decidable renaming of_not_not->bQ
open Int renaming le_refl->bS,max_def->iQ,toNat->fy,toNat_natCast->aV,toNat_of_nonneg->gi
open List renaming all_eq_true->bL,any_eq_true->cZ,drop->iJ,flatMap_map->iu,foldl_append->eU,foldl_cons->dR,getD_eq_getElem?_getD->aA,getElem?_eq_getElem->aD,getElem?_eq_none->cE,getElem?_map->aQ,getElem?_range->cQ,getElem?_set->bR,getElem?_set_ne->cU,getElem?_set_self->cV,getElem_map->fD,getElem_mem->bM,length->fR,length_map->aX,length_range->cH,length_set->bP,length_take->bW,map->eR,map_append->cY,map_congr_left->fH,map_map->fw,mem_append->cP,mem_cons->bG,mem_cons_of_mem->aS,mem_cons_self->aW,mem_map->bC,mem_range->bV,mem_singleton->aN,not_mem_nil->dU,range->aP,range_succ->fj,take->gP,take_length->fa,take_of_length_le->dT
open List.cons renaming injEq->cC
open Nat renaming le_refl->aI,le_trans->cD,zero_le->aT
open Option renaming isSome_iff_exists->dY
open Prod renaming ext->iO
open Prod.mk renaming injEq->aK
open Go.Proofs.Tryz renaming prog->aB
namespace Go.Proofs.YtjgpiclllehgmaaGreat
namespace Sp
open Vm
def Zc4 (h:Ziv):List Int:=[h.comes,h.ready,h.goes]
theorem ZbK {α G:Type} [BEq α] [LawfulBEq α] {k:α} {v:G}:∀ {L:List (α×G)},L.lookup k=some v->(k,v)∈L
 |[],h=>by cases h
 |(a,b)::r,h=>by
  rw[List.lookup_cons]at h;split at h
  ·rename_i A;have A:=eq_of_beq A;subst A;cases h;exact aW ..
  exact aS _ (ZbK h)
theorem Zgp {α:Type} {L:List (List Int×α)} {k:List Int} {d:α} {p:List Int×α} (h:p∈JD L k d):p=(k,d)\/p∈L:=by
 unfold JD at h;split at h
 ·obtain⟨q,A,rfl⟩:=bC.1 h;split
  ·exact .inl rfl
  exact .inr A
 rcases cP.1 h with h|h
 ·exact .inr h
 exact .inl (aN.1 h)
theorem Zet {α:Type} {L:List (List Int×α)} {k:List Int} {d:α}:(k,d)∈JD L k d:=by
 unfold JD;split
 ·rename_i h;obtain⟨p,A,G⟩:=cZ.1 h;exact bC.2 ⟨p,A,iP G⟩
 exact cP.2 (.inr (aN.2 rfl))
theorem ZhW {α:Type} {L:List (List Int×α)} {k:List Int} {d:α} {p:List Int×α} (h:p∈L) (G:p.1=k->p.2=d):p∈JD L k d:=by
 unfold JD;split
 ·refine bC.2 ⟨p,h,?_⟩;split
  ·rename_i A;have A:=eq_of_beq A;rw[<-A,<-G A]
  rfl
 exact cP.2 (.inl h)
theorem Zeu {α:Type} {L:List (List Int×α)} {k:List Int} {d:α} (h:(L.map (·.1)).Nodup):((JD L k d).map (·.1)).Nodup:=by
 unfold JD;split
 ·rw[fw];have:((λp:List Int×α=>p.1)∘λp=>if p.1==k then(k,d)else p)=λp=>p.1:=by
   funext p;simp only[Function.comp];split
   ·rename_i H;exact(eq_of_beq H).symm
   rfl
  rw[this];exact h
 rename_i J;rw[cY,List.nodup_append];refine⟨h,by simp,λa I b A=>?_⟩;rintro rfl;obtain⟨p,G,rfl⟩:=bC.1 I;have A:=aN.1 A;exact J (cZ.2 ⟨p,G,by simpa using A⟩)
structure TmInv (t:Zb) (x:List Int) (C K:List (List Int×List Int)):Prop where
 c:∀p∈C,∃r a,StopIn (callsOf t) r a/\0<a/\p=([r,a],[comes t x r a])
 k:∀p∈K,∃r a,StopIn (callsOf t) r a/\p=([r,a],Zc4 (ZE t x r a))
 nd:(K.map (·.1)).Nodup
 ndc:(C.map (·.1)).Nodup
theorem TmInv.cv {t:Zb} {x:List Int} {C K:List (List Int×List Int)} (h:TmInv t x C K) {r a:Int} {v:List Int} (A:C.lookup [r,a]=some v):v=[comes t x r a]:=by
 obtain⟨H,G,_,_,e⟩:=h.c _ (ZbK A);cases e;rfl
theorem TmInv.kv {t:Zb} {x:List Int} {C K:List (List Int×List Int)} (h:TmInv t x C K) {r a:Int} {v:List Int} (A:K.lookup [r,a]=some v):v=Zc4 (ZE t x r a):=by
 obtain⟨H,G,_,e⟩:=h.k _ (ZbK A);cases e;rfl
theorem TmInv.putC {t:Zb} {x:List Int} {C K:List (List Int×List Int)} (h:TmInv t x C K) {r a:Int} (H:StopIn (callsOf t) r a) (I:0<a) {v:Int} (hv:comes t x r a=v):TmInv t x (JD C [r,a] [v]) K/\(JD C [r,a] [v]).lookup [r,a]=some [v]:=by
 have G:=Zeu (k:=[r,a]) (d:=[v]) h.ndc;refine⟨⟨λp A=>?_,h.k,h.nd,G⟩,ZcO G Zet⟩;rcases Zgp A with rfl|A
 ·exact⟨r,a,H,I,by rw[hv]⟩
 exact h.c p A
theorem TmInv.putK {t:Zb} {x:List Int} {C K:List (List Int×List Int)} (h:TmInv t x C K) {r a:Int} (G:StopIn (callsOf t) r a) {v:List Int} (hv:Zc4 (ZE t x r a)=v):TmInv t x C (JD K [r,a] v)/\(∀p∈K,p∈JD K [r,a] v)/\([r,a],v)∈JD K [r,a] v:=by
 have H:=Zeu (k:=[r,a]) (d:=v) h.nd;refine⟨⟨h.c,λp A=>?_,H,h.ndc⟩,λp A=>ZhW A λe=>?_,Zet⟩
 ·rcases Zgp A with rfl|A
  ·exact⟨r,a,G,by rw[hv]⟩
  exact h.k p A
 obtain⟨I,J,_,rfl⟩:=h.k p A;cases e;exact hv
def ZdK (c:List (List Call)):List (Int×Int):=(aP c.length).flatMap λ(r:Nat)=>(aP (Zl c r).length).map λ(a:Nat)=>((r:Int),(a:Int))
def Qt (t:Zb) (x:List Int):List (List Int×List Int):=(ZdK (callsOf t)).map λs=>([s.1,s.2],Zc4 (ZE t x s.1 s.2))
theorem J5 {c:List (List Call)} {r a:Int}:(r,a)∈ZdK c↔StopIn c r a:=by
 unfold ZdK StopIn;simp only[List.mem_flatMap,bC,bV,aK];constructor
 ·rintro⟨r',h1,a',h2,rfl,rfl⟩;omega
 rintro⟨h1,h2,h3,h4⟩;refine⟨r.toNat,by omega,a.toNat,?_,by omega,by omega⟩;rw[show((r.toNat:Nat):Int)=r by omega];omega
theorem Zb7 {c:List (List Call)}:(ZdK c).Nodup:=by
 unfold ZdK;refine List.pairwise_flatMap.2 ?_;refine⟨λr _=>List.Pairwise.map _ (λa b h e=>?_) List.nodup_range,List.nodup_range.imp λh=>?_⟩
 ·cases e;exact h rfl
 intro a A b G e;obtain⟨_,_,rfl⟩:=bC.1 A;obtain⟨_,_,rfl⟩:=bC.1 G;cases e;exact h rfl
theorem TmInv.perm {t:Zb} {x:List Int} {C K:List (List Int×List Int)} (h:TmInv t x C K) (A:∀r a,StopIn (callsOf t) r a->([r,a],Zc4 (ZE t x r a))∈K):K.Perm (Qt t x):=by
 have J:K.Nodup:=List.Pairwise.of_map (λp:List Int×List Int=>p.1) (λa b h e=>h (by rw[e])) h.nd
 have S:(Qt t x).Nodup:=List.Pairwise.map _ (λa b H e=>by
  apply H;simp only[aK,cC,and_true]at e
  exact iO e.1.1 e.1.2) Zb7
 rw[List.perm_iff_count];intro p;rw[J.count,S.count];have:p∈K↔p∈Qt t x:=by
  unfold Qt;rw[bC];constructor
  ·intro I;obtain⟨r,a,G,rfl⟩:=h.k p I;exact⟨(r,a),J5.2 G,rfl⟩
  rintro⟨⟨r,a⟩,G,rfl⟩;exact A r a (J5.1 G)
 simp only[this]
end Sp
namespace Vm
attribute [local irreducible] Dn
open Go Go.Proofs Sp
set_option maxRecDepth 100000
set_option maxHeartbeats 4000000
def tmH (W:List AV) (X:List AV) (C K:List (List Int×List Int)):List Zh:=[.cells [.iptr W 0],.cells X,.gob (.mapL 2 0 λ_=>C),.gob (.mapL 2 3 λ_=>K),.cells [.map 2],.cells [.map 3],
 .cells [.fn 179 [] [.ptr 5 0,.ptr 0 0,.ptr 7 0]],.cells [.fn 177 [] [.ptr 4 0,.ptr 0 0,.ptr 6 0,.ptr 1 0]]]
def ZjC (a b:Int):AV:=.agg [.int .i64 λ_=>a,.int .i64 λ_=>b]
def Zor (a b c:Int):AV:=.agg [.int .i64 λ_=>a,.int .i64 λ_=>b,.int .i64 λ_=>c]
theorem ZaM {A:(α:Type)->α->List α->Int->α} (O:∀(α:Type) (d:α) (l:List α) (i:Int),A α d l i=l.getD i.toNat d) (c:List (List Sp.Call)) (r:Int):Sp.Zl c r=A (List Sp.Call) [] c r:=by rw[O];rfl
theorem Zjs {A:(α:Type)->α->List α->Int->α} (O:∀(α:Type) (d:α) (l:List α) (i:Int),A α d l i=l.getD i.toNat d) (c:List (List Sp.Call)) (r a:Int):Zs c r a=A Sp.Call default (A (List Sp.Call) [] c r) a:=by rw[O,O];rfl
theorem J8 {c:List (List Sp.Call)} (G:Jg c) {r a:Int} (A:StopIn c r a):c.length<=4/\2<=(Sp.Zl c r).length/\(Sp.Zl c r).length<=4:=by
 have:=G.row (Sp.Zl c r) (by
  unfold Sp.Zl;have:r.toNat<c.length:=by have:=A.2.1;have:=A.1;omega
  rw[aA,aD this]
  exact bM _)
 exact⟨G.len,this⟩
theorem cL1 (l:List Nat) {f:FuncId} {xs I:List AV} {h J:List Zh} {G Q:AV->List Zh->Prop} (H:SC (λ_=>aB) f I J Q) (S:∀ r A,Q r A->G (ren (Jh l h.length) 5 r) (back l h A)) (Z:l.Nodup:=by decide) (U:∀ i∈l,i<h.length:=by simp) (Y:xs.map (QD false l h 5)=I:=by first|rfl|(simp only[Ze,Zd,Zf,Zc,Za O];rfl)) (V:sel false l h=J:=by first|rfl|(simp only[Ze,Zd,Zf,Zc,Za O];rfl)):SC (λ_=>aB) f xs h G:=ZU l H Z U Y V S
theorem Zwa (t:Zb) (x:List Int) (I:ZA t) (hx:YH t x) (n:Int)
  (ih:∀r a C K,StopIn (callsOf t) r a->2*(Zs (callsOf t) r a).depart+1<n->TmInv t x C K->SC (λ_=>aB) 179 [ZjC r a,.ptr 5 0,.ptr 0 0,.ptr 7 0] (tmH (ZZ t) (Yz x) C K) λv h=>v=Zor (ZE t x r a).comes (ZE t x r a).ready (ZE t x r a).goes/\∃J A,TmInv t x J A/\(∀p∈K,p∈A)/\([r,a],Zc4 (ZE t x r a))∈A/\h=tmH (ZZ t) (Yz x) J A)
  (r a:Int) (C K:List (List Int×List Int)) (G:StopIn (callsOf t) r a) (U:0<a) (hn:2*(Zs (callsOf t) r a).arrive<n+1) (hi:TmInv t x C K):
  SC (λ_=>aB) 177 [ZjC r a,.ptr 4 0,.ptr 0 0,.ptr 6 0,.ptr 1 0] (tmH (ZZ t) (Yz x) C K) λv h=>v= .int .i64 (λ_=>comes t x r a)/\∃J A,TmInv t x J A/\(∀p∈K,p∈A)/\h=tmH (ZZ t) (Yz x) J A:=by
 obtain⟨nt,O⟩:=Zm;have ak:=I.asc r a G U;have k:=ih r (a-1) C K (G.prev U) (by omega) hi;have k2:=Zyb t x r (a-1) hx I.dlen;have ar:=Zq9 I x G U;have Y:=Zjh I x (G.prev U);have au:=I.nn r a G;have aq:=I.nn r (a-1) (G.prev U);have ao:=Zd8 I x r (a-1);have aj:=λv=> @TmInv.cv t x C K hi r a v;have ac:=λJ A (h:TmInv t x J A) v (e:comes t x r a=v)=>h.putC G U e;have V:=G;unfold StopIn at V;have ae:=J8 I.calls G;have hE:comes t x r a=(ZE t x r (a-1)).goes+(Zs (callsOf t) r a).arrive-(Zs (callsOf t) r (a-1)).depart+Zdz t x r (a-1):=rfl;unfold goes at Y;rw[ZaM O]at Y V ae;rw[Zjs O]at*;rw[Zjs O]at*;unfold tmH ZjC Zor Yz at*;unfold ZZ at*;simp only[Za O,Zc]at*;generalize comes t x r a=e at*;generalize ZE t x r (a-1)=H at*;generalize Zdz t x r (a-1)=y at*;generalize am:callsOf t=c at*;refine SC.less (Qq Tryz.func177 (body:=Zj Tryz.f177) rfl (by decide+kernel) ?_);refine wS ?_;refine⟨λh0=>?_,λh0=>?_⟩
 ·refine wS ?_;have ab:((C.lookup [r,a]).getD []).headD 0=e:=by
   obtain⟨v,hv⟩:=dY.1 h0;rw[hv,aj v hv];rfl
  refine⟨_,_,?_,rfl,C,K,hi,λp S=>S,rfl⟩;exact ZB
 refine wS ?_;refine cL1 [0,1,2,3,4,5,6,7] (k) λr aa S=>?_;(try simp only[Ze,Zd,Zf,Zc,Za O]at S);obtain⟨rfl,Z,K2,ah,ai,_,rfl⟩:=S;refine wS ?_;refine ZN (k2) (by first|rfl|(simp only[Ze,Zd,Zf,Zc,Za O];rfl)) λr aa S=>?_;(try simp only[Ze,Zd,Zf,Zc,Za O]at S);obtain⟨rfl,rfl⟩:=S;refine wS ?_;rw[<-hE];have q:=ac Z K2 ah e rfl;have ab:((List.lookup [r,a] (JD Z [r,a] [e])).getD []).headD 0=e:=by rw[q.2];rfl
 refine⟨_,_,?_,rfl,JD Z [r,a] [e],K2,q.1,ai,rfl⟩;exact ZB
theorem Zv9 (t:Zb) (x:List Int) (I:ZA t) (hx:YH t x) (n:Int)
  (ih:∀r a C K,StopIn (callsOf t) r a->0<a->2*(Zs (callsOf t) r a).arrive<n->TmInv t x C K->SC (λ_=>aB) 177 [ZjC r a,.ptr 4 0,.ptr 0 0,.ptr 6 0,.ptr 1 0] (tmH (ZZ t) (Yz x) C K) λv h=>v= .int .i64 (λ_=>comes t x r a)/\∃Y J,TmInv t x Y J/\(∀p∈K,p∈J)/\h=tmH (ZZ t) (Yz x) Y J)
  (r a:Int) (C K:List (List Int×List Int)) (hs:StopIn (callsOf t) r a) (hn:2*(Zs (callsOf t) r a).depart+1<n+1) (hi:TmInv t x C K):
  SC (λ_=>aB) 179 [ZjC r a,.ptr 5 0,.ptr 0 0,.ptr 7 0] (tmH (ZZ t) (Yz x) C K) λv h=>v=Zor (ZE t x r a).comes (ZE t x r a).ready (ZE t x r a).goes/\∃Y J,TmInv t x Y J/\(∀p∈K,p∈J)/\([r,a],Zc4 (ZE t x r a))∈J/\h=tmH (ZZ t) (Yz x) Y J:=by
 obtain⟨nt,O⟩:=Zm;have az:=hs;unfold StopIn at az;have bl:=J8 I.calls hs;have ah:=λv=> @TmInv.kv t x C K hi r a v;have bg:∀v,K.lookup [r,a]=some v->([r,a],v)∈K:=λv h=>ZbK h;have H:=λY J (h:TmInv t x Y J) v (e:Zc4 (ZE t x r a)=v)=>h.putK hs e;have bh:=I.nn r a hs;have bm:=λh:0<a=>ih r a C K hs h (by have:=I.nn r a hs;omega) hi;obtain⟨ae,V⟩:∃m,m=if 0<a then comes t x r a else 0:=⟨_,rfl⟩
 obtain⟨rd,ab⟩:∃m,m=Zdo (callsOf t) r a ae:=⟨_,rfl⟩;obtain⟨gf,aj⟩:∃m,m=Zbg t (comes t x) r a rd:=⟨_,rfl⟩;obtain⟨cs,ac⟩:∃m,m=if a=0 then gf else ae:=⟨_,rfl⟩
 have ba:ZE t x r a=⟨cs,rd,gf⟩:=by
  rw[ZgU I x hs,ac,aj,ab,V];rfl
 obtain⟨W,hW⟩:∃W:Int->Sp.QH->Int,∀g w,W g w=if a=((Sp.Zl (callsOf t) r).length:Int)-1 then g else JS (callsOf t) (comes t x) r (Zs (callsOf t) r a) g w:=⟨_,λ_ _=>rfl⟩
 have aj:gf=t.waits.foldl W rd:=by
  rw[aj];unfold Zbg;split
  ·rename_i hl;have G:∀g w,W g w=g:=λg w=>by rw[hW,iP hl]
   generalize t.waits=l;induction l with
   |nil=>rfl
   |cons w l ih=>rw[dR,G];exact ih
  rename_i hl;exact ZaD _ _ λw _ g=>by rw[hW,iN hl]
 have bx:=I.wlen;have am:=λw (hw:w∈t.waits)=>And.intro (YR I hw) (And.intro (I.w w hw).2.2.1 (And.intro (I.w w hw).2.2.2.1 (I.w w hw).2.2.2.2.1));have aq:=λw (hw:w∈t.waits)=>J8 I.calls (YR I hw);have au:=λw (hw:w∈t.waits) (G:w.train=r) (h2:w.station=(Zs (callsOf t) r a).station) (h3:a≠((Sp.Zl (callsOf t) r).length:Int)-1) Y J (h:TmInv t x Y J)=>
  ih w.feeder (Zv (Sp.Zl (callsOf t) w.feeder) w.station) Y J (YR I hw) (by have:=(I.w w hw).2.2.1;omega) (by have:=(I.w w hw).2.2.2.2.2 a (by rw[G];exact hs) (by rw[G];exact h3) (by rw[G];exact h2.symm);rw[G]at this;omega) h
 unfold Zdo at ab;unfold JS at hW;unfold StopIn at am;rw[ba]at ah H|-;unfold Zc4 at ah H|-;dsimp only at ah H|-;simp only[ZaM O,Zjs O]at az bl bh ab hW am aq au;unfold tmH ZjC Zor Yz at*;unfold ZZ at*;simp only[Za O,Zc]at*;generalize bz:callsOf t=c at*;refine SC.less (ZkO false false [8,11] Tryz.func179 (body:=Zj Tryz.f179) rfl (by decide+kernel) ?_);refine wS ?_;refine⟨λh0=>?_,λh0=>?_⟩
 ·refine wS ?_;obtain⟨v,hv⟩:=dY.1 h0;have bk:=ah v hv;have U:=bg v hv;subst bk;simp only[hv];refine⟨_,_,?_,rfl,C,K,hi,λp A=>A,U,rfl⟩;exact ZB
 refine wS ?_;refine Zq7 false false [] 50 [1,2,3,4,5,8,9] (λ_=>[]) (λp:List (List Int×List Int)×List (List Int×List Int)=>[(2,.gob (.mapL 2 0 λ_=>p.1)),(3,.gob (.mapL 2 3 λ_=>p.2)),(12,.cells [.int .i64 λ_=>ae,.int .i64 λ_=>0,.int .i64 λ_=>0])]) (λp=>TmInv t x p.1 p.2/\∀q∈K,q∈p.2) (λ_ _ h=>h) (by decide) ?_ ?_
 ·refine wS ?_;refine⟨λG=>?_,λG=>?_⟩
  ·have G:=iW G;have k:=bm G;rw[iP G]at V;rw[<-V]at k;refine wS ?_;refine cL1 [0,1,2,3,4,5,6,7] (k) λr ao A=>?_;(try simp only[Ze,Zd,Zf,Zc,Za O]at A);obtain⟨rfl,C2,K2,aa,S,rfl⟩:=A;refine wS ?_;refine⟨(C2,K2),⟨aa,S⟩,?_⟩;exact ZB
  have G:=iX G;rw[iN G]at V;subst V;refine wS ?_;refine⟨(C,K),⟨hi,λ_ h=>h⟩,?_⟩;exact ZB
 intro p hh;refine wS ?_;obtain⟨C1,K1⟩:=p;obtain⟨bc,bo⟩:=hh;refine Zq7 false false [] 40 [1,2,3,4,5,8,9] (λ_:Unit=>[]) (λ_=>[(12,.cells [.int .i64 λ_=>ae,.int .i64 λ_=>rd,.int .i64 λ_=>0])]) (λ_=>True) (λ_ _ h=>h) (by decide) ?_ ?_
 ·refine wS ?_;refine⟨λh2=>?_,λh2=>?_⟩
  ·have h2:=eq_of_beq h2;rw[iP h2]at ab;subst ab;refine wS ?_;refine⟨(),trivial,?_⟩;exact ZB
  have h2:=ne_of_beq_false h2;rw[iN h2,iQ]at ab;refine wS ?_;refine⟨(),trivial,?_⟩;exact ZB
 intro _ _;refine wS ?_;refine XD λQ hQ=>?_;refine ZG false false [] [1,2,3,4,5,8,9,69,70,71] [] (λp:Nat×(List (List Int×List Int)×List (List Int×List Int))×Int=>[(71,.int .i64 λ_=>(p.1:Int))]) (λp=>[(2,.gob (.mapL 2 0 λ_=>p.2.1.1)),(3,.gob (.mapL 2 3 λ_=>p.2.1.2)),(12,.cells [.int .i64 λ_=>ae,.int .i64 λ_=>rd,.int .i64 λ_=>p.2.2])])
  (λp=>p.1<=t.waits.length/\TmInv t x p.2.1.1 p.2.1.2/\(∀q∈K,q∈p.2.1.2)/\gf=(t.waits.drop p.1).foldl W p.2.2) (λp=>t.waits.length-p.1+0) (0,(C1,K1),rd) ⟨by omega,bc,bo,aj⟩ ?_ ?_
 ·exact ZB
 intro p hh;refine wS ?_;have b9:=hh.1;have aa:=hh.2.1;have S:=hh.2.2.1;have A:=hh.2.2.2;clear hh;refine⟨λhb=>?_,λhb=>?_⟩;case refine_2=>
  simp only[iV]at hb;rw[List.drop_eq_nil_of_le (by omega),List.foldl_nil]at A;subst A;refine wS ?_;refine hQ _ _ _ ?_;refine wS ?_;refine⟨λh5=>?_,λh5=>?_⟩
  ·have h5:a=0:=eq_of_beq h5;rw[iP h5]at ac;have q:=H p.2.1.1 p.2.1.2 aa _ rfl;refine wS ?_;refine⟨_,_,?_,rfl,p.2.1.1,JD p.2.1.2 [r,a] [cs,rd,p.2.2],q.1,λz hz=>q.2.1 z (S z hz),q.2.2,rfl⟩;refine Ji ?_;rw[ac];exact ZK.refl _
  have h5:a≠0:=ne_of_beq_false h5;rw[iN h5]at ac;have q:=H p.2.1.1 p.2.1.2 aa _ rfl;refine wS ?_;refine⟨_,_,?_,rfl,p.2.1.1,JD p.2.1.2 [r,a] [cs,rd,p.2.2],q.1,λz hz=>q.2.1 z (S z hz),q.2.2,rfl⟩;refine Ji ?_;rw[ac];exact ZK.refl _
 simp only[iU]at hb;have bq:=Qs (d:=default) O (l:=t.waits) (i:=p.1) (by omega);rw[bq,dR]at A;have U:nt Sp.QH default t.waits p.1∈t.waits:=Qr O (by omega);have bu:=am _ U;have bt:=aq _ U;have ar:=au _ U;have Z:=hW p.2.2 (nt Sp.QH default t.waits p.1);generalize hd:nt Sp.QH default t.waits p.1=w at*;refine vS ?_;simp only[hd];refine Chk.mk (ZH) ?_;generalize hL:((nt (List Sp.Call) [] c r).length:Int)-1=L at*;generalize hX:(nt Sp.Call default (nt (List Sp.Call) [] c r) a).station=X at*;refine⟨λh3=>?_,λh3=>?_⟩
 ·have hk:W p.2.2 w=p.2.2:=by
   rw[Z];by_cases e3:a=L
   ·rw[iP e3]
   rw[iN e3];by_cases e1:w.train=r
   ·by_cases e2:w.station=X
    ·simp[e1,e2,e3]at h3
    rw[iP (.inr e2)]
   rw[iP (.inl e1)]
  rw[hk]at A;refine wS ?_;refine⟨(p.1+1,p.2),⟨by show p.1+1<=_;omega,aa,S,A⟩,by show t.waits.length-(p.1+1)+0<t.waits.length-p.1+0;omega,?_⟩;exact ZB
 have q:w.train=r/\w.station=X/\a≠L:=by
  by_cases e1:w.train=r
  ·by_cases e2:w.station=X
   ·by_cases e3:a=L
    ·simp[e1,e2,e3]at h3
    exact⟨e1,e2,e3⟩
   simp[e1,e2]at h3
  simp[e1]at h3
 have k3:=ar q.1 q.2.1 q.2.2 _ _ aa;rw[iN q.2.2,iN (by omega)]at Z;clear ar;generalize hF:nt (List Sp.Call) [] c w.feeder=F at*;have ak:=Zvz F w.station (by omega);simp only[Za O]at ak;generalize Zv F w.station=f at*;generalize comes t x w.feeder f=ai at*;refine vS ?_;try simp only[hd,hF]
 try refine Chk.mk (ZH) ?_
 refine ZN (ak) (by first|rfl|(simp only[Ze,Zd,Zf,Zc,Za O];rfl)) λr ao A=>?_;(try simp only[Ze,Zd,Zf,Zc,Za O]at A);obtain⟨rfl,rfl⟩:=A;refine vS ?_;try simp only[hd,hF]
 try refine Chk.mk (ZH) ?_
 refine cL1 [0,1,2,3,4,5,6,7] (k3) λr ao A=>?_;(try simp only[Ze,Zd,Zf,Zc,Za O]at A);obtain⟨rfl,C3,K3,a9,aw,rfl⟩:=A;refine vS ?_;try simp only[hd,hF]
 try refine Chk.mk (ZH) ?_
 refine⟨λh4=>?_,λh4=>?_⟩
 ·have h4:=iW h4;rw[iP h4,iQ]at Z;rw[Z]at A;generalize bp:(if p.2.2<=ai then ai else p.2.2)=g2 at*;have bw:(if p.2.2<ai then ai else p.2.2)=g2:=by rw[<-bp];split<;>split<;>omega
  refine wS ?_;refine⟨(p.1+1,(C3,K3),g2),⟨by show p.1+1<=_;omega,a9,λz hz=>aw z (S z hz),A⟩,by show t.waits.length-(p.1+1)+0<t.waits.length-p.1+0;omega,?_⟩;exact ZB
 have h4:=iX h4;rw[iN h4]at Z;rw[Z]at A;refine wS ?_;refine⟨(p.1+1,(C3,K3),p.2.2),⟨by show p.1+1<=_;omega,a9,λz hz=>aw z (S z hz),A⟩,by show t.waits.length-(p.1+1)+0<t.waits.length-p.1+0;omega,?_⟩;exact ZB
theorem ZtH (t:Zb) (x:List Int) (H:ZA t) (S:YH t x):∀n:Nat,
  (∀r a C K,StopIn (callsOf t) r a->0<a->2*(Zs (callsOf t) r a).arrive<n->TmInv t x C K->SC (λ_=>aB) 177 [ZjC r a,.ptr 4 0,.ptr 0 0,.ptr 6 0,.ptr 1 0] (tmH (ZZ t) (Yz x) C K) λv h=>v= .int .i64 (λ_=>comes t x r a)/\∃I A,TmInv t x I A/\(∀p∈K,p∈A)/\h=tmH (ZZ t) (Yz x) I A)/\
  (∀r a C K,StopIn (callsOf t) r a->2*(Zs (callsOf t) r a).depart+1<n->TmInv t x C K->SC (λ_=>aB) 179 [ZjC r a,.ptr 5 0,.ptr 0 0,.ptr 7 0] (tmH (ZZ t) (Yz x) C K) λv h=>v=Zor (ZE t x r a).comes (ZE t x r a).ready (ZE t x r a).goes/\∃I A,TmInv t x I A/\(∀p∈K,p∈A)/\([r,a],Zc4 (ZE t x r a))∈A/\h=tmH (ZZ t) (Yz x) I A)
 |0=>⟨λr a C K G _ U=>by have:=H.nn r a G;omega,λr a C K G U=>by have:=H.nn r a G;omega⟩
 |n+1=>by
  have V:=ZtH t x H S n;exact⟨λr a C K G Y U J=>Zwa t x H S n V.2 r a C K G Y (by omega) J,λr a C K G U J=>Zv9 t x H S n V.1 r a C K G (by omega) J⟩
theorem Zxe (t:Zb) (x:List Int) (J:ZA t) (hx:YH t x):SC (λ_=>aB) 137 [.iptr (ZZ t) 0,.agg (Yz x)] [] λv h=>v= .imap 2 3 (λ_=>Qt t x)/\h=[]:=by
 obtain⟨S,O⟩:=Zm;have k:=λr a C K (Z:StopIn (callsOf t) r a) (hi:TmInv t x C K)=>(ZtH t x J hx (2*(Zs (callsOf t) r a).depart+2).toNat).2 r a C K Z (by have:=J.nn r a Z;omega) hi;have V:=λC K (h:TmInv t x C K)=>h.perm;have h0:TmInv t x [] []:=⟨λp h=>(by cases h),λp h=>(by cases h),.nil,.nil⟩;have aq:=J.calls.len;have ar:=λr a (Z:StopIn (callsOf t) r a)=>J8 J.calls Z
 have ak:∀r,0<=r->r<(callsOf t).length->2<=(Sp.Zl (callsOf t) r).length/\(Sp.Zl (callsOf t) r).length<=4:=λr I H=>J.calls.row _ (by
  unfold Sp.Zl;rw[aA,aD (by omega)]
  exact bM _)
 unfold StopIn at*;simp only[ZaM O]at*;generalize hG:Qt t x=G at*;generalize au:ZE t x=HH at*;unfold tmH ZjC Zor Yz at*;unfold ZZ at*;simp only[Za O,Zc]at*;generalize aw:callsOf t=c at*;refine SC.less (Qq Tryz.func137 (body:=Zj Tryz.f137) rfl (by decide+kernel) ?_);refine wS ?_;refine ZG false false [] [6,7,19,20,21] [] (λp:Nat×List (List Int×List Int)×List (List Int×List Int)=>[(21,.int .i64 λ_=>(p.1:Int))]) (λp=>[(2,.gob (.mapL 2 0 λ_=>p.2.1)),(3,.gob (.mapL 2 3 λ_=>p.2.2))])
  (λp=>p.1<=c.length/\TmInv t x p.2.1 p.2.2/\∀r a:Int,0<=r->r<p.1->0<=a->a<(S (List Sp.Call) [] c r).length->([r,a],Zc4 (HH r a))∈p.2.2) (λp=>c.length-p.1+0) (0,[],[]) ⟨by omega,h0,λr a I H=>by simp at H;omega⟩ ?_ ?_
 ·exact ZB
 intro p A;refine wS ?_;have a9:=A.1;have aa:=A.2.1;have ae:=A.2.2;clear A;refine⟨λhb=>?_,λhb=>?_⟩;case refine_2=>
  simp only[iV]at hb;refine wS ?_;have Y:=V p.2.1 p.2.2 aa λr a h=>ae r a h.1 (by omega) h.2.2.1 h.2.2.2;refine⟨_,[],?_,rfl,rfl⟩;refine Ji ?_;exact Zz.imap Y
 simp only[iU]at hb;have ba:=ak p.1 (by omega) (by omega);refine wS ?_;refine XD λQ hQ=>?_;refine ZG false false [] [6,7,9,19,20,21,27,28] [] (λq:Nat×List (List Int×List Int)×List (List Int×List Int)=>[(28,.int .i64 λ_=>(q.1:Int))]) (λq=>[(2,.gob (.mapL 2 0 λ_=>q.2.1)),(3,.gob (.mapL 2 3 λ_=>q.2.2))])
  (λq=>q.1<=(S (List Sp.Call) [] c p.1).length/\TmInv t x q.2.1 q.2.2/\(∀z∈p.2.2,z∈q.2.2)/\∀a:Int,0<=a->a<q.1->([(p.1:Int),a],Zc4 (HH p.1 a))∈q.2.2) (λq=>(S (List Sp.Call) [] c p.1).length-q.1+0) (0,p.2) ⟨by omega,aa,λ_ h=>h,λa I H=>by simp at H;omega⟩ ?_ ?_
 ·exact ZB
 intro q A;refine wS ?_;have az:=A.1;have ab:=A.2.1;have ah:=A.2.2.1;have ai:=A.2.2.2;clear A;refine⟨λU=>?_,λU=>?_⟩;case refine_2=>
  simp only[iV]at U;refine wS ?_;refine hQ _ _ _ ?_;refine wS ?_;refine⟨(p.1+1,q.2),⟨by show p.1+1<=_;omega,ab,λr a I H h3 h4=>?_⟩,by show c.length-(p.1+1)+0<c.length-p.1+0;omega,?_⟩
  ·by_cases he:r=p.1
   ·subst he;exact ai a h3 (by omega)
   exact ah _ (ae r a I (by have:r<((p.1+1:Nat):Int):=H;omega) h3 h4)
  exact ZB
 simp only[iU]at U;have k2:=k p.1 q.1 _ _ ⟨by omega,by omega,by omega,by omega⟩ ab;refine wS ?_;refine cL1 [0,1,2,3,4,5,6,7] (k2) λr ao Y=>?_;(try simp only[Ze,Zd,Zf,Zc,Za O]at Y);obtain⟨rfl,C3,K3,am,ac,aj,rfl⟩:=Y;refine wS ?_;refine⟨(q.1+1,C3,K3),⟨by show q.1+1<=_;omega,am,λz hz=>ac z (ah z hz),λa I H=>?_⟩,by show(S (List Sp.Call) [] c p.1).length-(q.1+1)+0<(S (List Sp.Call) [] c p.1).length-q.1+0;omega,?_⟩
 ·by_cases he:a=q.1
  ·subst he;exact aj
  exact ac _ (ai a I (by have:a<((q.1+1:Nat):Int):=H;omega))
 exact ZB
def Yy (t:Zb):AV:=.iptr [.iptr (ZZ t) 0] 0
theorem Z8 {x:List Int} {e v:Int} {k j:Nat} (A:e=k) (G:k<x.length):(bif decide (e=(j:Int))then v else x.getD j 0)=(x.set k v).getD j 0:=by
 subst A;by_cases h:k=j
 ·subst h;rw[aA (l:=x.set k v),cV G];simp
 rw[aA (l:=x.set k v),cU h,<-aA,iY (by omega)];rfl
theorem Zyc (t:Zb) (hf:ZA t) (I S Z J V U Y H:Nat->Zh) (stop:Nat->Bool)
  (hs:∀i X,sel true [0,1,2,3,4,5,6,7] [I i,S i,Z i,J i,V i,U i,Y i,H i,X]=[I i,S i,Z i,J i,V i,U i,Y i,H i])
  (aj:∀i (f0 f1 f2 f3 f4 f5:Unit->Int),sel true [0,1,2,3,4,5,6,7,8] [I i,S i,Z i,J i,V i,U i,Y i,H i,.cells [.int .i64 f0,.int .i64 f1,.int .i64 f2,.int .i64 f3,.int .i64 f4,.int .i64 f5]]=[I i,S i,Z i,J i,V i,U i,Y i,H i,.cells [.int .i64 f0,.int .i64 f1,.int .i64 f2,.int .i64 f3,.int .i64 f4,.int .i64 f5]])
  (aq:∀i X,sel false [0,1,2,3,4,5,6,7] [I i,S i,Z i,J i,V i,U i,Y i,H i,X]=[I i,S i,Z i,J i,V i,U i,Y i,H i])
  (au:∀i j X,back [0,1,2,3,4,5,6,7] [I i,S i,Z i,J i,V i,U i,Y i,H i,X] [I j,S j,Z j,J j,V j,U j,Y j,H j]=[I j,S j,Z j,J j,V j,U j,Y j,H j,X])
  (hy:∀i,i<manyT t->(∀j,j<i->stop j=false)->YC (λ_=>aB) 7 [.agg (Yz (Zi t i))] [I i,S i,Z i,J i,V i,U i,Y i,H i] λv h=>v= .bool (λ_=> !stop i)/\h=[I (i+1),S (i+1),Z (i+1),J (i+1),V (i+1),U (i+1),Y (i+1),H (i+1)])
  (hB:zOk [I 0,S 0,Z 0,J 0,V 0,U 0,Y 0,H 0]=true:=by rfl):
  SC (λ_=>aB) 176 [.yld 7,Yy t] [I 0,S 0,Z 0,J 0,V 0,U 0,Y 0,H 0] λv h=>∃m,EndAt stop (manyT t) m/\h=[I m,S m,Z m,J m,V m,U m,Y m,H m]:=by
 obtain⟨nt,O⟩:=Zm;have ai:=Xn hf;have ak:=λn=> @ZdI t hf n;have ba:=Zki hf;have bh:=hf.dlen;have az:=ZdH hf;have ae:∀k,k<t.delays.length->lenAt t.delays k<=3:=λk h=>by
  unfold lenAt;rw[aA,aD h];exact(hf.d _ (bM h)).2.1
 have aw:∀k:Nat,(nt Sp.ZR default t.delays (k:Int)).by_.length=lenAt t.delays k:=λk=>by rw[O];rfl
 have a9:∀n k,0<=(Zi t n).getD k 0/\(Zi t n).getD k 0<=3:=λn k=>by
  by_cases h:k<t.delays.length
  ·have h1:=(ai n).d k h;have h2:=ae k h;unfold lenAt at h2;omega
  have:=Jb (ds:=t.delays) t.delays.length n k (by omega);unfold Zi;omega
 generalize manyT t=N at*;generalize Zi t=TA at*;unfold Yy ZZ;simp only[Za O,Zc,Zp];refine Qq Tryz.func176 (body:=Zj Tryz.f176) rfl (by decide+kernel) ?_ hB;refine wS ?_;refine ZG false false [] [0,1,3] [] (λ(i:Nat)=>[]) (λi=>[(0,I i),(1,S i),(2,Z i),(3,J i),(4,V i),(5,U i),(6,Y i),(7,H i),(8,.cells (Yz (TA i)))]) (λi=>i<N/\∀j,j<i->stop j=false) (λi=>N-i+0) 0 ⟨by omega,λj h=>by omega⟩ ?_ ?_
 ·unfold Yz;rw[az];have A:=aj 0 (λ_=>0) (λ_=>0) (λ_=>0) (λ_=>0) (λ_=>0) (λ_=>0);cbv at A;simp only[cC,and_true]at A;obtain⟨e0,e1,e2,e3,e4,e5,e6,e7⟩:=A;(refine To.of [] ?_;cbv;(try simp only[nc]);(repeat' first|exact xT|refine⟨?_,?_⟩|refine ZK.cells ?_|refine Zz.agg ?_|refine Zz.tup ?_);all_goals try exact XU);all_goals first|(rw[e0];exact ZK.refl _)|(rw[e1];exact ZK.refl _)|(rw[e2];exact ZK.refl _)|(rw[e3];exact ZK.refl _)|(rw[e4];exact ZK.refl _)|(rw[e5];exact ZK.refl _)|(rw[e6];exact ZK.refl _)|(rw[e7];exact ZK.refl _)
 intro i hh;unfold Yz at*;refine wS ?_;have hi:=hh.1;have ac:=hh.2;have G:=ak i hi;refine YC.frameB [0,1,2,3,4,5,6,7] (by decide) (by simp) rfl rfl (aq i _) (hy i hi ac) (au i (i+1) _) ?_;refine wS ?_;refine⟨λab=>?_,λab=>?_⟩
 ·have ab:stop i=true:=by simpa using ab
  have A:=λX=>hs (i+1) X;refine wS ?_;refine⟨i+1,.inr ⟨i,rfl,hi,ab,ac⟩,?_⟩;have A:=A (.cells [.int .i64 λ_=>(TA i).getD 0 0,.int .i64 λ_=>(TA i).getD 1 0,.int .i64 λ_=>(TA i).getD 2 0,.int .i64 λ_=>(TA i).getD 3 0,.int .i64 λ_=>(TA i).getD 4 0,.int .i64 λ_=>(TA i).getD 5 0]);cbv at A;simp only[cC,and_true]at A|-;exact A
 have ab:stop i=false:=by simpa using ab
 refine wS ?_;refine XD λQ hQ=>?_;refine ZG false false [] [0,1,3,4] [] (λp:Nat×List Int=>[(4,.int .i64 λ_=>(p.1:Int)-1)]) (λp=>[(8,.cells [.int .i64 λ_=>p.2.getD 0 0,.int .i64 λ_=>p.2.getD 1 0,.int .i64 λ_=>p.2.getD 2 0,.int .i64 λ_=>p.2.getD 3 0,.int .i64 λ_=>p.2.getD 4 0,.int .i64 λ_=>p.2.getD 5 0])])
  (λp=>p.1<=t.delays.length/\p.2.length=6/\(∀k,0<=p.2.getD k 0/\p.2.getD k 0<=3)/\Sp.stepT t.delays t.delays.length (TA i)=Sp.stepT t.delays p.1 p.2) (λp=>p.1+0) (t.delays.length,TA i) ⟨aI _,(ai i).len,a9 i,rfl⟩ ?_ ?_
 ·exact ZB
 intro p hp;refine vS ?_;have hm:=hp.1;have ar:=hp.2.1;have ao:=hp.2.2.1;have aa:=hp.2.2.2;clear hp;by_cases h0:p.1=0
 ·rw[h0,Sp.stepT]at aa;rw[aa]at G;have bc:¬i+1<N:=λh=>by rw[iP h]at G;cases G
  refine Chk.mk (ZH) ?_;refine Br.isF (by show(bif decide (0<=(p.1:Int)-1)then _ else false)=false;rw[iY (by omega)];rfl) ?_;refine wS ?_;refine hQ _ _ _ ?_;refine wS ?_;refine Br.isT (iZ (by show(p.1:Int)-1<0;omega)) ?_;refine wS ?_;have A:=hs (i+1) (.cells [.int .i64 λ_=>p.2.getD 0 0,.int .i64 λ_=>p.2.getD 1 0,.int .i64 λ_=>p.2.getD 2 0,.int .i64 λ_=>p.2.getD 3 0,.int .i64 λ_=>p.2.getD 4 0,.int .i64 λ_=>p.2.getD 5 0]);cbv at A;simp only[cC,and_true]at A;refine⟨i+1,.inl ⟨by omega,λj hj=>?_⟩,?_⟩
  ·by_cases h:j=i
   ·rw[h];exact ab
   exact ac j (by omega)
  simp only[cC,and_true];exact A
 obtain⟨k,hk⟩:∃k,p.1=k+1:=⟨p.1-1,by omega⟩;have e1:=ZfP (x:=p.2) (e:=(p.1:Int)-1) (i:=k) (by omega) (by omega);have e2:(nt Sp.ZR default t.delays ((p.1:Int)-1)).by_.length=lenAt t.delays k:=by rw[show(p.1:Int)-1=(k:Int) by omega];exact aw k
 have bk:=ae k (by omega);have bg:=ao k;refine Chk.mk (ZH) ?_;refine⟨λh1=>?_,λh1=>?_⟩
 ·have h1:p.2.getD k 0=(lenAt t.delays k:Int)-1:=by
   rw[iZ (by omega),e1,e2]at h1;exact eq_of_beq h1
  rw[hk,Sp.stepT,iP h1]at aa;refine wS ?_;refine⟨(k,p.2.set k 0),⟨by show k<=_;omega,by show(p.2.set k 0).length=6;rw[bP];exact ar,λj=>?_,aa⟩,by show k+0<p.1+0;omega,?_⟩
  ·show 0<=(p.2.set k 0).getD j 0/\(p.2.set k 0).getD j 0<=3;rw[<-Z8 (e:=(k:Int)) rfl (by omega)];have:=ao j;cases decide ((k:Int)=j)
   ·exact this
   exact⟨bS _,by show(0:Int)<=3;decide⟩
  have g0:=Z8 (x:=p.2) (e:=(p.1:Int)-1) (k:=k) (j:=0) (v:=0) (by omega) (by omega);have g1:=Z8 (x:=p.2) (e:=(p.1:Int)-1) (k:=k) (j:=1) (v:=0) (by omega) (by omega);have g2:=Z8 (x:=p.2) (e:=(p.1:Int)-1) (k:=k) (j:=2) (v:=0) (by omega) (by omega);have g3:=Z8 (x:=p.2) (e:=(p.1:Int)-1) (k:=k) (j:=3) (v:=0) (by omega) (by omega);have g4:=Z8 (x:=p.2) (e:=(p.1:Int)-1) (k:=k) (j:=4) (v:=0) (by omega) (by omega);have g5:=Z8 (x:=p.2) (e:=(p.1:Int)-1) (k:=k) (j:=5) (v:=0) (by omega) (by omega);have A:=aj (i+1) (λ_=>bif decide ((p.1:Int)-1=((0:Nat):Int))then 0 else p.2.getD 0 0) (λ_=>bif decide ((p.1:Int)-1=((1:Nat):Int))then 0 else p.2.getD 1 0) (λ_=>bif decide ((p.1:Int)-1=((2:Nat):Int))then 0 else p.2.getD 2 0) (λ_=>bif decide ((p.1:Int)-1=((3:Nat):Int))then 0 else p.2.getD 3 0) (λ_=>bif decide ((p.1:Int)-1=((4:Nat):Int))then 0 else p.2.getD 4 0) (λ_=>bif decide ((p.1:Int)-1=((5:Nat):Int))then 0 else p.2.getD 5 0);cbv at A;simp only[cC,and_true]at A;obtain⟨e3,e4,e5,e6,e7,e8,e9,ah⟩:=A;(refine To.of [] ?_;cbv;(try simp only[nc]);(repeat' first|exact xT|refine⟨?_,?_⟩|refine ZK.cells ?_|refine Zz.agg ?_|refine Zz.tup ?_);all_goals try exact XU);all_goals first|(rw[e3];exact ZK.refl _)|(rw[e4];exact ZK.refl _)|(rw[e5];exact ZK.refl _)|(rw[e6];exact ZK.refl _)|(rw[e7];exact ZK.refl _)|(rw[e8];exact ZK.refl _)|(rw[e9];exact ZK.refl _)|(rw[ah];exact ZK.refl _)
 have h1:p.2.getD k 0≠(lenAt t.delays k:Int)-1:=by
  rw[iZ (by omega),e1,e2]at h1;exact ne_of_beq_false h1
 rw[hk,Sp.stepT,iN h1]at aa;rw[aa]at G;have am:i+1<N:=by
  by_cases h:i+1<N
  ·exact h
  rw[iN h]at G;cases G
 rw[iP am]at G;have G:=Option.some.inj G;refine wS ?_;refine hQ _ _ _ ?_;refine wS ?_;refine Br.isF (iY (by show¬(p.1:Int)-1<0;omega)) ?_;refine vS ?_;simp only[e1];refine Chk.mk (ZH) ?_;have A:=aj (i+1) (λ_=>bif decide ((p.1:Int)-1=((0:Nat):Int))then p.2.getD k 0+1 else p.2.getD 0 0) (λ_=>bif decide ((p.1:Int)-1=((1:Nat):Int))then p.2.getD k 0+1 else p.2.getD 1 0) (λ_=>bif decide ((p.1:Int)-1=((2:Nat):Int))then p.2.getD k 0+1 else p.2.getD 2 0) (λ_=>bif decide ((p.1:Int)-1=((3:Nat):Int))then p.2.getD k 0+1 else p.2.getD 3 0) (λ_=>bif decide ((p.1:Int)-1=((4:Nat):Int))then p.2.getD k 0+1 else p.2.getD 4 0) (λ_=>bif decide ((p.1:Int)-1=((5:Nat):Int))then p.2.getD k 0+1 else p.2.getD 5 0);cbv at A;simp only[cC,and_true]at A;obtain⟨e3,e4,e5,e6,e7,e8,e9,ah⟩:=A;refine⟨i+1,⟨am,λj hj=>?_⟩,by show N-(i+1)+0<N-i+0;omega,?_⟩
 ·by_cases h:j=i
  ·rw[h];exact ab
  exact ac j (by omega)
 rw[<-G];have g0:=Z8 (x:=p.2) (e:=(p.1:Int)-1) (k:=k) (j:=0) (v:=p.2.getD k 0+1) (by omega) (by omega);have g1:=Z8 (x:=p.2) (e:=(p.1:Int)-1) (k:=k) (j:=1) (v:=p.2.getD k 0+1) (by omega) (by omega);have g2:=Z8 (x:=p.2) (e:=(p.1:Int)-1) (k:=k) (j:=2) (v:=p.2.getD k 0+1) (by omega) (by omega);have g3:=Z8 (x:=p.2) (e:=(p.1:Int)-1) (k:=k) (j:=3) (v:=p.2.getD k 0+1) (by omega) (by omega);have g4:=Z8 (x:=p.2) (e:=(p.1:Int)-1) (k:=k) (j:=4) (v:=p.2.getD k 0+1) (by omega) (by omega);have g5:=Z8 (x:=p.2) (e:=(p.1:Int)-1) (k:=k) (j:=5) (v:=p.2.getD k 0+1) (by omega) (by omega);(refine To.of [] ?_;cbv;(try simp only[nc]);(repeat' first|exact xT|refine⟨?_,?_⟩|refine ZK.cells ?_|refine Zz.agg ?_|refine Zz.tup ?_);all_goals try exact XU);all_goals first|(rw[e3];exact ZK.refl _)|(rw[e4];exact ZK.refl _)|(rw[e5];exact ZK.refl _)|(rw[e6];exact ZK.refl _)|(rw[e7];exact ZK.refl _)|(rw[e8];exact ZK.refl _)|(rw[e9];exact ZK.refl _)|(rw[ah];exact ZK.refl _)
def ZuD:Zh->Bool
 |.fam .. =>false
 |_=>true
structure QP (n:Nat) (B:Zh):Prop where
 s:∀fz ι h,(∀j,j<n->Qv j ι 0=some j)->ZT fz ι h B=B
 r:∀φ:Nat->Nat,(∀j,j<n->φ j=j)->Xz φ B=B
 z:ZuD B=true
theorem QP.mono {n m:Nat} {B:Zh} (h:QP n B) (S:n<=m):QP m B:=⟨λG J k A=>h.s G J k λj I=>A j (by omega),λH A=>h.r H λj I=>A j (by omega),h.z⟩
theorem QP.wk {n N k:Nat} {B:Zh} (h:QP n B) {fz:Bool} {ι:List Nat} {H:List Zh} (A:∀j,j<n->Qv j ι 0=some j):ZK N k (ZT fz ι H B) B:=by
 rw[h.s _ _ _ A];exact ZK.refl _
theorem Zem {h:List Zh} (G:∀b∈h,ZuD b=true):zOk h=true:=by
 unfold zOk;rw[bL];intro b A;have:=G b A;cases b<;>first|rfl|cases this
theorem Zw2 (t:Zb) (hf:ZA t) (H J Y I U S V G:Nat->Zh) (stop:Nat->Bool)
  (h0:∀i,QP 8 (H i)) (h1:∀i,QP 8 (J i)) (h2:∀i,QP 8 (Y i)) (h3:∀i,QP 8 (I i)) (h4:∀i,QP 8 (U i)) (h5:∀i,QP 8 (S i)) (h6:∀i,QP 8 (V i)) (h7:∀i,QP 8 (G i))
  (hy:∀i,i<manyT t->(∀j,j<i->stop j=false)->YC (λ_=>aB) 7 [.agg (Yz (Zi t i))] [H i,J i,Y i,I i,U i,S i,V i,G i] λv h=>v= .bool (λ_=> !stop i)/\h=[H (i+1),J (i+1),Y (i+1),I (i+1),U (i+1),S (i+1),V (i+1),G (i+1)]):
  SC (λ_=>aB) 176 [.yld 7,Yy t] [H 0,J 0,Y 0,I 0,U 0,S 0,V 0,G 0] λv h=>∃m,EndAt stop (manyT t) m/\h=[H m,J m,Y m,I m,U m,S m,V m,G m]:=by
 have A:∀j,j<8->Qv j [0,1,2,3,4,5,6,7] 0=some j:=by decide
 have Z:∀j,j<8->Qv j [0,1,2,3,4,5,6,7,8] 0=some j:=by decide
 have f7:∀j,j<8->Jh [0,1,2,3,4,5,6,7] 9 j=j:=by decide
 refine Zyc t hf H J Y I U S V G stop (λi X=>?_) (λi f0 f1 f2 f3 f4 f5=>?_) (λi X=>?_) (λi j X=>?_) hy (Zem λb hb=>?_)
 ·show [ZT true _ _ (H i),ZT true _ _ (J i),ZT true _ _ (Y i),ZT true _ _ (I i),ZT true _ _ (U i),ZT true _ _ (S i),ZT true _ _ (V i),ZT true _ _ (G i)]=_;rw[(h0 i).s _ _ _ A,(h1 i).s _ _ _ A,(h2 i).s _ _ _ A,(h3 i).s _ _ _ A,(h4 i).s _ _ _ A,(h5 i).s _ _ _ A,(h6 i).s _ _ _ A,(h7 i).s _ _ _ A]
 ·show [ZT true _ _ (H i),ZT true _ _ (J i),ZT true _ _ (Y i),ZT true _ _ (I i),ZT true _ _ (U i),ZT true _ _ (S i),ZT true _ _ (V i),ZT true _ _ (G i),_]=_;rw[(h0 i).s _ _ _ Z,(h1 i).s _ _ _ Z,(h2 i).s _ _ _ Z,(h3 i).s _ _ _ Z,(h4 i).s _ _ _ Z,(h5 i).s _ _ _ Z,(h6 i).s _ _ _ Z,(h7 i).s _ _ _ Z];rfl
 ·show [ZT false _ _ (H i),ZT false _ _ (J i),ZT false _ _ (Y i),ZT false _ _ (I i),ZT false _ _ (U i),ZT false _ _ (S i),ZT false _ _ (V i),ZT false _ _ (G i)]=_;rw[(h0 i).s _ _ _ A,(h1 i).s _ _ _ A,(h2 i).s _ _ _ A,(h3 i).s _ _ _ A,(h4 i).s _ _ _ A,(h5 i).s _ _ _ A,(h6 i).s _ _ _ A,(h7 i).s _ _ _ A]
 ·show [Xz (Jh [0,1,2,3,4,5,6,7] 9) (H j),Xz (Jh [0,1,2,3,4,5,6,7] 9) (J j),Xz (Jh [0,1,2,3,4,5,6,7] 9) (Y j),Xz (Jh [0,1,2,3,4,5,6,7] 9) (I j),Xz (Jh [0,1,2,3,4,5,6,7] 9) (U j),Xz (Jh [0,1,2,3,4,5,6,7] 9) (S j),Xz (Jh [0,1,2,3,4,5,6,7] 9) (V j),Xz (Jh [0,1,2,3,4,5,6,7] 9) (G j),X]=_;rw[(h0 j).r _ f7,(h1 j).r _ f7,(h2 j).r _ f7,(h3 j).r _ f7,(h4 j).r _ f7,(h5 j).r _ f7,(h6 j).r _ f7,(h7 j).r _ f7]
 simp only[bG,dU,or_false]at hb;rcases hb with rfl|rfl|rfl|rfl|rfl|rfl|rfl|rfl
 ·exact(h0 0).z
 ·exact(h1 0).z
 ·exact(h2 0).z
 ·exact(h3 0).z
 ·exact(h4 0).z
 ·exact(h5 0).z
 ·exact(h6 0).z
 exact(h7 0).z
theorem Zxf (t:Zb):SC (λ_=>aB) 136 [.iptr (ZZ t) 0] [] λv h=>v= .fn 176 [] [Yy t]/\h=[]:=by
 obtain⟨A,O⟩:=Zm;unfold Yy ZZ;simp only[Za O,Zc,Zp];refine SC.less (Qq Tryz.func136 (body:=Zj Tryz.f136) rfl (by decide+kernel) ?_);refine wS ?_;refine⟨_,[],?_,rfl,rfl⟩;exact ZB
theorem Ztm (t:Zb):SC (λ_=>aB) 82 [.iptr (ZZ t) 0] [] λv h=>v= .fn 135 [] [Yy t]/\h=[]:=by
 obtain⟨A,O⟩:=Zm;unfold Yy ZZ;simp only[Za O,Zc,Zp];refine SC.less (Qq Tryz.func82 (body:=Zj Tryz.f82) rfl (by decide+kernel) ?_);refine wS ?_;refine⟨_,[],?_,rfl,rfl⟩;exact ZB
def QU (stop:Nat->Bool):Nat->Bool
 |0=>false
 |j+1=>stop j
theorem Zh4 {Q:Ex->List AV->List Zh->Prop} {s s':List AV} {m:Nat} {h:List Zh} {d:Ziu} (hi:h[m]? =some (.loop s' d)) (I:d.st= .ready) (G:d.pe=none) {h':List Zh} (A:sel true (aP m) (h.set m (.loop s' {d with st:=.exhausted}))=h') (H:Q .normal s h'):ZaA Q s m h:=by
 unfold ZaA;rw[hi];subst A;simp only[I,G]at H|-;exact H
theorem Zh3 {Q:Ex->List AV->List Zh->Prop} {s s':List AV} {m:Nat} {h:List Zh} {d:Ziu} (hi:h[m]? =some (.loop s' d)) (I:d.st= .done) (G:d.pe=some .ret) {h':List Zh} (A:sel true (aP m) (h.set m (.loop s' {d with st:=.exhausted}))=h') (H:Q .ret s h'):ZaA Q s m h:=by
 unfold ZaA;rw[hi];subst A;simp only[I,G]at H|-;exact H
theorem Ztl (t:Zb) (hf:ZA t) (A H S G J I:Nat->Zh) (stop:Nat->Bool)
  (h0:∀i,QP 6 (A i)) (h1:∀i,QP 6 (H i)) (h2:∀i,QP 6 (S i)) (h3:∀i,QP 6 (G i)) (h4:∀i,QP 6 (J i)) (h5:∀i,QP 6 (I i))
  (hy:∀i,i<manyT t->(∀j,j<i->stop j=false)->YC (λ_=>aB) 5 [.agg (Yz (Zi t i)),.imap 2 3 λ_=>Qt t (Zi t i)] [A i,H i,S i,G i,J i,I i] λv h=>v= .bool (λ_=> !stop i)/\h=[A (i+1),H (i+1),S (i+1),G (i+1),J (i+1),I (i+1)]):
  SC (λ_=>aB) 135 [.yld 5,Yy t] [A 0,H 0,S 0,G 0,J 0,I 0] λv h=>∃m,EndAt stop (manyT t) m/\h=[A m,H m,S m,G m,J m,I m]:=by
 obtain⟨nt,O⟩:=Zm;have U:∀j,j<6->Qv j [0,1,2,3,4,5] 0=some j:=by decide
 have p5:∀j,j<6->Qv j [0,1,2,3,4,5,6] 0=some j:=by decide
 have Z:∀j,j<6->Qv j [0,1,2,3,4,5,6,7] 0=some j:=by decide
 have f7:∀j,j<6->Jh [0,1,2,3,4,5] 9 j=j:=by decide
 have am:∀i X4 X5 X6,sel false [0,1,2,3,4,5] [A i,H i,S i,G i,J i,I i,X4,X5,X6]=[A i,H i,S i,G i,J i,I i]:=λi X4 X5 X6=>by
  show [ZT false _ _ (A i),ZT false _ _ (H i),ZT false _ _ (S i),ZT false _ _ (G i),ZT false _ _ (J i),ZT false _ _ (I i)]=_;rw[(h0 i).s _ _ _ U,(h1 i).s _ _ _ U,(h2 i).s _ _ _ U,(h3 i).s _ _ _ U,(h4 i).s _ _ _ U,(h5 i).s _ _ _ U]
 have aq:∀i j X4 X5 X6,back [0,1,2,3,4,5] [A i,H i,S i,G i,J i,I i,X4,X5,X6] [A j,H j,S j,G j,J j,I j]=[A j,H j,S j,G j,J j,I j,X4,X5,X6]:=λi j X4 X5 X6=>by
  show [Xz (Jh [0,1,2,3,4,5] 9) (A j),Xz (Jh [0,1,2,3,4,5] 9) (H j),Xz (Jh [0,1,2,3,4,5] 9) (S j),Xz (Jh [0,1,2,3,4,5] 9) (G j),Xz (Jh [0,1,2,3,4,5] 9) (J j),Xz (Jh [0,1,2,3,4,5] 9) (I j),X4,X5,X6]=_;rw[(h0 j).r _ f7,(h1 j).r _ f7,(h2 j).r _ f7,(h3 j).r _ f7,(h4 j).r _ f7,(h5 j).r _ f7]
 have e5:∀m L,sel true (aP 7) [A m,H m,S m,G m,J m,I m,.cells [.yld 5],L]=[A m,H m,S m,G m,J m,I m,.cells [.yld 5]]:=λm L=>by
  show [ZT true [0,1,2,3,4,5,6] _ (A m),ZT true [0,1,2,3,4,5,6] _ (H m),ZT true [0,1,2,3,4,5,6] _ (S m),ZT true [0,1,2,3,4,5,6] _ (G m),ZT true [0,1,2,3,4,5,6] _ (J m),ZT true [0,1,2,3,4,5,6] _ (I m),_]=_;rw[(h0 m).s _ _ _ p5,(h1 m).s _ _ _ p5,(h2 m).s _ _ _ p5,(h3 m).s _ _ _ p5,(h4 m).s _ _ _ p5,(h5 m).s _ _ _ p5];rfl
 have hz:zOk [A 0,H 0,S 0,G 0,J 0,I 0]=true:=Zem λb V=>by
  simp only[bG,dU,or_false]at V;rcases V with rfl|rfl|rfl|rfl|rfl|rfl
  ·exact(h0 0).z
  ·exact(h1 0).z
  ·exact(h2 0).z
  ·exact(h3 0).z
  ·exact(h4 0).z
  exact(h5 0).z
 have ao:∀i a s d,zOk [A i,H i,S i,G i,J i,I i,.cells a,.loop s d]=true:=λi a s d=>Zem λb V=>by
  simp only[bG,dU,or_false]at V;rcases V with rfl|rfl|rfl|rfl|rfl|rfl|rfl|rfl
  ·exact(h0 i).z
  ·exact(h1 i).z
  ·exact(h2 i).z
  ·exact(h3 i).z
  ·exact(h4 i).z
  ·exact(h5 i).z
  ·rfl
  rfl
 have ak:=Zxf t;have ae:=λs ps a x g4 g5=>Zw2 t hf A H S G J I (λ_=>.cells [.yld 5]) (λm=>.loop s ⟨ps,a,x,bif QU stop m then .done else .ready,bif QU stop m then some .ret else none⟩) stop (λi=>(h0 i).mono (by decide)) (λi=>(h1 i).mono (by decide)) (λi=>(h2 i).mono (by decide)) (λi=>(h3 i).mono (by decide)) (λi=>(h4 i).mono (by decide)) (λi=>(h5 i).mono (by decide)) g4 g5;have ai:=λi=>Zxe t (Zi t i) hf (Xn hf i);generalize Zi t=TA at*;generalize Qt t=HL at*;generalize manyT t=N at*;unfold Yy ZZ Yz at*;simp only[Za O,Zc,Zp]at*;refine Qq Tryz.func135 (body:=Zj Tryz.f135) rfl (by decide+kernel) ?_ hz;refine wS ?_;refine ZN (ak) (by first|rfl|(simp only[Ze,Zd,Zf,Zc,Za O];rfl)) λr ah Y=>?_;(try simp only[Ze,Zd,Zf,Zc,Za O]at Y);obtain⟨rfl,rfl⟩:=Y;refine wS ?_;refine Zqn (fid:=176) (first:=[]) rfl Yk ?_;refine SC.mono (ae _ _ _ _ ?_ ?_ ?_) ?_
 ·exact λi=>⟨λfz ι h Y=>by simp only[ZT,QD,eR,Y 5 (by decide)],λφ Y=>by simp only[Xz,ren,eR,Y 5 (by decide)],rfl⟩
 ·exact λi=>⟨λfz ι h Y=>by simp only[ZT,QD,eR,Y 5 (by decide),Y 6 (by decide)],λφ Y=>by simp only[Xz,ren,eR,Y 5 (by decide),Y 6 (by decide)],rfl⟩
 ·intro i hi aa;have ab:QU stop i=false:=by
   cases i with
   |zero=>rfl
   |succ j=>exact aa j (by omega)
  simp only[ab,cond_false];refine YC.less (Zdi false false [] rfl rfl ?_ (ao i _ _ _));refine wS ?_;refine ZN (ai i) (by first|rfl|(simp only[Ze,Zd,Zf,Zc,Za O];rfl)) λr ah Y=>?_;(try simp only[Ze,Zd,Zf,Zc,Za O]at Y);obtain⟨rfl,rfl⟩:=Y;refine wS ?_;refine YC.frameB [0,1,2,3,4,5] (by decide) (by simp) rfl rfl (am i _ _ _) (hy i hi aa) (aq i (i+1) _ _ _) ?_;refine wS ?_;refine⟨λV=>?_,λV=>?_⟩
  ·have V:stop i=true:=by simpa using V
   have ac:QU stop (i+1)=true:=V;refine wS ?_;simp only[ac,cond_true];refine⟨.bool λ_=> !stop i,_,?_,rfl,rfl⟩;(refine To.of [] ?_;cbv;(try simp only[nc]);(repeat' first|exact xT|refine⟨?_,?_⟩|refine ZK.cells ?_|refine Zz.agg ?_|refine Zz.tup ?_);all_goals try exact XU);all_goals first|exact .bool (by rw[V];rfl)|exact(h0 _).wk Z|exact(h1 _).wk Z|exact(h2 _).wk Z|exact(h3 _).wk Z|exact(h4 _).wk Z|exact(h5 _).wk Z
  have V:stop i=false:=by simpa using V
  have ac:QU stop (i+1)=false:=V;refine wS ?_;simp only[ac,cond_false];refine⟨.bool λ_=> !stop i,_,?_,rfl,rfl⟩;(refine To.of [] ?_;cbv;(try simp only[nc]);(repeat' first|exact xT|refine⟨?_,?_⟩|refine ZK.cells ?_|refine Zz.agg ?_|refine Zz.tup ?_);all_goals try exact XU);all_goals first|exact .bool (by rw[V];rfl)|exact(h0 _).wk Z|exact(h1 _).wk Z|exact(h2 _).wk Z|exact(h3 _).wk Z|exact(h4 _).wk Z|exact(h5 _).wk Z
 intro v h hh;obtain⟨m,hm,rfl⟩:=hh;rcases hm with⟨hm,aa⟩|⟨j,hm,hj,ab,aa⟩
 ·have ab:QU stop m=false:=by
   cases m with
   |zero=>rfl
   |succ j=>exact aa j (by omega)
  simp only[ab,cond_false];refine Zh4 rfl rfl rfl (e5 m _) ?_;refine wS ?_;refine⟨m,.inl ⟨hm,aa⟩,?_⟩;show [ZT true [0,1,2,3,4,5] _ (A m),ZT true [0,1,2,3,4,5] _ (H m),ZT true [0,1,2,3,4,5] _ (S m),ZT true [0,1,2,3,4,5] _ (G m),ZT true [0,1,2,3,4,5] _ (J m),ZT true [0,1,2,3,4,5] _ (I m)]=_;rw[(h0 m).s _ _ _ U,(h1 m).s _ _ _ U,(h2 m).s _ _ _ U,(h3 m).s _ _ _ U,(h4 m).s _ _ _ U,(h5 m).s _ _ _ U]
 have aj:QU stop m=true:=by rw[hm];exact ab
 simp only[aj,cond_true];refine Zh3 rfl rfl rfl (e5 m _) ?_;refine wS ?_;refine⟨m,.inr ⟨j,hm,hj,ab,aa⟩,?_⟩;show [ZT true [0,1,2,3,4,5] _ (A m),ZT true [0,1,2,3,4,5] _ (H m),ZT true [0,1,2,3,4,5] _ (S m),ZT true [0,1,2,3,4,5] _ (G m),ZT true [0,1,2,3,4,5] _ (J m),ZT true [0,1,2,3,4,5] _ (I m)]=_;rw[(h0 m).s _ _ _ U,(h1 m).s _ _ _ U,(h2 m).s _ _ _ U,(h3 m).s _ _ _ U,(h4 m).s _ _ _ U,(h5 m).s _ _ _ U]
end Vm
namespace Vm
open Go Go.Proofs
def inA (n:Nat):Nat->AV->Bool
 |0,_=>false
 |k+1,a=>(match a with
  |.ptr id _=>ltN id n
  |.aptr id _ _ _=>ltN id n
  |.msl id _ _ _ _=>ltN id n
  |.gsl id _=>ltN id n
  |.gptr id _ _ _ _=>ltN id n
  |.nsub id _ _=>ltN id n
  |.nptr id _ _ _ _=>ltN id n
  |.map id=>ltN id n
  |.mit id=>ltN id n
  |.yld id=>ltN id n
  |.isl _ _ _ (.own id)=>ltN id n
  |.lit _ cs=>cs.all (inA n k)
  |.fn _ A G=>A.all (inA n k)&&G.all (inA n k)
  |.agg cs=>cs.all (inA n k)
  |.tup cs=>cs.all (inA n k)
  |.gd _ v=>inA n k v
  |_=>true)
theorem ZcN {α:Type} {f:α->α} {l:List α} (h:∀a∈l,f a=a):l.map f=l:=by
 induction l with
 |nil=>rfl
 |cons a l A=>rw[List.map_cons,h a (aW ..),A λb G=>h b (aS _ G)]
theorem ZiE {n:Nat} {fz:Bool} {ι:List Nat} {h:List Zh} (H:∀j,j<n->Qv j ι 0=some j):∀(k:Nat) (a:AV),inA n k a=true->QD fz ι h k a=a
 |0,a,A=>by cases A
 |k+1,a,A=>by
  have I:=ZiE (fz:=fz) (h:=h) H k;have G:∀cs:List AV,cs.all (inA n k)=true->cs.map (QD fz ι h k)=cs:=λcs J=>ZcN λa A=>I a (bL.1 J a A);cases a with
  |isl s m f tk=>
   cases tk with
   |own id=>simp only[QD,H _ (ZaO A)]
   |_=>rfl
  |lit s cs=>simp only[QD,G cs A]
  |fn f S U=>
   have A:=(aU _ _).mp A;simp only[QD,G _ A.1,G _ A.2]
  |agg cs=>simp only[QD,G cs A]
  |tup cs=>simp only[QD,G cs A]
  |gd g v=>simp only[QD,I v A]
  |ptr|aptr|msl|gsl|gptr|nsub|nptr|map|mit|yld=>simp only[QD,H _ (ZaO A)]
  |_=>rfl
theorem Zlx {n:Nat} {I:Nat->Nat} (H:∀j,j<n->I j=j):∀(k:Nat) (a:AV),inA n k a=true->ren I k a=a
 |0,a,A=>by cases A
 |k+1,a,A=>by
  have J:=Zlx H k;have G:∀cs:List AV,cs.all (inA n k)=true->cs.map (ren I k)=cs:=λcs S=>ZcN λa A=>J a (bL.1 S a A);cases a with
  |isl s m f tk=>
   cases tk with
   |own id=>simp only[ren,H _ (ZaO A)]
   |_=>rfl
  |lit s cs=>simp only[ren,G cs A]
  |fn f U V=>
   have A:=(aU _ _).mp A;simp only[ren,G _ A.1,G _ A.2]
  |agg cs=>simp only[ren,G cs A]
  |tup cs=>simp only[ren,G cs A]
  |gd g v=>simp only[ren,J v A]
  |ptr|aptr|msl|gsl|gptr|nsub|nptr|map|mit|yld=>simp only[ren,H _ (ZaO A)]
  |_=>rfl
def ZxW (n:Nat):Zh->Bool
 |.cells cs=>cs.all (inA n 5)
 |.loop s _=>s.all (inA n 5)
 |.vgar .. =>false
 |.fam .. =>false
 |_=>true
theorem QP.of {n:Nat} {B:Zh} (h:ZxW n B=true):QP n B:=by
 cases B with
 |cells cs=>exact⟨λH J k A=>congrArg Zh.cells (ZcN λa G=>ZiE A 5 a (bL.1 h a G)),λI A=>congrArg Zh.cells (ZcN λa G=>Zlx A 5 a (bL.1 h a G)),rfl⟩
 |loop s d=>exact⟨λH J k A=>congrArg (λs=>Zh.loop s d) (ZcN λa G=>ZiE A 5 a (bL.1 h a G)),λI A=>congrArg (λs=>Zh.loop s d) (ZcN λa G=>Zlx A 5 a (bL.1 h a G)),rfl⟩
 |vgar=>cases h
 |fam=>cases h
 |_=>exact⟨λ_ _ _ _=>rfl,λ_ _=>rfl,rfl⟩
attribute [local irreducible] Dn
open Go Go.Proofs Sp
set_option maxRecDepth 100000
set_option maxHeartbeats 1600000
structure Wd where
 fr:Int
 to_:Int
 some_:Bool
deriving Inhabited
def Wd.add (w:Wd) (n:Int):Wd:=if w.some_ then⟨min w.fr n,max w.to_ n,true⟩else⟨n,n,true⟩
def Y1 (w:Wd):List AV:=[.int .i64 λ_=>w.fr,.int .i64 λ_=>w.to_,.bool λ_=>w.some_]
theorem Zxo (w:Wd) (n:Int):SC (λ_=>aB) 83 [.ptr 0 0,.int .i64 λ_=>n] [.cells (Y1 w)] λr h=>h=[.cells (Y1 (w.add n))]:=by
 refine SC.less ?_;refine Qq Tryz.func83 (body:=Zj Tryz.f83) rfl (by decide+kernel) ?_;refine wS ?_;unfold Wd.add;refine⟨λG=>?_,λG=>?_⟩
 ·have A:w.some_=false:=nb2 G;rw[iN (by rw[A];exact aO)];refine wS ?_;refine⟨.tup [],_,?_,rfl⟩;(refine To.of [] ?_;cbv;(try simp only[nc]);(repeat' first|exact xT|refine⟨?_,?_⟩|refine ZK.cells ?_|refine Zz.agg ?_|refine Zz.tup ?_);all_goals try exact XU);all_goals (refine .int ?_;show(if n<n then n else n)=n;rw[iN (Int.lt_irrefl n)])
 have A:w.some_=true:=nb4 G;rw[iP A];have I:(if n<w.fr then n else w.fr)=min w.fr n:=by split<;>omega
 have H:(if w.to_<n then n else w.to_)=max w.to_ n:=by split<;>omega
 generalize min w.fr n=a at*;generalize max w.to_ n=b at*;refine vS ?_;refine Chk.mk (ZH) ?_;refine⟨.tup [],_,?_,rfl⟩;(refine To.of [] ?_;cbv;(try simp only[nc]);(repeat' first|exact xT|refine⟨?_,?_⟩|refine ZK.cells ?_|refine Zz.agg ?_|refine Zz.tup ?_);all_goals try exact XU);all_goals first|exact .bool A|exact .int I|exact .int H
theorem ZaC {α:Type} (l:List α) (i j:Nat) (x d:α) (h:j≠i):(l.set i x).getD j d=l.getD j d:=by
 rw[aA,aA,bR,iN (Ne.symm h)]
theorem Zco {α:Type} (l:List α) (i:Nat) (x d:α) (h:i<l.length):(l.set i x).getD i d=x:=by
 rw[aA,bR,iP rfl,iP h];rfl
theorem Zxp (l:List Wd) (i:Nat) (n:Int) (hi:i<l.length) (U:l.length<=1000000):SC (λ_=>aB) 83 [.aptr 0 3 (λ_=>(i:Int)) 0,.int .i64 λ_=>n] [.arr 3 (λ_=>(l.length:Int)) (ZeD Y1 default l)] λr h=>h=[.arr 3 (λ_=>(l.length:Int)) (ZeD Y1 default (l.set i ((l.getD i default).add n)))]:=by
 obtain⟨A,O⟩:=Zm;rw[Jx O];refine SC.less ?_;refine Qq Tryz.func83 (body:=Zj Tryz.f83) rfl (by decide+kernel) ?_;have hw:l.getD i default=A Wd default l i:=by rw[O];rfl
 rw[hw];refine wS ?_;have G:∀(x:Wd) (j:Nat),ZeD Y1 default (l.set i x) (λ_=>(j:Int))=Y1 (if j=i then x else A Wd default l j):=λx j=>by
  show Y1 ((l.set i x).getD ((j:Int).toNat) default)=_;rw[aV];by_cases h:j=i
  ·subst h;rw[iP rfl,Zco l _ x default hi]
  rw[iN h,ZaC l i j x default h,O];rfl
 refine⟨λJ=>?_,λJ=>?_⟩
 ·have H:(A Wd default l i).some_=false:=nb2 J;refine wS ?_;refine⟨.tup [],[.arr 3 (λ_=>(l.length:Int)) (ZeD Y1 default (l.set i ((A Wd default l i).add n)))],To.of [] ⟨⟨.refl _,trivial⟩,.arr rfl λj S=>?_,trivial⟩,rfl⟩;rw[G];unfold Wd.add;rw[H];by_cases h:j=i
  ·subst h;simp[QA,ZlG,putC,Y1,Zaj,AV.cellsOf,purify]
  have I:¬((j:Int)=(i:Int)):=by omega
  simp[QA,ZlG,putC,Y1,Zaj,AV.cellsOf,purify,h,I]
 have H:(A Wd default l i).some_=true:=nb4 J;refine wS ?_;refine⟨.tup [],[.arr 3 (λ_=>(l.length:Int)) (ZeD Y1 default (l.set i ((A Wd default l i).add n)))],To.of [] ⟨⟨.refl _,trivial⟩,.arr rfl λj S=>?_,trivial⟩,rfl⟩;rw[G];unfold Wd.add;rw[H];by_cases h:j=i
 ·subst h;simp[QA,ZlG,putC,Y1,Zaj,AV.cellsOf,purify,H];exact⟨funext λ_=>by split<;>omega,funext λ_=>by split<;>omega⟩
 have I:¬((j:Int)=(i:Int)):=by omega
 simp[QA,ZlG,putC,Y1,Zaj,AV.cellsOf,purify,h,I]
end Vm
namespace Sp
open Vm
def ZfC (f:Nat->Int):Nat->Wd
 |0=>⟨0,0,false⟩
 |n+1=>(ZfC f n).add (f n)
def Zbr (t:Zb) (run:Int) (k i:Nat):Int:=
 if k%2=0 then(ZE t (Zi t i) run ((k/2:Nat):Int)).comes else(ZE t (Zi t i) run ((k/2:Nat):Int)).goes
def Za8 (t:Zb) (run:Int) (n i j:Nat):List Wd:=(aP (2*n)).map λk=>if k<2*j then ZfC (Zbr t run k) (i+1)else ZfC (Zbr t run k) i
def ZhS (t:Zb) (run:Int) (k:Nat):Zhq:=⟨(ZfC (Zbr t run k) (manyT t)).fr,(ZfC (Zbr t run k) (manyT t)).to_⟩
def Zjo (t:Zb) (run:Int):List Zhq:=(aP (Zl (callsOf t) run).length).map λa=>ZhS t run (2*a)
def Zm7 (t:Zb) (run:Int):List Zhq:=(aP (Zl (callsOf t) run).length).map λa=>ZhS t run (2*a+1)
def J7 (t:Zb) (run:Int):Int:=if Zn t≠0 then Zn t else if Qw run 0 ((t.runs.length:Int)-1)then 3 else 0
theorem ZbI {t:Zb} {run:Int} {n i j:Nat}:(Za8 t run n i j).length=2*n:=by unfold Za8;simp
theorem ZbJ {t:Zb} {run:Int} {n i j k:Nat} (h:k<2*n):(Za8 t run n i j).getD k default=if k<2*j then ZfC (Zbr t run k) (i+1)else ZfC (Zbr t run k) i:=by
 unfold Za8;rw[aA,aQ,cQ h];rfl
theorem ZsS {t:Zb} {run:Int} {n i:Nat}:Za8 t run n i n=Za8 t run n (i+1) 0:=by
 unfold Za8;refine fH λk A=>?_;rw[iP (by have:=bV.1 A;omega),iN (by omega)]
theorem Zqy {t:Zb} {run:Int} {n i j:Nat} (I:j<n) {G:List Wd} (A:G=(Za8 t run n i j).set (2*j) (((Za8 t run n i j).getD (2*j) default).add (Zbr t run (2*j) i))):
  G.set (2*j+1) ((G.getD (2*j+1) default).add (Zbr t run (2*j+1) i))=Za8 t run n i (j+1):=by
 subst A;rw[Vm.ZaC _ _ _ _ _ (by omega),ZbJ (by omega),ZbJ (by omega),iN (by omega),iN (by omega)];refine List.ext_getElem? λk=>?_;by_cases hk:k<2*n
 ·have e:(Za8 t run n i (j+1))[k]? =some ((Za8 t run n i (j+1)).getD k default):=by
   rw[aA,aD (by rw[ZbI];exact hk)];rfl
  rw[e,ZbJ hk];by_cases h1:2*j+1=k
  ·subst h1;rw[cV (by rw[bP,ZbI];exact hk),iP (by omega)];rfl
  rw[cU h1];by_cases A:2*j=k
  ·subst A;rw[cV (by rw[ZbI];exact hk),iP (by omega)];rfl
  rw[cU A];have H:(Za8 t run n i j)[k]? =some ((Za8 t run n i j).getD k default):=by
   rw[aA,aD (by rw[ZbI];exact hk)];rfl
  rw[H,ZbJ hk];by_cases h3:k<2*j
  ·rw[iP h3,iP (by omega)]
  rw[iN h3,iN (by omega)]
 rw[cE (by rw[bP,bP,ZbI];omega),cE (by rw[ZbI];omega)]
theorem Zbd {t:Zb} {x:List Int} {r a:Int} (G:StopIn (callsOf t) r a):(Qt t x).lookup [r,a]=some (Zc4 (ZE t x r a)):=by
 refine ZcO ?_ (bC.2 ⟨(r,a),J5.2 G,rfl⟩);unfold Qt;rw[fw]
 exact List.Pairwise.map _ (λa b A e=>by
  apply A;simp only[Function.comp,cC,and_true]at e
  exact iO e.1 e.2) Zb7
end Sp
namespace Vm
attribute [local irreducible] Dn
open Go Go.Proofs Sp
set_option maxRecDepth 100000
set_option maxHeartbeats 4000000
def encSp (x:Sp.Zhq):List AV:=[.int .i64 λ_=>x.fr,.int .i64 λ_=>x.to_]
theorem ZuI (l A:List Wd) (i:Nat) (e n N:Int) (G:e=i) (J:N=l.length) (hi:i<l.length) (H:l.length<=1000000) (I:A=l.set i ((l.getD i default).add n)):SC (λ_=>aB) 83 [.aptr 0 3 (λ_=>e) 0,.int .i64 λ_=>n] [.arr 3 (λ_=>N) (ZeD Y1 default l)] λr h=>h=[.arr 3 (λ_=>N) (ZeD Y1 default A)]:=by
 subst G J I;exact Zxp l i n hi H
theorem ZyK (t:Zb) (run:Int) (hf:Qe t) (hw:Zn t=0->ZA t):SC (λ_=>aB) 22 [Zf t,.int .i64 λ_=>run] [] λv h=>
  v= .tup [lst 2 encSp default (if J7 t run=0 then Zjo t run else []),lst 2 encSp default (if J7 t run=0 then Zm7 t run else []),.int .i64 λ_=>J7 t run]/\h=[]:=by
 obtain⟨H,O⟩:=Zm;obtain⟨Y,bg⟩:∃Y:Nat->Nat->Nat->List Wd,∀n i j,Y n i j=(Za8 t run n i j).set (2*j) (((Za8 t run n i j).getD (2*j) default).add (Zbr t run (2*j) i)):=⟨_,λ_ _ _=>rfl⟩;refine SC.less (ZkO false false [] Tryz.func22 (body:=Zj Tryz.f22) rfl (by decide+kernel) ?_);have k:=Ztn t hf;have hr:=hf.runs;have k1:=Zdy run 0 ((t.runs.length:Int)-1);generalize J:J7 t run=e;unfold J7 at J;unfold Zf at*;simp only[Za O]at k|-;by_cases he:Zn t=0
 ·have hw:=hw he;unfold QY at k;rw[iP he]at k;rw[iN (λh=>h he)]at J;have Z:=Ztm t;unfold Yy ZZ at*;simp only[Za O,Zc,Zp]at k Z|-;rw[he]at k;refine wS ?_;refine Zri (k) ?_;refine wS ?_;refine Br.isF rfl ?_;refine wS ?_;refine Zri (k1) ?_;refine wS ?_;refine⟨λh=>?_,λh=>?_⟩
  ·rw[iP h]at J;subst J;refine wS ?_;refine⟨_,[],?_,rfl,rfl⟩;exact ZB
  rw[iN (by rw[h];exact aO)]at J;subst J;have hb:=QE h;have bh:t.runs.length=(callsOf t).length:=by unfold callsOf;rw[aX]
  have az:=hw.calls.row (Sp.Zl (callsOf t) run) (by
   unfold Sp.Zl;rw[aA,aD (by omega)]
   exact bM _)
  have ae:=λx a h1 h2=> @Zbd t x run a ⟨hb.1,by omega,h1,h2⟩;have a9:∀i j:Nat,(ZE t (Zi t i) run (j:Int)).comes=Zbr t run (2*j) i:=λi j=>by unfold Zbr;rw[iP (by omega),show 2*j/2=j by omega]
  have bc:∀i j:Nat,(ZE t (Zi t i) run (j:Int)).goes=Zbr t run (2*j+1) i:=λi j=>by unfold Zbr;rw[iN (by omega),show(2*j+1)/2=j by omega]
  have ab:=λi j h l2 h2=> @Zqy t run (Sp.Zl (callsOf t) run).length i j h l2 h2;have G:=λi j=> @ZbI t run (Sp.Zl (callsOf t) run).length i j;have V:=λi=> @ZsS t run (Sp.Zl (callsOf t) run).length i;have aj:∀k,k<2*(Sp.Zl (callsOf t) run).length->(Za8 t run (Sp.Zl (callsOf t) run).length 0 0).getD k default=⟨0,0,false⟩:=λk h=>by rw[ZbJ h,iN (by omega)];rfl
  have ak:∀m j,j<(Sp.Zl (callsOf t) run).length->H Wd default (Za8 t run (Sp.Zl (callsOf t) run).length m 0) (0+2*(j:Int))=ZfC (Zbr t run (2*j)) m:=λm j h=>by
   rw[O,show(0+2*(j:Int)).toNat=2*j by omega,ZbJ (by omega),iN (by omega)]
  have ao:∀m j,j<(Sp.Zl (callsOf t) run).length->H Wd default (Za8 t run (Sp.Zl (callsOf t) run).length m 0) (0+(2*(j:Int)+1))=ZfC (Zbr t run (2*j+1)) m:=λm j h=>by
   rw[O,show(0+(2*(j:Int)+1)).toNat=2*j+1 by omega,ZbJ (by omega),iN (by omega)]
  have U:=λB0 B1 B2 B3 B4 B5 stop=>Ztl t hw B0 B1 B2 B3 B4 B5 stop;rw[iP rfl,iP rfl];have ar:Zjo t run=(aP (Sp.Zl (callsOf t) run).length).map λa=>ZhS t run (2*a):=rfl;have au:Zm7 t run=(aP (Sp.Zl (callsOf t) run).length).map λa=>ZhS t run (2*a+1):=rfl;generalize Zjo t run=CL at*;generalize Zm7 t run=GL at*;unfold Yy ZZ at U;simp only[ZaM O,Za O,Zc,Zp]at az ae ak ao ab G V aj ar au U;generalize Za8 t run=A at*;generalize Zi t=TA at*;generalize Qt t=HL at*;generalize bl:callsOf t=c at*;refine wS ?_;refine Zri (Z) ?_;refine wS ?_;generalize hn:(H (List Sp.Call) [] c run).length=n at*;have ai:∀k:Nat,(k:Int)<2*(n:Int)->[AV.int .i64 λ_=>0,AV.int .i64 λ_=>0,AV.bool λ_=>false]=Y1 (H Wd default (A n 0 0) (k:Int)):=λk h=>by
   rw[O,aV,aj k (by omega)];rfl
  refine Zgo [3,4,5,6,8,9,42] [] [(3,.arr 3 (λ_=>2*(n:Int)) (λe=>Y1 (H Wd default (A n 0 0) (e ()))))] (fid:=135) (first:=[]) ?_ rfl ?_ ?_
  ·refine Ji ?_;exact ZK.arr rfl ai
  ·exact Yk
  refine SC.mono (U (λ_=>_) (λ_=>_) (λ_=>_) (λi=>.arr 3 (λ_=>2*(n:Int)) (λe=>Y1 (H Wd default (A n i 0) (e ())))) (λ_=>_) (λ_=>_) (λ_=>false) ?_ ?_ ?_ ?_ ?_ ?_ ?_) ?_;iterate 6 exact λi=>QP.of rfl
  ·intro i hi bk;refine YC.less (Zdi false false [] rfl rfl ?_);refine wS ?_;refine ZuF false false [] [3,4,5,8,9,11,44,45,46] [] (λ(j:Nat)=>[(46,.int .i64 λ_=>(j:Int))]) (λj=>[(3,.arr 3 (λ_=>2*(n:Int)) (λe=>Y1 (H Wd default (A n i j) (e ()))))]) (λj=>j<=n) (λj=>n-j+0) 0 (by omega) ?_ ?_
   ·exact ZB
   intro j hj;refine wS ?_;refine⟨λac=>?_,λac=>?_⟩
   ·simp only[iU]at ac;have e1:(((HL (TA i)).lookup [run,(j:Int)]).getD []).headD 0=Zbr t run (2*j) i:=by rw[ae _ _ (by omega) (by omega),<-a9];rfl
    have e2:(((HL (TA i)).lookup [run,(j:Int)]).getD []).tail.tail.headD 0=Zbr t run (2*j+1) i:=by rw[ae _ _ (by omega) (by omega),<-bc];rfl
    have aa:=bg n i j;have h3:=ab i j (by omega) (Y n i j) aa;have S:(Y n i j).length=2*n:=by rw[aa,bP,G]
    have k1:=ZuI (A n i j) (Y n i j) (2*j) (0+2*(j:Int)) (Zbr t run (2*j) i) (2*(n:Int)) (by omega) (by rw[G];omega) (by rw[G];omega) (by rw[G];omega) aa;have k2:=ZuI (Y n i j) (A n i (j+1)) (2*j+1) (0+(2*(j:Int)+1)) (Zbr t run (2*j+1) i) (2*(n:Int)) (by omega) (by rw[S];omega) (by rw[S];omega) (by rw[S];omega) h3.symm;simp only[Jx O]at k1 k2;refine vS ?_;refine Chk.mk (ZH) ?_;simp only[e1];refine cL1 [3] (k1) λr aw I=>?_;(try simp only[Ze,Zd,Zf,Zc,Za O]at I);obtain rfl:=I;refine vS ?_;try refine Chk.mk (ZH) ?_
    simp only[e2];refine cL1 [3] (k2) λr aw I=>?_;(try simp only[Ze,Zd,Zf,Zc,Za O]at I);obtain rfl:=I;refine wS ?_;refine⟨j+1,by omega,by show n-(j+1)+0<n-j+0;omega,?_⟩;exact ZB
   simp only[iV]at ac;have ba:j=n:=by omega
   subst ba;refine wS ?_;refine⟨.bool λ_=>true,_,?_,rfl,rfl⟩;refine Ji ?_;rw[V i];exact ZK.refl _
  intro v h hh;obtain⟨m,hm,rfl⟩:=hh;have am:m=manyT t:=by
   rcases hm with h|⟨_,_,_,h,_⟩
   ·exact h.1
   cases h
  refine wS ?_;refine ZG false false [] [4,5,9,77,78] [.tok 2 λ_=>0,.tok 2 λ_=>0] (λp:Nat×List Sp.Zhq×List Sp.Zhq=>[(78,.int .i64 λ_=>(p.1:Int)),(4,.isl 2 (λ_=>(p.2.1.length:Int)) (λe=>encSp (H Sp.Zhq default p.2.1 (e ()))) (.own 5)),(5,.isl 2 (λ_=>(p.2.2.length:Int)) (λe=>encSp (H Sp.Zhq default p.2.2 (e ()))) (.own 6))]) (λp=>[(5,.tok 2 λ_=>(p.2.1.length:Int)),(6,.tok 2 λ_=>(p.2.2.length:Int))])
   (λp=>p.1<=n/\p.2.1=(aP p.1).map (λa=>ZhS t run (2*a))/\p.2.2=(aP p.1).map (λa=>ZhS t run (2*a+1))) (λp=>n-p.1+0) (0,[],[]) ⟨by omega,rfl,rfl⟩ ?_ ?_
  ·(refine To.of [(2,false),(2,false)] ?_;cbv;(try simp only[nc]);(repeat' first|exact xT|refine⟨?_,?_⟩|refine ZK.cells ?_|refine Zz.agg ?_|refine Zz.tup ?_);all_goals try exact XU)
  intro p I;refine wS ?_;refine⟨λah=>?_,λah=>?_⟩
  ·simp only[iU]at ah;have x1:=ak m p.1 (by omega);have x2:=ao m p.1 (by omega);have a1:=congrArg fR I.2.1;have a2:=congrArg fR I.2.2;rw[aX,cH]at a1 a2;refine vS ?_;refine Chk.mk (ZH) ?_;refine⟨(p.1+1,p.2.1++[⟨(H Wd default (A n m 0) (0+2*(p.1:Int))).fr,(H Wd default (A n m 0) (0+2*(p.1:Int))).to_⟩],p.2.2++[⟨(H Wd default (A n m 0) (0+(2*(p.1:Int)+1))).fr,(H Wd default (A n m 0) (0+(2*(p.1:Int)+1))).to_⟩]),⟨by show p.1+1<=n;omega,?_,?_⟩,by show n-(p.1+1)+0<n-p.1+0;omega,?_⟩
   ·show p.2.1++_=_;rw[fj,cY,<-I.2.1,x1,am];rfl
   ·show p.2.2++_=_;rw[fj,cY,<-I.2.2,x2,am];rfl
   exact ZB
  simp only[iV]at ah;have aq:p.1=n:=by omega
  have r1:p.2.1=CL:=by rw[I.2.1,aq,ar]
  have r2:p.2.2=GL:=by rw[I.2.2,aq,au]
  refine wS ?_;rw[r1,r2];refine⟨_,[],?_,rfl,rfl⟩;exact ZB
 unfold QY at k;rw[iN he]at k;rw[iP he]at J;rw[J]at k he;rw[iN he,iN he];refine wS ?_;refine Zri (k) ?_;refine wS ?_;refine⟨λh=>?_,λh=>?_⟩
 ·refine wS ?_;refine⟨_,[],?_,rfl,rfl⟩;exact ZB
 exact absurd (by simpa only[iC]using h) he
end Vm
namespace Sp
open Vm
structure WorldL where
 come:List (List Int)
 ready:List (List Int)
 go:List (List Int)
deriving Inhabited
def Yv (t:Zb) (f:Nat->Nat->Int):List (List Int):=(aP (callsOf t).length).map λr=>(aP (YF t r)).map λi=>f r i
def Jj (t:Zb) (x:List Int):WorldL:=⟨Yv t λr i=>(ZE t x r i).comes,Yv t λr i=>(ZE t x r i).ready,Yv t λr i=>(ZE t x r i).goes⟩
def Qk (t:Zb):List WorldL:=(aP (manyT t)).map λn=>Jj t (Zi t n)
theorem Zdj (t:Zb):(Qk t).length=manyT t:=by unfold Qk;rw[aX,cH]
theorem ZcD (t:Zb) {n:Nat} (h:n<manyT t):(Qk t).getD n default=Jj t (Zi t n):=by
 unfold Qk;rw[aA,aQ,cQ h];rfl
theorem Zd5 (t:Zb) (f:Nat->Nat->Int):(Yv t f).length=(callsOf t).length:=by unfold Yv;rw[aX,cH]
theorem Zbf (t:Zb) (f:Nat->Nat->Int) {r:Nat} (h:r<(callsOf t).length):(Yv t f).getD r []=(aP (YF t r)).map λi=>f r i:=by
 unfold Yv;rw[aA,aQ,cQ h];rfl
theorem ZcR (t:Zb) (f:Nat->Nat->Int) {r i:Nat} (h:r<(callsOf t).length) (hi:i<YF t r):((Yv t f).getD r []).getD i 0=f r i:=by
 rw[Zbf t f h,aA,aQ,cQ hi];rfl
def ZjP (ds:List ZR) (m n:Nat):List Int:=(aP m).map λi=>(ds.getD i default).by_.getD ((Yb ds m n).getD i 0).toNat 0
theorem Zgn {α:Type} (g:Nat->Int->α) (l:List Int):∀P:Nat,(aP P).flatMap (λa=>l.map (g a))=(aP (P*l.length)).map λn=>g (n/l.length) (l.getD (n%l.length) 0)
 |0=>by simp
 |P+1=>by
  rw[fj,List.flatMap_append,Zgn g l P,Nat.succ_mul,List.range_add,cY,List.flatMap_singleton,fw];congr 1;refine List.ext_getElem (by simp) λi G H=>?_;have A:i<l.length:=by rw[aX]at G;exact G
  rw[fD,fD,List.getElem_range];show g P l[i]=g ((P*l.length+i)/l.length) (l.getD ((P*l.length+i)%l.length) 0);rw[Nat.mul_comm P,Nat.mul_add_div (by omega),Nat.div_eq_of_lt A,Nat.add_zero,Nat.mul_add_mod,Nat.mod_eq_of_lt A,aA,aD A];rfl
theorem Zff (d:ZR):∀l:List ZR,Xa (l++[d])=(Xa l).flatMap λx=>d.by_.map λn=>x++[n]
 |[]=>by
  show(d.by_.flatMap λn=>(Xa []).map λx=>n::x)=_;unfold Xa;simp[List.map_eq_flatMap]
 |e::l=>by
  show(e.by_.flatMap λn=>(Xa (l++[d])).map λx=>n::x)=(e.by_.flatMap λn=>(Xa l).map λx=>n::x).flatMap λx=>d.by_.map λn=>x++[n];rw[Zff d l,List.flatMap_assoc];congr 1;funext n;rw[List.map_flatMap,iu];congr 1;funext x;rw[fw];rfl
theorem Znn (ds:List ZR) (m n:Nat) (hm:m<6):ZjP ds (m+1) n=ZjP ds m (n/lenAt ds m)++[(ds.getD m default).by_.getD (n%lenAt ds m) 0]:=by
 unfold ZjP;rw[fj,cY,List.map_singleton];congr 1
 ·refine fH λi A=>?_;have A:=bV.1 A;show _=(ds.getD i default).by_.getD ((Yb ds m (n/lenAt ds m)).getD i 0).toNat 0;congr 2;show((Yb ds m (n/lenAt ds m)).set m _).getD i 0=_;rw[aA,cU (by omega),<-aA]
 congr 2;show(((Yb ds m (n/lenAt ds m)).set m ((n%lenAt ds m:Nat):Int)).getD m 0).toNat=_;rw[aA,cV (by rw[XG];exact hm)];exact aV _
theorem Zfe (ds:List ZR) (A:ds.length<=6):∀m,m<=ds.length->Xa (ds.take m)=(aP (Yu ds m)).map (ZjP ds m)
 |0,_=>rfl
 |m+1,hm=>by
  have e:ds.take (m+1)=ds.take m++[ds.getD m default]:=by
   rw[List.take_add_one,aD (by omega),aA,aD (by omega)];rfl
  rw[e,Zff,Zfe ds A m (by omega),iu,Zgn (λa n=>ZjP ds m a++[n])];show(aP (Yu ds m*lenAt ds m)).map _=(aP (Yu ds m*lenAt ds m)).map _;refine fH λn _=>?_;rw[Znn ds m n (by omega)];rfl
theorem Zdk {t:Zb} (A:t.delays.length<=6):Xa t.delays=(aP (manyT t)).map λn=>Qn t (Zi t n):=by
 have h:=Zfe t.delays A t.delays.length (aI _);rw[fa]at h;exact h
theorem ZgJ {t:Zb} (A:t.delays.length<=6) (G:∀d∈t.delays,d.by_.length<=3):manyT t<=729:=by
 have h:=Zb5 t.delays G;rw[Zdk A,aX,cH]at h;exact cD h (cD (Nat.pow_le_pow_right (by decide) A) (by decide))
theorem ZgX (t:Zb) (f:Nat->Nat->Int) {r a:Int} (G:StopIn (callsOf t) r a):((Yv t f).length:Int)=(callsOf t).length/\(((Yv t f).getD r.toNat []).length:Int)=(Zl (callsOf t) r).length/\((Yv t f).getD r.toNat []).getD a.toNat 0=f r.toNat a.toNat:=by
 obtain⟨A,H,J,I⟩:=G;have e:YF t r.toNat=(Zl (callsOf t) r).length:=by unfold YF;rw[gi A]
 refine⟨by rw[Zd5],?_,ZcR t f (by omega) (by rw[e];omega)⟩;rw[Zbf t f (by omega),aX,cH,e]
theorem ZjM {A:(α:Type)->α->List α->Int->α} (O:∀(α:Type) (d:α) (l:List α) (i:Int),A α d l i=l.getD i.toNat d) {t:Zb} {n:Nat} (V:n<manyT t) {r a:Int} (G:StopIn (callsOf t) r a):
  (((A WorldL default (Qk t) (n:Int)).come.length:Int)=(callsOf t).length/\((A (List Int) [] (A WorldL default (Qk t) (n:Int)).come r).length:Int)=(Zl (callsOf t) r).length/\A Int 0 (A (List Int) [] (A WorldL default (Qk t) (n:Int)).come r) a=(ZE t (Zi t n) r a).comes)/\
  (((A WorldL default (Qk t) (n:Int)).ready.length:Int)=(callsOf t).length/\((A (List Int) [] (A WorldL default (Qk t) (n:Int)).ready r).length:Int)=(Zl (callsOf t) r).length/\A Int 0 (A (List Int) [] (A WorldL default (Qk t) (n:Int)).ready r) a=(ZE t (Zi t n) r a).ready)/\
  (((A WorldL default (Qk t) (n:Int)).go.length:Int)=(callsOf t).length/\((A (List Int) [] (A WorldL default (Qk t) (n:Int)).go r).length:Int)=(Zl (callsOf t) r).length/\A Int 0 (A (List Int) [] (A WorldL default (Qk t) (n:Int)).go r) a=(ZE t (Zi t n) r a).goes):=by
 simp only[O,aV,ZcD t V];have S:((r.toNat:Nat):Int)=r:=gi G.1;have U:((a.toNat:Nat):Int)=a:=gi G.2.2.1;have I:=ZgX t (λr i=>(ZE t (Zi t n) r i).comes) G;have H:=ZgX t (λr i=>(ZE t (Zi t n) r i).ready) G;have J:=ZgX t (λr i=>(ZE t (Zi t n) r i).goes) G;rw[S,U]at I H J;exact⟨I,H,J⟩
theorem Zlk {t:Zb} {n r:Nat} (A:n<manyT t) (h:r<(callsOf t).length):((Qk t).getD n default).come.length=(callsOf t).length/\((Qk t).getD n default).go.length=(callsOf t).length/\(((Qk t).getD n default).come.getD r []).length=YF t r/\(((Qk t).getD n default).go.getD r []).length=YF t r:=by
 rw[ZcD t A];refine⟨Zd5 t _,Zd5 t _,?_,?_⟩
 ·show((Yv t _).getD r []).length=_;rw[Zbf t _ h,aX,cH]
 show((Yv t _).getD r []).length=_;rw[Zbf t _ h,aX,cH]
end Sp
namespace Vm
open Sp
def QR (w:WorldL):List AV:=[lst 1 Z4 [] w.come,lst 1 Z4 [] w.ready,lst 1 Z4 [] w.go]
end Vm
namespace Sp
open Vm
theorem ZfT:∀ {l:List Pc} {r a:Int},(∀p∈l,p.bef<=1099511627776)->0<=a/\a<=1099511627776->a<=Xe l r a/\Xe l r a<=1099511627776
 |[],r,a,_,h=>by unfold Xe XJ;exact⟨h.2,bS _⟩
 |p::l,r,a,hl,h=>by
  unfold Xe;have G:=hl p (aW ..);split
  ·omega
  exact ZfT (λq A=>hl q (aS _ A)) h
theorem Zdx {G:List Zone} (U:∀z∈G,Zy z=0) {day:Int} {many:Nat}:∀(S:List Stop) (i:Nat) (A:Int),0<=A/\A<=1099511627776->(∀s∈S,0<=s.zone/\s.zone<G.length)->∀c∈Xc G day many i A S,0<=c.arrive/\c.arrive<=c.depart/\c.depart<=1099511627776
 |[],_,_,_,_,c,H=>by unfold Xc at H;cases H
 |s::r,i,A,hn,hs,c,H=>by
  have aa:=hs s (aW ..);have V:G.getD s.zone.toNat default∈G:=by rw[aA,aD (by omega)];exact bM _
  have J:=λp J=>((Zev (U _ V)).2 p J).2.2.2.1;have hr:=λq Z=>hs q (aS _ Z);unfold Xc at H;split at H
  ·have I:0<=(if i+1<many then Xe (ZX (G.getD s.zone.toNat default)) (1440*day+s.depart) A else 0)/\(if i+1<many then Xe (ZX (G.getD s.zone.toNat default)) (1440*day+s.depart) A else 0)<=1099511627776:=by
    split
    ·have:=ZfT (r:=1440*day+s.depart) J hn;omega
    omega
   rcases bG.1 H with rfl|H
   ·exact⟨I.1,bS _,I.2⟩
   exact Zdx U r _ _ I hr c H
  have Y:=ZfT (r:=1440*day+s.arrive) J hn;have I:Xe (ZX (G.getD s.zone.toNat default)) (1440*day+s.arrive) A<=(if i+1<many then Xe (ZX (G.getD s.zone.toNat default)) (1440*day+s.depart) (Xe (ZX (G.getD s.zone.toNat default)) (1440*day+s.arrive) A)else Xe (ZX (G.getD s.zone.toNat default)) (1440*day+s.arrive) A)/\
    (if i+1<many then Xe (ZX (G.getD s.zone.toNat default)) (1440*day+s.depart) (Xe (ZX (G.getD s.zone.toNat default)) (1440*day+s.arrive) A)else Xe (ZX (G.getD s.zone.toNat default)) (1440*day+s.arrive) A)<=1099511627776:=by
   split
   ·exact ZfT J ⟨by omega,Y.2⟩
   exact⟨bS _,Y.2⟩
  rcases bG.1 H with rfl|H
  ·exact⟨by show 0<=Xe _ _ _;omega,I⟩
  exact Zdx U r _ _ ⟨by omega,I.2⟩ hr c H
theorem Zu5 {b:Xy} (h:ZmA b) {t:Train} {day:Int} (A:t∈XC b day):Zef b.zones.length t:=by
 unfold XC at A;split at A
 ·exact h.old t A
 exact h.new t A
theorem Zu9 {b:Xy} {n d:Int} (h:(Run b n d).2=0):∀c∈(Run b n d).1,0<=c.arrive/\c.arrive<=c.depart/\c.depart<=1099511627776:=by
 unfold Run at*;split
 ·intro c A;cases A
 rename_i I;split
 ·intro c A;cases A
 split
 ·intro c A;cases A
 rename_i S;split
 ·intro c A;cases A
 have G:=ZcV (bQ I);have H:(place (XC b d) n).toNat<(XC b d).length:=by
  have:=XX (q:=λt:Train=>decide (t.number=n)) (l:=XC b d) (i:=0) (by omega);unfold place at*;omega
 have hm:(XC b d).getD (place (XC b d) n).toNat default∈XC b d:=by
  rw[aA,aD H];exact bM _
 exact Zdx G.zones _ 0 0 ⟨by omega,by omega⟩ λs J=>((Zu5 G hm).stops s J).zone
theorem Zku {α:Type} {q:α->Bool} {d:α}:∀ {l:List α} {i:Int} {k:Nat},k<l.length->q (l.getD k d)=true->i<=Zu q i l/\Zu q i l<=i+k
 |[],_,k,h,_=>by simp at h
 |x::r,i,0,_,hq=>by
  have A:q x=true:=hq;rw[Zu,iP A];omega
 |x::r,i,k+1,h,hq=>by
  rw[Zu];split
  ·omega
  have:=Zku (l:=r) (i:=i+1) (k:=k) (by simpa using h) hq;omega
theorem Yx {t:Zb} (h:Zn t=0):ZA t:=by
 unfold Zn at h;split at h
 ·exact absurd h (by assumption)
 split at h
 ·exact absurd h (by assumption)
 rename_i h0 U;split at h
 ·cases h
 split at h
 ·exact absurd h (by assumption)
 rename_i h2 H;split at h
 ·cases h
 rename_i h4;have hr:=bQ U;have hw:=Qi (bQ H);have hd:=Qi h;have ai:=Zbj hr;have ak:t.runs.length=(callsOf t).length:=by unfold callsOf;rw[aX]
 have J:∀r:Int,0<=r->r<(callsOf t).length->(∀c∈Zl (callsOf t) r,0<=c.arrive/\c.arrive<=c.depart/\c.depart<=1099511627776)/\Xf (Zl (callsOf t) r)=0:=λr U h2=>by
  unfold Q5 at hr;split at hr
  ·cases hr
  split at hr
  ·cases hr
  have H:=Qi hr r.toNat (by omega) (by omega);have e:Zl (callsOf t) r=YD t (t.runs.getD r.toNat default):=by
   unfold Zl callsOf;rw[aA,aQ,aA,aD (by omega)];rfl
  rw[e];unfold JM at H;split at H
  ·exact absurd H (by assumption)
  rename_i h4;split at H
  ·cases H
  rename_i A;exact⟨Zu9 (bQ h4),bQ A⟩
 have Z:∀r a,StopIn (callsOf t) r a->Zs (callsOf t) r a∈Zl (callsOf t) r:=λr a G=>by
  unfold Zs;rw[aA,aD (by have:=G.2.2.2;have:=G.2.2.1;omega)];exact bM _
 have S:∀r a,StopIn (callsOf t) r a->0<a->(Zs (callsOf t) r (a-1)).depart<(Zs (callsOf t) r a).arrive:=λr a G ha=>by
  have U:=(J r G.1 G.2.1).2;have h2:=G.2.2.2;have H:=Qi U a.toNat (by omega) (by omega);unfold YM at H;split at H
  ·cases H
  rename_i h4;unfold Zs;rw[show(a-1).toNat=a.toNat-1 by omega];omega
 refine⟨ai,λr a G=>(J r G.1 G.2.1).1 _ (Z r a G),S,by omega,by omega,λw ah=>?_,λd ac=>?_⟩
 ·obtain⟨i,hi,Y⟩:=Zah (d:=default) ah;have A:=hw i (by omega) (by omega);rw[Y]at A;unfold Qc at A;split at A
  ·cases A
  rename_i g1;split at A
  ·cases A
  split at A
  ·cases A
  rename_i g3;split at A
  ·cases A
  rename_i V;split at A
  ·cases A
  rename_i g5;have b1:0<=w.feeder/\w.feeder<=((callsOf t).length:Int)-1:=QE (by cases hq:Qw w.feeder 0 ((callsOf t).length-1)with|false=>rfl|true=>exact absurd (by rw[hq];rfl) g1);have b4:=QE (by simpa using V);have s1:=YL (Zl (callsOf t) w.feeder) 1 w.station;have aj:1<=Zv (Zl (callsOf t) w.feeder) w.station:=by
   have:¬Zv (Zl (callsOf t) w.feeder) w.station<0:=λh=>g3 (.inl h);unfold Zv at*;omega
  refine⟨b1.1,by omega,aj,b4.1,b4.2,λa G am ae=>?_⟩;have hg:0<=ZJ (Zl (callsOf t) w.train) w.station:=by
   have:¬ZJ (Zl (callsOf t) w.train) w.station<0:=λh=>g3 (.inr h);omega
  have ab:ZJ (Zl (callsOf t) w.train) w.station=ZP (Zl (callsOf t) w.train) 0 w.station:=by
   unfold ZJ at*;split at hg
   ·rw[iP (by assumption)]
   omega
  have ao:ZP (Zl (callsOf t) w.train) 0 w.station<=a:=by
   have:=Zku (q:=λc:Call=>decide (c.station=w.station)) (d:=default) (l:=Zl (callsOf t) w.train) (i:=0) (k:=a.toNat) (by have:=G.2.2.2;have:=G.2.2.1;omega) (iZ ae);have h0:=G.2.2.1;unfold ZP;rw[show max 0 (0:Int)=0 from rfl,show(0:Int).toNat=0 from rfl,List.drop_zero];omega
  have aa:∀(n:Nat) (g:Int),0<=g->StopIn (callsOf t) w.train (g+n)->(Zs (callsOf t) w.train g).depart<=(Zs (callsOf t) w.train (g+n)).depart:=by
   intro n;induction n with
   |zero=>intro g _ _;rw[show g+((0:Nat):Int)=g by omega];exact bS _
   |succ n ih=>
    intro g h0 I;have hp:StopIn (callsOf t) w.train (g+n):=⟨I.1,I.2.1,by omega,by have:=I.2.2.2;omega⟩;have U:=ih g h0 hp;have h2:=S w.train (g+((n+1:Nat):Int)) I (by omega);rw[show g+((n+1:Nat):Int)-1=g+n by omega]at h2;have H:=((J w.train I.1 I.2.1).1 _ (Z _ _ I)).2.1;omega
  have hm:=aa (a-ZP (Zl (callsOf t) w.train) 0 w.station).toNat (ZP (Zl (callsOf t) w.train) 0 w.station) (by omega) (by rw[show ZP (Zl (callsOf t) w.train) 0 w.station+((a-ZP (Zl (callsOf t) w.train) 0 w.station).toNat:Int)=a by omega];exact G);rw[show ZP (Zl (callsOf t) w.train) 0 w.station+((a-ZP (Zl (callsOf t) w.train) 0 w.station).toNat:Int)=a by omega]at hm;have g6:¬(Zs (callsOf t) w.train (ZJ (Zl (callsOf t) w.train) w.station)).depart<(Zs (callsOf t) w.feeder (Zv (Zl (callsOf t) w.feeder) w.station)).arrive:=g5;rw[ab]at g6;omega
 obtain⟨i,hi,Y⟩:=Zah (d:=default) ac;have A:=hd i (by omega) (by omega);rw[Y]at A;unfold Ql at A;split at A
 ·cases A
 split at A
 ·cases A
 rename_i g2;split at A
 ·cases A
 rename_i g3;split at A
 ·exact absurd A (by assumption)
 rename_i V;have V:=Qi (bQ V);refine⟨by omega,by omega,λn hn=>?_⟩;obtain⟨k,hk,Y⟩:=Zah (d:=0) hn;have h6:=V k (by omega) (by omega);unfold Zd9 at h6;rw[Y]at h6;split at h6
 ·cases h6
 rename_i h7;exact QE (by simpa using h7)
end Sp
namespace Vm
attribute [local irreducible] Dn
open Go Go.Proofs Sp
set_option maxRecDepth 100000
set_option maxHeartbeats 4000000
def vB (A:(α:Type)->α->List α->Int->α) (q:Nat) (c:List (List Sp.Call)):Zh:=.vgar 1 (λ_=>(c.length:Int)) (λe=>[.nsub q e λ_=>((A (List Sp.Call) [] c (e ())).length:Int)])
def fB (A:(α:Type)->α->List α->Int->α) (z:Nat) (c:List (List Sp.Call)) (f:Nat->Nat->Int):Zh:=.fam z 1 (λ_=>(c.length:Int)) (λe _=>((A (List Sp.Call) [] c (e ())).length:Int)) (λe k=>[.int .i64 λ_=>f (e ()).toNat (k ()).toNat])
def Zll (n:Int):AV:=.agg [.gsl 0 λ_=>n,.gsl 2 λ_=>n,.gsl 4 λ_=>n]
def ZiA (A:(α:Type)->α->List α->Int->α) (c:List (List Sp.Call)) (w:W3):List Zh:=[vB A 1 c,fB A 6 c w.co,vB A 3 c,fB A 6 c w.re,vB A 5 c,fB A 6 c w.go]
theorem Zvb {g:List AV} {F v:Int} {A:Unit->Bool} {V:Unit->Int} (h:g=[.int .i64 λ_=>F]) (hv:V ()=v):putC g 0 ((QA A (eR purify (AV.int .i64 V).cellsOf) (gP 1 (iJ 0 g))).getD [])=[.int .i64 λ_=>bif A ()then v else F]:=by
 subst h;subst hv;rfl
theorem Zm3 (a r:Nat):decide ((a:Int)=r)=(a==r):=by
 by_cases h:a=r
 ·subst h;simp
 rw[iY (by omega)];exact(beq_eq_false_iff_ne.mpr h).symm
theorem ZuX (f:Nat->Nat->Int) (r i a b:Nat) (v:Int):(bif decide ((a:Int)=r)&&decide ((b:Int)=i)then v else f a b)=JK f r i v a b:=by
 unfold JK;rw[Zm3,Zm3]
theorem JU {g:(Unit->Int)->(Unit->Int)->List AV} {F:Nat->Nat->Int} {r i:Nat} {v:Int} {V:Unit->Int} (H:∀a b:Nat,g (λ_=>(a:Int)) (λ_=>(b:Int))=[.int .i64 λ_=>F a b]) (hv:V ()=v):
  ∀a b:Nat,(λ(G A:Unit->Int)=>putC (g G A) 0 ((QA (λ_=>decide (G ()=(r:Int))&&decide (A ()=(i:Int))) (eR purify (AV.int .i64 V).cellsOf) (gP 1 (iJ 0 (g G A)))).getD [])) (λ_=>(a:Int)) (λ_=>(b:Int))=[.int .i64 λ_=>JK F r i v a b]:=λa b=>by
 show putC (g (λ_=>(a:Int)) (λ_=>(b:Int))) 0 _=_;rw[Zvb (H a b) hv,<-ZuX]
theorem ZiD (f:Nat->Nat->Int) (r i:Nat) (a b:Int):JK (JK f r i a) r i b=JK f r i b:=by
 funext p q;unfold JK;cases (p==r&&q==i)<;>rfl
theorem JT {n k z:Nat} {N:Unit->Int} {m:(Unit->Int)->Unit->Int} {g:(Unit->Int)->(Unit->Int)->List AV} {F A:Nat->Nat->Int} (G:∀a b:Nat,g (λ_=>(a:Int)) (λ_=>(b:Int))=[.int .i64 λ_=>F a b]) (H:F=A):
  ZK n k (.fam z 1 N m g) (.fam z 1 N m λe k=>[.int .i64 λ_=>A (e ()).toNat (k ()).toNat]):=.fam rfl (λ_ _=>rfl) λa _ b _=>by
 subst H;rw[G a b];rfl
def ZwM (t:Zb) (x:List Int) (w:W3) (r i:Nat):W3:=
 ⟨bif decide (0<i)then JK w.co r i (YG t x w r i)else w.co,JK w.re r i (bif decide (0<i)then max (QX t r i) (YG t x w r i)else QX t r i),w.go⟩
theorem Zya {H:(α:Type)->α->List α->Int->α} (O:∀(α:Type) (d:α) (l:List α) (i:Int),H α d l i=l.getD i.toNat d) (t:Zb) (U:ZA t) (bk:∀w∈t.waits,w.feeder≠w.train) (x:List Int) (w:W3) (hw:BdW t w) (r i:Nat) (hs:StopIn (callsOf t) r i):
  SC (λ_=>aB) 180 [Zf t,lst 1 Zc [] (callsOf t),lst 1 QO 0 (Qn t x),Zll (callsOf t).length,.int .i64 λ_=>(r:Int),.int .i64 λ_=>(i:Int)] (ZiA H (callsOf t) w) λv h=>h=ZiA H (callsOf t) (Zbb t x w r i):=by
 have k1:=Zx8 t (Qn t x) r ((i:Int)-1) (by have:=U.dlen;omega) (Zf5 t x);rw[ZvN]at k1;refine SC.less (ZwZ false [6] [0,1,2,3,4,5] Tryz.func180 (body:=Zj Tryz.f180) rfl (by decide+kernel) ?_);have hn:=U.nn r i hs;have ar:=Zne U x hw hs;have A:ZwM t x w r i=⟨bif decide (0<i)then JK w.co r i (YG t x w r i)else w.co,JK w.re r i (bif decide (0<i)then max (QX t r i) (YG t x w r i)else QX t r i),w.go⟩:=rfl;have aa:0<i->YG t x w r i=w.go r (i-1)+(Zs (callsOf t) r i).arrive-(Zs (callsOf t) r (i-1:Nat)).depart+Zdz t x r ((i:Int)-1):=λh=>by
  unfold YG;rw[show((i-1:Nat):Int)=(i:Int)-1 by omega]
 have aq:0<i->0<=w.go r (i-1)/\w.go r (i-1)<=1099511640000/\0<=(Zs (callsOf t) r (i-1:Nat)).depart/\(Zs (callsOf t) r (i-1:Nat)).depart<=1099511627776:=λh=>by
  have hp:=ZhX hs h;have h1:=(hw r (i-1) hp).2.2;have h2:=U.nn r (i-1:Nat) hp
  have h3:=U.calls.row (Sp.Zl (callsOf t) r) (by
   unfold Sp.Zl;have:(r:Int).toNat<(callsOf t).length:=by have:=hs.2.1;omega
   rw[aA,aD this]
   exact bM _)
  have h4:=hs.2.2.2;unfold QX at h1;omega
 have ce:=Zd8 U x r ((i:Int)-1);have cg:=hs.2.1;have bt:=hs.2.2.2
 have bq:=U.calls.row (Sp.Zl (callsOf t) r) (by
  unfold Sp.Zl;have:(r:Int).toNat<(callsOf t).length:=by omega
  rw[aA,aD this]
  exact bM _)
 have J:=ZnV x w (r:=r) (i:=i) (t:=t);have G:=ZqB x w (r:=r) (i:=i) (t:=t);have ah:QX t r i=(Zs (callsOf t) r i).depart:=rfl;generalize QX t r i=D at*;generalize ZwM t x w r i=w1 at*;generalize YG t x w r i=C at*;generalize Zdz t x r ((i:Int)-1)=B at*;have ab:Sp.Zl (callsOf t) r=H (List Sp.Call) [] (callsOf t) r:=by rw[O];rfl
 have S:Zs (callsOf t) r i=H Sp.Call default (H (List Sp.Call) [] (callsOf t) r) i:=by unfold Zs;rw[ab,O Sp.Call]
 have Z:0<i->Zs (callsOf t) r (i-1:Nat)=H Sp.Call default (H (List Sp.Call) [] (callsOf t) r) ((i:Int)-1):=λh=>by unfold Zs;rw[ab,O Sp.Call,show((i-1:Nat):Int)=(i:Int)-1 by omega]
 rw[ab]at bt bq J G;unfold Zf Zll ZiA vB fB;unfold Zf at k1;simp only[Za O]at k1;rw[ZaN O];simp only[Za O];have cn:=U.calls.len;have cf:=U.dlen;have ck:=U.wlen;generalize bz:Zbb t x w r i=wE at*;generalize Y:callsOf t=c at*;rw[S]at hn aa ah;refine vS ?_;refine Chk.mk (ZH) ?_;refine Zq7 false false [] 50 [1,4,5,6,9,12] (λ_=>[]) (λw1:W3=>[(1,fB H 6 c w1.co),(3,fB H 6 c w1.re)]) (λX=>X=w1) (λ_ _ h=>h) (by decide) ?_ ?_
 ·refine wS ?_;refine⟨λh0=>?_,λh0=>?_⟩
  ·have h0:=iW h0;have aq:=aq (by omega);have aa:=aa (by omega);have Z:=Z (by omega);rw[Z]at aq aa;have e1:((i:Int)-1).toNat=i-1:=by omega
   refine vS ?_;simp only[aV,e1];refine Chk.mk (ZH) ?_;refine ZN (k1) (by first|rfl|(simp only[Ze,Zd,Zf,Zc,Z4,Za O];rfl)) λr a9 hp=>?_;(try simp only[Ze,Zd,Zf,Zc,Z4,Za O]at hp);obtain⟨rfl,rfl⟩:=hp;refine vS ?_;simp only[aV,e1];refine Chk.mk (ZH) ?_;have V:decide (0<i)=true:=iZ (by omega);rw[V]at A;have hV:w.go r (i-1)+(H Sp.Call default (H (List Sp.Call) [] c r) i).arrive-(H Sp.Call default (H (List Sp.Call) [] c r) ((i:Int)-1)).depart+B=C:=by rw[aa]
   refine vS ?_;refine⟨w1,rfl,?_⟩;refine Zv8 ?_ ?_
   ·refine JT (F:=JK w.co r i C) (λa b=>?_) (by rw[A];rfl);exact JU (g:=λe k=>[.int .i64 λ_=>w.co (e ()).toNat (k ()).toNat]) (F:=w.co) (λ_ _=>rfl) hV a b
   refine JT (F:=JK (JK w.re r i D) r i (max D C)) (λa b=>?_) (by rw[A,ZiD];rfl);refine JU (g:=λ(e' k':Unit->Int)=>putC ((λ(e k:Unit->Int)=>[AV.int .i64 λ_=>w.re (e ()).toNat (k ()).toNat]) e' k') 0 ((QA (λ_=>decide (e' ()=(r:Int))&&decide (k' ()=(i:Int))) (eR purify (AV.int .i64 λ_=>(H Sp.Call default (H (List Sp.Call) [] c r) i).depart).cellsOf) (gP 1 (iJ 0 ((λ(e k:Unit->Int)=>[AV.int .i64 λ_=>w.re (e ()).toNat (k ()).toNat]) e' k')))).getD [])) (F:=JK w.re r i D) (JU (g:=λe k=>[.int .i64 λ_=>w.re (e ()).toNat (k ()).toNat]) (F:=w.re) (λ_ _=>rfl) ah.symm) ?_ a b;show(if _<(bif (decide True&&decide True)then _ else _)then(bif (decide True&&decide True)then _ else _)else _)=_;rw[iZ trivial,Bool.and_self,cond_true,hV,<-ah];split<;>omega
  have h0:=iX h0;have V:decide (0<i)=false:=iY (by omega);rw[V]at A;refine wS ?_;refine⟨w1,rfl,?_⟩;refine Zv8 ?_ ?_
  ·exact JT (λa b=>rfl) (by rw[A];rfl)
  refine JT (F:=JK w.re r i D) (λa b=>?_) (by rw[A];rfl);exact JU (g:=λe k=>[.int .i64 λ_=>w.re (e ()).toNat (k ()).toNat]) (F:=w.re) (λ_ _=>rfl) ah.symm a b
 intro X hX;subst hX;refine wS ?_;refine⟨λh3=>?_,λh3=>?_⟩
 ·have h3:=eq_of_beq h3;have h0:0<i:=by omega
  have V:decide (0<i)=true:=iZ h0;rw[V]at A;have ar:=ar h0;have J:=J (by omega) h0;have aw:X.co r i=C:=by rw[A];exact Zbs _ _ _ _
  refine vS ?_;refine Chk.mk (ZH) ?_;refine vS ?_;refine⟨.tup [],_,?_,rfl⟩;(refine To.of [] ?_;cbv;(try simp only[nc]);(repeat' first|exact xT|refine⟨?_,?_⟩|refine ZK.cells ?_|refine Zz.agg ?_|refine Zz.tup ?_);all_goals try exact XU)
  ·exact JT (F:=X.co) (λ_ _=>rfl) (by rw[J,A];rfl)
  ·refine JT (F:=JK X.re r i C) (λa b=>?_) (by rw[J,A];exact ZiD _ _ _ _ _);exact JU (g:=λe k=>[.int .i64 λ_=>X.re (e ()).toNat (k ()).toNat]) (F:=X.re) (λ_ _=>rfl) aw a b
  refine JT (F:=JK w.go r i C) (λa b=>?_) (by rw[J]);exact JU (g:=λe k=>[.int .i64 λ_=>w.go (e ()).toNat (k ()).toNat]) (F:=w.go) (λ_ _=>rfl) aw a b
 have h3:=ne_of_beq_false h3;have G:=G h3 (by omega);generalize ac:(bif decide (0<i)then max D C else D)=rd at*;have bh:X.re r i=rd:=by rw[A];exact Zbs _ _ _ _
 refine vS ?_;simp only[aV,bh];refine Chk.mk (ZH) ?_;refine vS ?_;refine Zkk false [6] [1,4,5,6,9,12,13] [] (λ(⟨k,g⟩:Nat×Int)=>[(13,.int .i64 λ_=>(k:Int))]) (λ⟨k,g⟩=>[(5,fB H 6 c (JK w.go r i g))])
  (λ⟨k,g⟩=>k<=t.waits.length/\g=(t.waits.take k).foldl (JS c (λf a=>w.co f.toNat a.toNat) r (Zs c r i)) rd) (λk=>t.waits.length-k.1+0) (0,rd) ⟨aT _,rfl⟩ ?_ ?_
 ·refine Ji ?_;refine JT (F:=JK w.go r i rd) (λa b=>?_) rfl;exact JU (g:=λe k=>[.int .i64 λ_=>w.go (e ()).toNat (k ()).toNat]) (F:=w.go) (λ_ _=>rfl) rfl a b
 rintro⟨k,g⟩ ⟨hk,hg⟩;refine wS ?_;refine⟨λhb=>?_,λhb=>?_⟩
 ·have hb:=iW hb;have ai:=Qr (d:=default) O (l:=t.waits) (i:=k) (by omega);have am:=X9 (d:=default) O (l:=t.waits) (i:=k) (by omega);refine vS ?_;generalize hv:H QH default t.waits (k:Int)=v at*;have ak:=U.w v ai;have bc:=bk v ai;have ae:=YR U ai;have I:∀g,JS c (λf a=>w.co f.toNat a.toNat) r (Zs c r i) g v=if v.train≠r\/v.station≠(Zs c r i).station then g
   else if w.co v.feeder.toNat (Zv (Sp.Zl c v.feeder) v.station).toNat<=(Zs c r i).depart+v.minutes then max g (w.co v.feeder.toNat (Zv (Sp.Zl c v.feeder) v.station).toNat)else g:=λ_=>rfl
  rw[Y]at ak ae;try simp only[hv]
  refine Chk.mk (ZH) ?_;refine vS ?_;rw[S]at I;refine⟨λh6=>?_,λh6=>?_⟩
  ·have hq:v.train≠r\/v.station≠(H Sp.Call default (H (List Sp.Call) [] c r) i).station:=by
    by_cases e1:v.train=r
    ·rw[bne_eq_false_iff_eq.mpr e1]at h6;exact .inr (bne_iff_ne.mp h6)
    exact .inl e1
   refine wS ?_;refine⟨(k+1,g),⟨by omega,by rw[am,eU,<-hg,S];exact((I g).trans (iP hq)).symm⟩,by show t.waits.length-(k+1)+0<t.waits.length-k+0;omega,?_⟩;exact ZB
  have au:v.train=r:=by
   by_cases e1:v.train=r
   ·exact e1
   rw[bne_iff_ne.mpr e1]at h6;cases h6
  have bm:v.station=(H Sp.Call default (H (List Sp.Call) [] c r) i).station:=by
   rw[bne_eq_false_iff_eq.mpr au]at h6;exact bne_eq_false_iff_eq.mp h6
  have bp:Sp.Zl c v.feeder=H (List Sp.Call) [] c v.feeder:=by rw[O];rfl
  have bg:H (List Sp.Call) [] c v.feeder∈c:=by
   have:v.feeder.toNat<c.length:=by omega
   rw[O,aA,aD this];exact bM _
  have ci:=U.calls.row (H (List Sp.Call) [] c v.feeder) (by rw[Y];exact bg);rw[bp]at ak ae I;have I:=λg=>(I g).trans (iN (λh=>h.elim (λh=>h au) (λh=>h bm)));refine vS ?_;generalize hF:H (List Sp.Call) [] c v.feeder=F at*;have k2:=Zvv F v.station 1 (F.length-1) (by omega) (by omega) (by omega) (by omega) (by omega);rw[ZdL]at k2;have bl:=YL F 1 v.station;have b9:=ak.2.2.1;have bw:X.co v.feeder.toNat (Zv F v.station).toNat=w.co v.feeder.toNat (Zv F v.station).toNat:=by
   have ba:¬(v.feeder.toNat=r/\(Zv F v.station).toNat=i):=λh=>bc (by omega);rw[A];show(bif decide (0<i)then JK w.co r i C else w.co) _ _=_;cases decide (0<i)
   ·rfl
   exact Zeo ba
  have cj:=(hw v.feeder.toNat (Zv F v.station).toNat (by
   rw[Y,show((v.feeder.toNat:Nat):Int)=v.feeder by omega,show(((Zv F v.station).toNat:Nat):Int)=Zv F v.station by omega]
   exact ae)).1
  have bx:Zv F v.station<F.length:=by unfold Zv;exact bl.1
  have ca:QX t v.feeder.toNat (Zv F v.station).toNat<=1099511627776:=by
   unfold QX;rw[Y,show((v.feeder.toNat:Nat):Int)=v.feeder by omega,show(((Zv F v.station).toNat:Nat):Int)=Zv F v.station by omega];have h:=(U.nn _ _ (by rw[Y];exact ae)).2.2;rw[Y]at h;exact h
  simp only[Za O]at k2;try simp only[hF,hv]
  refine Chk.mk (ZH) ?_;refine ZN (k2) (by first|rfl|(simp only[Ze,Zd,Zf,Zc,Z4,Za O];rfl)) λr a9 hp=>?_;(try simp only[Ze,Zd,Zf,Zc,Z4,Za O]at hp);obtain⟨rfl,rfl⟩:=hp;generalize Zv F v.station=m at*;refine vS ?_;try simp only[hF,hv,bw]
  refine Chk.mk (ZH) ?_;refine vS ?_;refine⟨λh7=>?_,λh7=>?_⟩
  ·have I:=λg=>(I g).trans (iP (iW h7));have aj:JK w.go r i g r i=g:=Zbs _ _ _ _;generalize w.co v.feeder.toNat m.toNat=cm at*;refine vS ?_;simp only[aV,aj];refine Chk.mk (ZH) ?_;refine vS ?_;have az:=I g;generalize bo:max g cm=g2 at az;refine⟨(k+1,g2),⟨by omega,by rw[am,eU,<-hg,S];exact az.symm⟩,by show t.waits.length-(k+1)+0<t.waits.length-k+0;omega,?_⟩;refine Ji ?_;refine JT (F:=JK (JK w.go r i g) r i g2) (λa b=>?_) (ZiD _ _ _ _ _);refine JU (g:=λe k=>[.int .i64 λ_=>JK w.go r i g (e ()).toNat (k ()).toNat]) (F:=JK w.go r i g) (λ_ _=>rfl) ?_ a b;show(if g<cm then cm else g)=g2;rw[<-bo];split<;>omega
  have I:=λg=>(I g).trans (iN (iX h7));refine wS ?_;refine⟨(k+1,g),⟨by omega,by rw[am,eU,<-hg,S];exact(I g).symm⟩,by show t.waits.length-(k+1)+0<t.waits.length-k+0;omega,?_⟩;exact ZB
 have hb:=iX hb;have bu:t.waits.take k=t.waits:=dT (by omega);rw[bu]at hg;refine wS ?_;have ao:g=goW t w r i rd:=by unfold goW;rw[Y];exact hg
 refine⟨λh5=>?_,λh5=>?_⟩
 ·have h5:=eq_of_beq h5;have V:decide (0<i)=false:=iY (by omega);rw[V]at A G ac;have ac:D=rd:=ac;have aj:JK w.go r i g r i=g:=Zbs _ _ _ _;refine wS ?_;refine⟨.tup [],_,?_,rfl⟩;(refine To.of [] ?_;cbv;(try simp only[nc]);(repeat' first|exact xT|refine⟨?_,?_⟩|refine ZK.cells ?_|refine Zz.agg ?_|refine Zz.tup ?_);all_goals try exact XU)
  ·refine JT (F:=JK X.co r i g) (λa b=>?_) (by rw[G,A,ao,<-ac];rfl);exact JU (g:=λe k=>[.int .i64 λ_=>X.co (e ()).toNat (k ()).toNat]) (F:=X.co) (λ_ _=>rfl) aj a b
  ·exact JT (F:=X.re) (λ_ _=>rfl) (by rw[G,A])
  exact JT (F:=JK w.go r i g) (λ_ _=>rfl) (by rw[G,ao])
 have h5:=ne_of_beq_false h5;have V:decide (0<i)=true:=iZ (by omega);rw[V]at A G;refine wS ?_;refine⟨.tup [],_,?_,rfl⟩;(refine To.of [] ?_;cbv;(try simp only[nc]);(repeat' first|exact xT|refine⟨?_,?_⟩|refine ZK.cells ?_|refine Zz.agg ?_|refine Zz.tup ?_);all_goals try exact XU)
 ·exact JT (F:=X.co) (λ_ _=>rfl) (by rw[G,A];rfl)
 ·exact JT (F:=X.re) (λ_ _=>rfl) (by rw[G,A])
 exact JT (F:=JK w.go r i g) (λ_ _=>rfl) (by rw[G,ao])
set_option maxHeartbeats 8000000
set_option cbv.maxSteps 3000000
def ZnL:AV:=.isl 0 (λ_=>0) (λ_=>[]) .nil
theorem ZwK {s:List AV} {b0 b1:Zh}:To s [b0,b1,.cells [ZnL,ZnL,ZnL]] s ([b0,b1,.cells [.gsl 3 λ_=>0,.gsl 5 λ_=>0,.gsl 7 λ_=>0]]++Zcd 9 1 1++Zcd 9 1 1++Zcd 9 1 1):=by
 refine(To.nest 1 1 (h₂:=[b0,b1,.cells [.gsl 3 λ_=>0,ZnL,ZnL]]++Zcd 9 1 1) ⟨Yw.refl _,?_⟩).trans ((To.nest 1 1 (h₂:=[b0,b1,.cells [.gsl 3 λ_=>0,.gsl 5 λ_=>0,ZnL]]++Zcd 9 1 1++Zcd 9 1 1) ⟨Yw.refl _,?_⟩).trans (To.nest 1 1 ⟨Yw.refl _,?_⟩))
 ·exact⟨.refl _,.refl _,.cells ⟨.nilGar (show 3<=3 by decide) (show 3<4 by decide) rfl,.refl _,.refl _,trivial⟩,.refl _,.famZ (show 3<=9 by decide),trivial⟩
 ·exact⟨.refl _,.refl _,.cells ⟨.refl _,.nilGar (show 5<=5 by decide) (show 5<6 by decide) rfl,.refl _,trivial⟩,.refl _,.refl _,.refl _,.famZ (show 5<=9 by decide),trivial⟩
 exact⟨.refl _,.refl _,.cells ⟨.refl _,.refl _,.nilGar (show 7<=7 by decide) (show 7<8 by decide) rfl,trivial⟩,.refl _,.refl _,.refl _,.refl _,.refl _,.famZ (show 7<=9 by decide),trivial⟩
theorem Zly {n k q id:Nat} {A:(α:Type)->α->List α->Int->α} (O:∀(α:Type) (d:α) (l:List α) (i:Int),A α d l i=l.getD i.toNat d) {l:List (List Sp.Call)} {C:List Sp.Call} {T:AV->AV} (hT:∀(x:List Sp.Call) (e:Unit->Int),[AV.nsub q e λ_=>(x.length:Int)].map T=[AV.nsub q e λ_=>(x.length:Int)])
  (G:Yw n k ([AV.nsub q (λ_=>(l.length:Int)) λ_=>(C.length:Int)].map T) [AV.nsub q (λ_=>(l.length:Int)) λ_=>(C.length:Int)]):
  ZK n k (.vgar 1 (λ_=>(l.length:Int)+1) λe=>(Z0 (λ_=>(l.length:Int)) (λe=>[AV.nsub q e λ_=>((A (List Sp.Call) [] l (e ())).length:Int)]) (λ_=>[AV.gsl id λ_=>(C.length:Int)].set 0 (AV.nsub q (λ_=>(l.length:Int)) λ_=>(C.length:Int))) e).map T)
   (.vgar 1 (λ_=>((l++[C]).length:Int)) λe=>[AV.nsub q e λ_=>((A (List Sp.Call) [] (l++[C]) (e ())).length:Int)]):=
 ZK.snocVT (encV:=λ(x:List Sp.Call) e=>[AV.nsub q e λ_=>(x.length:Int)]) (d:=[]) (x:=C) O hT rfl rfl G
theorem Zlz {n k z:Nat} {A:(α:Type)->α->List α->Int->α} (O:∀(α:Type) (d:α) (l:List α) (i:Int),A α d l i=l.getD i.toNat d) {l:List (List Sp.Call)} {C:List Sp.Call}:
  ZK n k (.fam z 1 (λ_=>(l.length:Int)+1) (ZbO (λ_=>(l.length:Int)) (λe _=>((A (List Sp.Call) [] l (e ())).length:Int)) λ_=>(C.length:Int)) (Ja (λ_=>(l.length:Int)) (λ_ _=>[AV.int .i64 λ_=>0]) λ_=>eR purify (XK (Value.int .i64 0)).cellsOf))
   (.fam z 1 (λ_=>((l++[C]).length:Int)) (λe _=>((A (List Sp.Call) [] (l++[C]) (e ())).length:Int)) λ_ _=>[AV.int .i64 λ_=>0]):=
 ZK.snocM (inner:=λx:List Sp.Call=>x) (enc:=λ_:Sp.Call=>[AV.int .i64 λ_=>0]) (dβ:=default) (d:=[]) (l:=l) (x:=C) O rfl rfl rfl λ_ _=>rfl
theorem Zgz {q:Nat} {H:(α:Type)->α->List α->Int->α} {l:List (List Sp.Call)} {n:Int}:∀i:Nat,(i:Int)<n->∀c∈ [AV.nsub q (λ_=>(i:Int)) λ_=>((H (List Sp.Call) [] l (i:Int)).length:Int)],∀e m:Unit->Int,c=AV.nsub q e m->m ()=((H (List Sp.Call) [] l (e ())).length:Int):=λi _ c G e m A=>by
 subst A;simp only[aN,AV.nsub.injEq,true_and]at G;obtain⟨rfl,rfl⟩:=G;rfl
theorem Zjg {n k:Nat} {A:(α:Type)->α->List α->Int->α} (O:∀(α:Type) (d:α) (l:List α) (i:Int),A α d l i=l.getD i.toNat d) {t:Zb} {F f:Nat->Nat->Int} (S:∀r i:Nat,StopIn (callsOf t) r i->F r i=f r i) {tk:Tk}:
  Zz n k (.isl 1 (λ_=>((callsOf t).length:Int)) (λe=>[.isl 1 (λ_=>((A (List Sp.Call) [] (callsOf t) (e ())).length:Int)) (λq=>[.int .i64 λ_=>F (e ()).toNat (q ()).toNat]) .none]) tk) (lst 1 Z4 [] (Yv t f)):=by
 refine .elems (by rw[Zd5]) λi H=>.one λw ok v h=>?_;have H:(i:Int)<((callsOf t).length:Int):=H;have e:(Yv t f).getD i []=(aP (YF t i)).map λj=>f i j:=Zbf t f (by omega);have I:(A (List Sp.Call) [] (callsOf t) (i:Int))=Sp.Zl (callsOf t) i:=by rw[O];rfl
 refine h.elems ?_ λj G=>?_
 ·show((A (List Sp.Call) [] (callsOf t) (i:Int)).length:Int)=(((Yv t f).getD (fy i) []).length:Int);rw[aV,e,I,aX,cH];rfl
 have G:(j:Int)<((A (List Sp.Call) [] (callsOf t) (i:Int)).length:Int):=G;rw[I]at G;have J:StopIn (callsOf t) (i:Int) (j:Int):=⟨by omega,H,by omega,G⟩;show Ya [.int .i64 λ_=>F (fy i) (fy j)] [.int .i64 λ_=>((Yv t f).getD (fy i) []).getD (fy j) 0];rw[aV,aV,S i j J,ZcR t f (by omega) (by unfold YF;omega)];exact .refl _
theorem cL2 (l:List Nat) {f:FuncId} {xs I:List AV} {h J:List Zh} {G Q:AV->List Zh->Prop} (H:SC (λ_=>aB) f I J Q) (S:∀ r A,Q r A->G (ren (Jh l h.length) 5 r) (back l h A)) (Z:l.Nodup:=by decide) (U:∀ i∈l,i<h.length:=by simp) (Y:xs.map (QD false l h 5)=I:=by first|rfl|(simp only[Ze,Zd,Zf,Zc,Z4,Za O];rfl)) (V:sel false l h=J:=by first|rfl|(simp only[Ze,Zd,Zf,Zc,Z4,Za O];rfl)):SC (λ_=>aB) f xs h G:=ZU l H Z U Y V S
theorem Zyg (t:Zb) (H:Xk t.book) (hf:ZA t) (am:∀w∈t.waits,w.feeder≠w.train) (hr:t.runs.length<=1000000) (x:List Int):
  SC (λ_=>aB) 138 [Zf t,lst 1 QO 0 (Qn t x)] [] λv h=>v= .agg (QR (Jj t x))/\h=[]:=by
 obtain⟨A,O⟩:=Zm;obtain⟨wx,ab⟩:∃wx,wx=Jj t x:=⟨_,rfl⟩;rw[<-ab];have k1:=ZvA t H hr;refine SC.less (ZwZ false [19] [] Tryz.func138 (body:=Zj Tryz.f138) rfl (by decide+kernel) ?_);unfold Zf at*;rw[ZaN O]at k1;simp only[Za O]at k1|-;have J:=hf.calls;generalize S:callsOf t=c at*;refine wS ?_;refine ZN (k1) (by first|rfl|(simp only[Ze,Zd,Zf,Zc,Z4,Za O];rfl)) λr ah hp=>?_;(try simp only[Ze,Zd,Zf,Zc,Z4,Za O]at hp);obtain⟨rfl,rfl⟩:=hp;refine wS ?_;refine Zvj false [] ZwK ?_;refine Zkk false [] [1,2,4,5,6,7,8] [] (λ(⟨k,l,n⟩:Nat×List (List Sp.Call)×Int)=>[(7,.int .i64 λ_=>n),(8,.int .i64 λ_=>(k:Int))])
  (λ⟨k,l,n⟩=>[(2,.cells [.gsl 3 λ_=>(l.length:Int),.gsl 5 λ_=>(l.length:Int),.gsl 7 λ_=>(l.length:Int)]),
   (3,.vgar 1 (λ_=>(l.length:Int)) (λe=>[.nsub 4 e λ_=>((A (List Sp.Call) [] l (e ())).length:Int)])),(4,.fam 9 1 (λ_=>(l.length:Int)) (λe _=>((A (List Sp.Call) [] l (e ())).length:Int)) (λ_ _=>[.int .i64 λ_=>0])),
   (5,.vgar 1 (λ_=>(l.length:Int)) (λe=>[.nsub 6 e λ_=>((A (List Sp.Call) [] l (e ())).length:Int)])),(6,.fam 9 1 (λ_=>(l.length:Int)) (λe _=>((A (List Sp.Call) [] l (e ())).length:Int)) (λ_ _=>[.int .i64 λ_=>0])),
   (7,.vgar 1 (λ_=>(l.length:Int)) (λe=>[.nsub 8 e λ_=>((A (List Sp.Call) [] l (e ())).length:Int)])),(8,.fam 9 1 (λ_=>(l.length:Int)) (λe _=>((A (List Sp.Call) [] l (e ())).length:Int)) (λ_ _=>[.int .i64 λ_=>0]))])
  (λ⟨k,l,n⟩=>k<=c.length/\l=c.take k/\0<=n/\n<=4*k/\n=((l.map fR).sum:Nat)) (λk=>c.length-k.1+0) (0,[],0) ⟨aT _,rfl,by decide,by decide,rfl⟩ ?_ ?_
 ·(refine To.of [] ?_;cbv;(try simp only[nc]);(repeat' first|exact xT|refine⟨?_,?_⟩|refine ZK.cells ?_|refine Zz.agg ?_|refine Zz.tup ?_);all_goals try exact XU)
  ·exact .vgar0 rfl rfl
  ·exact .fam0 rfl rfl
  ·exact .vgar0 rfl rfl
  ·exact .fam0 rfl rfl
  ·exact .vgar0 rfl rfl
  exact .fam0 rfl rfl
 intro ⟨k,l,n⟩ G;have bm:=J.len;have hk:=G.1;have ba:=G.2.2.1;have bk:=G.2.2.2.1;have Z:=G.2.2.2.2;have aj:l.length=k:=by rw[G.2.1,bW];omega
 refine vS ?_;refine⟨λH=>?_,λH=>?_⟩
 ·have H:=iW H;have aw:=J.row (A (List Sp.Call) [] c k) (Qr (d:=[]) O (l:=c) (i:=k) (by omega));have ak:=X9 (d:=[]) O (l:=c) (i:=k) (by omega);refine vS ?_;refine Chk.mk (ZH) ?_;generalize A (List Sp.Call) [] c k=C at*;have I:(k+1<=c.length/\l++[C]=c.take (k+1)/\0<=n+C.length/\n+C.length<=4*((k+1:Nat):Int)/\n+C.length=(((l++[C]).map fR).sum:Nat))/\c.length-(k+1)+0<c.length-k+0:=⟨⟨by omega,by rw[G.2.1,ak],by omega,by omega,by rw[Z,cY,List.sum_append];simp⟩,by omega⟩;clear G Z;(repeat' (first|refine Zlg.mk ?_ ?_|refine Chk.mk (ZH) ?_));all_goals (try refine vS ?_)
  all_goals (try refine Chk.mk (ZH) ?_)
  all_goals refine⟨(k+1,l++[C],n+C.length),I.1,I.2,?_⟩
  all_goals
   (refine To.of [] ?_;cbv;(try simp only[nc]);(repeat' first|exact xT|refine⟨?_,?_⟩|refine ZK.cells ?_|refine Zz.agg ?_|refine Zz.tup ?_);all_goals try exact XU)
   ·exact Zly O (λ_ _=>rfl) ⟨.nsub rfl rfl,trivial⟩
   ·exact Zlz O
   ·exact Zly O (λ_ _=>rfl) ⟨.nsub rfl rfl,trivial⟩
   ·exact Zlz O
   ·exact Zly O (λ_ _=>rfl) ⟨.nsub rfl rfl,trivial⟩
   exact Zlz O
 have H:=iX H;have ao:k=c.length:=by omega
 have ae:l=c:=by rw[G.2.1,ao,fa]
 have bg:n=((Xh t).length:Nat):=by
  rw[ZhQ,S,Z,ae]
 clear G Z aj;subst ae;refine vS ?_;have hN:∀a b:Nat,a<l.length->b<(A (List Sp.Call) [] l a).length->StopIn (callsOf t) a b:=λa b h1 h2=>by
  have ai:Sp.Zl l a=A (List Sp.Call) [] l a:=by rw[O];rfl
  rw[S];exact⟨by omega,by omega,by omega,by rw[ai];omega⟩
 refine Zq7 false false [] 50 [4,6] (λ_:Unit=>[]) (λ_=>[(2,.cells [lst 1 Z4 [] wx.come,lst 1 Z4 [] wx.ready,lst 1 Z4 [] wx.go]),(3,.dead),(4,.dead),(5,.dead),(6,.dead),(7,.dead),(8,.dead)]) (λ_=>True) (λ_ _ h=>h) (by decide) ?_ (λ_ _=>?_);rotate_left
 ·unfold QR;refine wS ?_;refine⟨_,[],?_,rfl,rfl⟩;exact ZB
 refine wS ?_;refine Zkk false [] [1,2,4,5,6,7,9] [] (λ(⟨k,w⟩:Nat×W3)=>[(9,.int .i64 λ_=>(k:Int))])
  (λ⟨k,w⟩=>[(4,fB A 9 l w.co),(6,fB A 9 l w.re),(8,fB A 9 l w.go)])
  (λ⟨k,w⟩=>k<=(Xh t).length+1/\w=Sp.Zer t x W0 k/\BdW t w) (λk=>(Xh t).length+1-k.1+0) (0,W0) ⟨aT _,rfl,ZrI hf⟩ ?_ ?_
 ·(refine To.of [] ?_;cbv;(try simp only[nc]);(repeat' first|exact xT|refine⟨?_,?_⟩|refine ZK.cells ?_|refine Zz.agg ?_|refine Zz.tup ?_);all_goals try exact XU)
  all_goals exact JT (F:=λ_ _=>0) (λ_ _=>rfl) rfl
 intro ⟨j,w⟩ hj;have a9:=hj.1;have bh:=Zp6 hf;refine vS ?_;refine⟨λH=>?_,λH=>?_⟩
 ·have H:=iW H;refine vS ?_;refine XD λQ hQ=>?_;refine Zkk false [] [1,2,4,5,6,7,9,10] [] (λ(⟨a,w⟩:Nat×W3)=>[(10,.int .i64 λ_=>(a:Int))])
   (λ⟨a,w⟩=>[(4,fB A 9 l w.co),(6,fB A 9 l w.re),(8,fB A 9 l w.go)])
   (λ⟨a,v⟩=>a<=l.length/\v=Sp.Zgt t x w a/\BdW t v) (λa=>l.length-a.1+0) (0,w) ⟨aT _,rfl,hj.2.2⟩ ?_ ?_
  ·exact ZB
  intro ⟨a,v⟩ ha;have az:=ha.1;refine vS ?_;refine⟨λH=>?_,λH=>?_⟩
  ·have H:=iW H;refine vS ?_;refine XD λQ2 aq=>?_;refine Zkk false [] [1,2,4,5,6,7,9,10,11] [] (λ(⟨b,w⟩:Nat×W3)=>[(11,.int .i64 λ_=>(b:Int))])
    (λ⟨b,w⟩=>[(4,fB A 9 l w.co),(6,fB A 9 l w.re),(8,fB A 9 l w.go)])
    (λ⟨b,u⟩=>b<=(A (List Sp.Call) [] l a).length/\u=Sp.ZnG t x v a b/\BdW t u) (λb=>(A (List Sp.Call) [] l a).length-b.1+0) (0,v) ⟨aT _,rfl,ha.2.2⟩ ?_ ?_
   ·exact ZB
   intro ⟨b,u⟩ U;have bl:=U.1;have bo:=J.row (A (List Sp.Call) [] l a) (Qr (d:=[]) O (l:=l) (i:=a) (by omega));refine vS ?_;refine Chk.mk (ZH) ?_;refine⟨λV=>?_,λV=>?_⟩
   ·have V:=iW V;have ac:=hN a b (by omega) (by omega);have k2:=Zya O t hf am x u U.2.2 a b ac;have au:=ZsY hf x U.2.2 ac;have I:Sp.ZnG t x v a (b+1)=Zbb t x u a b:=by rw[U.2.1];rfl
    generalize Zbb t x u a b=u2 at*;rw[S]at k2;unfold Zf Zll ZiA vB fB at k2;rw[ZaN O]at k2;simp only[Za O]at k2;refine vS ?_;refine cL2 [3,4,5,6,7,8] (k2) λr ah hp=>?_;(try simp only[Ze,Zd,Zf,Zc,Z4,Za O]at hp);obtain rfl:=hp;refine vS ?_;refine Chk.mk (ZH) ?_;refine⟨(b+1,u2),⟨by omega,I.symm,au⟩,by show(A (List Sp.Call) [] l a).length-(b+1)+0<(A (List Sp.Call) [] l a).length-b+0;omega,?_⟩;exact ZB
   have V:=iX V;refine vS ?_;refine aq _ _ _ ?_;refine vS ?_;refine Chk.mk (ZH) ?_;have ar:YF t a=(A (List Sp.Call) [] l a).length:=by unfold YF;rw[S,O];rfl
   have I:u=Sp.Zgt t x w (a+1):=by
    show u=Sp.ZnG t x (Sp.Zgt t x w a) a (YF t a);rw[U.2.1,ha.2.1,ar,show b=(A (List Sp.Call) [] l a).length by omega]
   refine⟨(a+1,u),⟨by omega,I,U.2.2⟩,by show l.length-(a+1)+0<l.length-a+0;omega,?_⟩;(refine To.of [] ?_;cbv;(try simp only[nc]);(repeat' first|exact xT|refine⟨?_,?_⟩|refine ZK.cells ?_|refine Zz.agg ?_|refine Zz.tup ?_);all_goals try exact XU);all_goals exact ZK.vgarT rfl λ_=>rfl
  have H:=iX H;have I:v=Sp.Zer t x W0 (j+1):=by
   show v=Sp.Zgt t x (Sp.Zer t x W0 j) (callsOf t).length;rw[ha.2.1,hj.2.1,S,show a=l.length by omega]
  refine vS ?_;refine hQ _ _ _ ?_;refine vS ?_;refine Chk.mk (ZH) ?_;refine⟨(j+1,v),⟨by omega,I,ha.2.2⟩,by show(Xh t).length+1-(j+1)+0<(Xh t).length+1-j+0;omega,?_⟩;(refine To.of [] ?_;cbv;(try simp only[nc]);(repeat' first|exact xT|refine⟨?_,?_⟩|refine ZK.cells ?_|refine Zz.agg ?_|refine Zz.tup ?_);all_goals try exact XU);all_goals exact ZK.vgarT rfl λ_=>rfl
 have H:=iX H;have bc:j=(Xh t).length+1:=by omega
 have aa:=λr i (Y:StopIn (callsOf t) (r:Nat) (i:Nat))=>ZiM hf x W0 (k:=j) (by omega) Y;rw[<-hj.2.1]at aa;refine vS ?_;refine⟨(),trivial,?_⟩;refine(To.frozeV (q:=3) rfl rfl Zgz (λi hi=>rfl) rfl).trans ((To.frozeV (q:=5) rfl rfl Zgz (λi hi=>rfl) rfl).trans ((To.frozeV (q:=7) rfl rfl Zgz (λi hi=>rfl) rfl).trans ?_));subst S;(refine To.of [] ?_;cbv;(try simp only[nc]);(repeat' first|exact xT|refine⟨?_,?_⟩|refine ZK.cells ?_|refine Zz.agg ?_|refine Zz.tup ?_);all_goals try exact XU);all_goals (try exact ZK.dead)
 all_goals subst ab
 ·exact .gd rfl (Zjg O (F:=w.co) λr i Y=>(aa r i Y).1)
 ·exact .gd rfl (Zjg O (F:=w.re) λr i Y=>(aa r i Y).2.1)
 exact .gd rfl (Zjg O (F:=w.go) λr i Y=>(aa r i Y).2.2)
set_option maxHeartbeats 4000000
theorem ZaE {A : (α : Type) -> α -> List α -> Int -> α} (O : ∀ (α : Type) (d : α) (l : List α) (i : Int), A α d l i = l.getD i.toNat d) (w : WorldL) : QR w =
    [.isl 1 (λ_ => (w.come.length : Int)) (λe => [.isl 1 (λ_ => ((A (List Int) [] w.come (e ())).length : Int)) (λq => QO (A Int 0 (A (List Int) [] w.come (e ())) (q ()))) .none]) .none,
     .isl 1 (λ_ => (w.ready.length : Int)) (λe => [.isl 1 (λ_ => ((A (List Int) [] w.ready (e ())).length : Int)) (λq => QO (A Int 0 (A (List Int) [] w.ready (e ())) (q ()))) .none]) .none,
     .isl 1 (λ_ => (w.go.length : Int)) (λe => [.isl 1 (λ_ => ((A (List Int) [] w.go (e ())).length : Int)) (λq => QO (A Int 0 (A (List Int) [] w.go (e ())) (q ()))) .none]) .none] := by
  unfold QR;simp only [Za O, JH O]
theorem Zyx (t:Zb) (A:Xk t.book) (H:ZA t) (ac:∀w∈t.waits,w.feeder≠w.train) (hr:t.runs.length<=1000000) (J:∀d∈t.delays,d.by_.length<=3):
  SC (λ_=>aB) 85 [Zf t] [] λv h=>v=lst 3 QR default (Qk t)/\h=[]:=by
 obtain⟨I,O⟩:=Zm;have S:=Zvx t.delays H.dlen J;have k2:=λx=>Zyg t A H ac hr x;rw[Zdk H.dlen]at S;have ae:((aP (manyT t)).map λn=>Qn t (Zi t n)).length=manyT t:=by rw[aX,cH]
 have aa:∀i:Nat,i<manyT t->I (List Int) [] ((aP (manyT t)).map λn=>Qn t (Zi t n)) (i:Int)=Qn t (Zi t i):=λi hi=>by
  rw[O,aV,aA,aQ,cQ hi];rfl
 have aj:=ZgJ H.dlen J;generalize (aP (manyT t)).map (λn=>Qn t (Zi t n))=L at*;have ai:=Zdj t;have Z:= @ZcD t;generalize Qk t=W at*;refine SC.less (Qq Tryz.func85 (body:=Zj Tryz.f85) rfl (by decide+kernel) ?_);unfold Zf at*;simp only[Za O,JH O]at S k2|-;refine wS ?_;refine ZN (S) (by first|rfl|(simp only[Ze,Zd,Zf,Zc,Z4,QR,Za O];rfl)) λr V G=>?_;(try simp only[Ze,Zd,Zf,Zc,Z4,QR,Za O]at G);obtain⟨rfl,rfl⟩:=G;refine wS ?_;refine ZG false false [] [1,3,4,5] [.tok 3 λ_=>0] (λ(⟨i,out⟩:Nat×List WorldL)=>[(4,.isl 3 (λ_=>(out.length:Int)) (λe=>QR (I WorldL default out (e ()))) (.own 1)),(5,.int .i64 λ_=>i)])
  (λ⟨i,out⟩=>[(1,.tok 3 λ_=>(out.length:Int))])
  (λ⟨i,out⟩=>i<=L.length/\out=W.take i) (λi=>L.length-i.1+0) (0,[]) ⟨aT _,by simp⟩ ?_ ?_
 ·(refine To.of [(3,false)] ?_;cbv;(try simp only[nc]);(repeat' first|exact xT|refine⟨?_,?_⟩|refine ZK.cells ?_|refine Zz.agg ?_|refine Zz.tup ?_);all_goals try exact XU)
 rintro⟨i,out⟩ ⟨hi,ho⟩;have ah:out.length=i:=by rw[ho,bW];omega
 refine wS ?_;refine⟨λA=>?_,λA=>?_⟩
 ·have A:=iW A;have ab:=X9 (d:=default) O (l:=W) (i:=i) (by omega);have U:=k2 (Zi t i);rw[<-aa i (by omega)]at U;have hw:I WorldL default W (i:Int)=Jj t (Zi t i):=by rw[O];exact Z (by omega)
  rw[<-hw]at U;refine vS ?_;refine Chk.mk (ZH) ?_;refine ZN (U) (by first|rfl|(simp only[Ze,Zd,Zf,Zc,Z4,QR,Za O];rfl)) λr V G=>?_;(try simp only[Ze,Zd,Zf,Zc,Z4,QR,Za O]at G);obtain⟨rfl,rfl⟩:=G;refine wS ?_;refine⟨(i+1,out++[I WorldL default W (i:Int)]),⟨by omega,by rw[ab,ho]⟩,by show L.length-(i+1)+0<L.length-i+0;omega,?_⟩;refine Ji ?_;exact .snoc O rfl rfl (by simp only[QR,Za O,JH O];rfl)
 have A:=iX A;have Y:out=W:=by rw[ho,dT (by omega)]
 subst Y;refine wS ?_;refine⟨_,[],?_,rfl,rfl⟩;exact ZB
end Vm
end Go.Proofs.YtjgpiclllehgmaaGreat
