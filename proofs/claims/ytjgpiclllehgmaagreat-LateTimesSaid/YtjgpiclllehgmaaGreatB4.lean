/- Lemmas. -/
import Derived.Test.YtjgpiclllehgmaaGreatB3
import Derived.Test.YtjgpiclllehgmaaGreatB1
import Derived.Test.YtjgpiclllehgmaaGreatB2
set_option linter.all false
open Bool renaming and_eq_true->aT,false_ne_true->aS
open Decidable renaming of_not_not->bQ
open Int renaming le_refl->bT,max_def->iK,toNat->fv,toNat_natCast->aV,toNat_of_nonneg->fZ
open List renaming all_eq_true->bL,any_eq_true->eu,drop->iC,ext_getElem?->en,flatMap_map->ik,foldl_append->eQ,foldl_cons->dP,getD_eq_getElem?_getD->aA,getElem?_eq_getElem->aD,getElem?_eq_none->cD,getElem?_map->aO,getElem?_range->cK,getElem?_set->bP,getElem?_set_ne->cR,getElem?_set_self->cS,getElem_map->fy,getElem_mem->bM,length->fM,length_map->bA,length_range->cO,length_set->cA,map->eM,map_append->dD,map_congr_left->eo,map_map->ft,mem_append->cJ,mem_cons->bG,mem_cons_of_mem->aQ,mem_cons_self->aU,mem_map->bE,mem_range->bW,mem_singleton->aN,not_mem_nil->dS,range->aR,range_succ->fE,take->gI,take_length->eW
open List.cons renaming injEq->cB
open Nat renaming le_refl->aJ,le_trans->cF,zero_le->aW
open Option renaming isSome_iff_exists->dV
open Prod renaming ext->iH
open Prod.mk renaming injEq->aK
open Go.Proofs.Tryz renaming prog->aB
namespace Go.Proofs.YtjgpiclllehgmaaGreat
namespace Sp
open Vm
def ZcP (h:Zh7):List Int:=[h.comes,h.ready,h.goes]
theorem Zbt {α G:Type} [BEq α] [LawfulBEq α] {k:α} {v:G}:∀ {L:List (α×G)},L.lookup k=some v->(k,v)∈L
 |[],h=>by cases h
 |(a,b)::r,h=>by
  rw[List.lookup_cons]at h;split at h
  ·rename_i A;have A:=eq_of_beq A;subst A;cases h;exact aU ..
  exact aQ _ (Zbt h)
theorem Zf5 {α:Type} {L:List (List Int×α)} {k:List Int} {d:α} {p:List Int×α} (h:p∈Jp L k d):p=(k,d)\/p∈L:=by
 unfold Jp at h;split at h
 ·obtain⟨q,A,rfl⟩:=bE.1 h;split
  ·exact .inl rfl
  exact .inr A
 rcases cJ.1 h with h|h
 ·exact .inr h
 exact .inl (aN.1 h)
theorem Zd9 {α:Type} {L:List (List Int×α)} {k:List Int} {d:α}:(k,d)∈Jp L k d:=by
 unfold Jp;split
 ·rename_i h;obtain⟨p,G,A⟩:=eu.1 h;exact bE.2 ⟨p,G,if_pos A⟩
 exact cJ.2 (.inr (aN.2 rfl))
theorem ZhA {α:Type} {L:List (List Int×α)} {k:List Int} {d:α} {p:List Int×α} (h:p∈L) (G:p.1=k->p.2=d):p∈Jp L k d:=by
 unfold Jp;split
 ·refine bE.2 ⟨p,h,?_⟩;split
  ·rename_i A;have A:=eq_of_beq A;rw[<-A,<-G A]
  rfl
 exact cJ.2 (.inl h)
theorem Zea {α:Type} {L:List (List Int×α)} {k:List Int} {d:α} (h:(L.map (·.1)).Nodup):((Jp L k d).map (·.1)).Nodup:=by
 unfold Jp;split
 ·rw[ft];have:((fun p:List Int×α=>p.1)∘fun p=>if p.1==k then(k,d)else p)=fun p=>p.1:=by
   funext p;simp only[Function.comp];split
   ·rename_i I;exact(eq_of_beq I).symm
   rfl
  rw[this];exact h
 rename_i G;rw[dD,List.nodup_append];refine⟨h,by simp,fun a J b A=>?_⟩;rintro rfl;obtain⟨p,H,rfl⟩:=bE.1 J;have A:=aN.1 A;exact G (eu.2 ⟨p,H,by simpa using A⟩)
structure TmInv (t:Zb) (x:List Int) (C K:List (List Int×List Int)):Prop where
 c:∀p∈C,∃r a,StopIn (callsOf t) r a/\0<a/\p=([r,a],[comes t x r a])
 k:∀p∈K,∃r a,StopIn (callsOf t) r a/\p=([r,a],ZcP (ZR t x r a))
 nd:(K.map (·.1)).Nodup
 ndc:(C.map (·.1)).Nodup
theorem TmInv.cv {t:Zb} {x:List Int} {C K:List (List Int×List Int)} (h:TmInv t x C K) {r a:Int} {v:List Int} (A:C.lookup [r,a]=some v):v=[comes t x r a]:=by
 obtain⟨G,H,_,_,e⟩:=h.c _ (Zbt A);cases e;rfl
theorem TmInv.kv {t:Zb} {x:List Int} {C K:List (List Int×List Int)} (h:TmInv t x C K) {r a:Int} {v:List Int} (A:K.lookup [r,a]=some v):v=ZcP (ZR t x r a):=by
 obtain⟨G,H,_,e⟩:=h.k _ (Zbt A);cases e;rfl
theorem TmInv.putC {t:Zb} {x:List Int} {C K:List (List Int×List Int)} (h:TmInv t x C K) {r a:Int} (H:StopIn (callsOf t) r a) (I:0<a) {v:Int} (hv:comes t x r a=v):TmInv t x (Jp C [r,a] [v]) K/\(Jp C [r,a] [v]).lookup [r,a]=some [v]:=by
 have G:=Zea (k:=[r,a]) (d:=[v]) h.ndc;refine⟨⟨fun p A=>?_,h.k,h.nd,G⟩,ZcB G Zd9⟩;rcases Zf5 A with rfl|A
 ·exact⟨r,a,H,I,by rw[hv]⟩
 exact h.c p A
theorem TmInv.putK {t:Zb} {x:List Int} {C K:List (List Int×List Int)} (h:TmInv t x C K) {r a:Int} (G:StopIn (callsOf t) r a) {v:List Int} (hv:ZcP (ZR t x r a)=v):TmInv t x C (Jp K [r,a] v)/\(∀p∈K,p∈Jp K [r,a] v)/\([r,a],v)∈Jp K [r,a] v:=by
 have H:=Zea (k:=[r,a]) (d:=v) h.nd;refine⟨⟨h.c,fun p A=>?_,H,h.ndc⟩,fun p A=>ZhA A fun e=>?_,Zd9⟩
 ·rcases Zf5 A with rfl|A
  ·exact⟨r,a,G,by rw[hv]⟩
  exact h.k p A
 obtain⟨I,J,_,rfl⟩:=h.k p A;cases e;exact hv
def Zdr (c:List (List Call)):List (Int×Int):=(aR c.length).flatMap fun(r:Nat)=>(aR (Zl c r).length).map fun(a:Nat)=>((r:Int),(a:Int))
def Qj (t:Zb) (x:List Int):List (List Int×List Int):=(Zdr (callsOf t)).map fun s=>([s.1,s.2],ZcP (ZR t x s.1 s.2))
theorem JR {c:List (List Call)} {r a:Int}:(r,a)∈Zdr c↔StopIn c r a:=by
 unfold Zdr StopIn;simp only[List.mem_flatMap,bE,bW,aK];constructor
 ·rintro⟨r',h1,a',h2,rfl,rfl⟩;omega
 rintro⟨h1,h2,h3,h4⟩;refine⟨r.toNat,by omega,a.toNat,?_,by omega,by omega⟩;rw[show((r.toNat:Nat):Int)=r by omega];omega
theorem ZbV {c:List (List Call)}:(Zdr c).Nodup:=by
 unfold Zdr;refine List.pairwise_flatMap.2 ?_;refine⟨fun r _=>List.Pairwise.map _ (fun a b h e=>?_) List.nodup_range,List.nodup_range.imp fun h=>?_⟩
 ·cases e;exact h rfl
 intro a G b A e;obtain⟨_,_,rfl⟩:=bE.1 G;obtain⟨_,_,rfl⟩:=bE.1 A;cases e;exact h rfl
theorem TmInv.perm {t:Zb} {x:List Int} {C K:List (List Int×List Int)} (h:TmInv t x C K) (G:∀r a,StopIn (callsOf t) r a->([r,a],ZcP (ZR t x r a))∈K):K.Perm (Qj t x):=by
 have S:K.Nodup:=List.Pairwise.of_map (fun p:List Int×List Int=>p.1) (fun a b h e=>h (by rw[e])) h.nd
 have I:(Qj t x).Nodup:=List.Pairwise.map _ (fun a b H e=>by
  apply H;simp only[aK,cB,and_true]at e
  exact iH e.1.1 e.1.2) ZbV
 rw[List.perm_iff_count];intro p;rw[S.count,I.count];have:p∈K↔p∈Qj t x:=by
  unfold Qj;rw[bE];constructor
  ·intro J;obtain⟨r,a,A,rfl⟩:=h.k p J;exact⟨(r,a),JR.2 A,rfl⟩
  rintro⟨⟨r,a⟩,A,rfl⟩;exact G r a (JR.1 A)
 simp only[this]
end Sp
namespace Vm
attribute [local irreducible] Dn
open Go Go.Proofs Sp
set_option maxRecDepth 100000
set_option maxHeartbeats 4000000
def tmH (W:List AV) (X:List AV) (C K:List (List Int×List Int)):List Zh:=[.cells [.iptr W 0],.cells X,.gob (.mapL 2 0 fun _=>C),.gob (.mapL 2 3 fun _=>K),.cells [.map 2],.cells [.map 3],
 .cells [.fn 179 [] [.ptr 5 0,.ptr 0 0,.ptr 7 0]],.cells [.fn 177 [] [.ptr 4 0,.ptr 0 0,.ptr 6 0,.ptr 1 0]]]
def Zja (a b:Int):AV:=.agg [.int .i64 fun _=>a,.int .i64 fun _=>b]
def Zn2 (a b c:Int):AV:=.agg [.int .i64 fun _=>a,.int .i64 fun _=>b,.int .i64 fun _=>c]
theorem Zau {A:(α:Type)->α->List α->Int->α} (O:∀(α:Type) (d:α) (l:List α) (i:Int),A α d l i=l.getD i.toNat d) (c:List (List Sp.Call)) (r:Int):Sp.Zl c r=A (List Sp.Call) [] c r:=by rw[O];rfl
theorem Zi2 {A:(α:Type)->α->List α->Int->α} (O:∀(α:Type) (d:α) (l:List α) (i:Int),A α d l i=l.getD i.toNat d) (c:List (List Sp.Call)) (r a:Int):callAt c r a=A Sp.Call default (A (List Sp.Call) [] c r) a:=by rw[O,O];rfl
theorem JT {c:List (List Sp.Call)} (G:Y6 c) {r a:Int} (A:StopIn c r a):c.length<=4/\2<=(Sp.Zl c r).length/\(Sp.Zl c r).length<=4:=by
 have:=G.row (Sp.Zl c r) (by
  unfold Sp.Zl;have:r.toNat<c.length:=by have:=A.2.1;have:=A.1;omega
  rw[aA,aD this]
  exact bM _)
 exact⟨G.len,this⟩
theorem cL1 (l:List Nat) {f:FuncId} {xs J:List AV} {h I:List Zh} {A Q:AV->List Zh->Prop} (H:SC (fun _=>aB) f J I Q) (S:∀ r G,Q r G->A (ren (Y7 l h.length) 5 r) (back l h G)) (V:l.Nodup:=by decide) (U:∀ i∈l,i<h.length:=by simp) (Y:xs.map (Qs false l h 5)=J:=by first|rfl|(simp only[Ze,Zd,Zf,Zc,Za O];rfl)) (Z:sel false l h=I:=by first|rfl|(simp only[Ze,Zd,Zf,Zc,Za O];rfl)):SC (fun _=>aB) f xs h A:=ZS l H V U Y Z S
theorem ZvH (t:Zb) (x:List Int) (I:Zx t) (hx:Ju t x) (n:Int)
  (ih:∀r a C K,StopIn (callsOf t) r a->2*(callAt (callsOf t) r a).depart+1<n->TmInv t x C K->SC (fun _=>aB) 179 [Zja r a,.ptr 5 0,.ptr 0 0,.ptr 7 0] (tmH (ZX t) (Yq x) C K) fun v h=>v=Zn2 (ZR t x r a).comes (ZR t x r a).ready (ZR t x r a).goes/\∃J A,TmInv t x J A/\(∀p∈K,p∈A)/\([r,a],ZcP (ZR t x r a))∈A/\h=tmH (ZX t) (Yq x) J A)
  (r a:Int) (C K:List (List Int×List Int)) (G:StopIn (callsOf t) r a) (U:0<a) (hn:2*(callAt (callsOf t) r a).arrive<n+1) (hi:TmInv t x C K):
  SC (fun _=>aB) 177 [Zja r a,.ptr 4 0,.ptr 0 0,.ptr 6 0,.ptr 1 0] (tmH (ZX t) (Yq x) C K) fun v h=>v= .int .i64 (fun _=>comes t x r a)/\∃J A,TmInv t x J A/\(∀p∈K,p∈A)/\h=tmH (ZX t) (Yq x) J A:=by
 obtain⟨nt,O⟩:=Zo;have aj:=I.asc r a G U;have k:=ih r (a-1) C K (G.prev U) (by omega) hi;have k2:=Zxs t x r (a-1) hx I.dlen;have ap:=ZqK I x G U;have V:=ZiS I x (G.prev U);have ak:=I.nn r a G;have ao:=I.nn r (a-1) (G.prev U);have al:=ZdQ I x r (a-1);have ae:=fun v=> @TmInv.cv t x C K hi r a v;have aa:=fun J A (h:TmInv t x J A) v (e:comes t x r a=v)=>h.putC G U e;have Y:=G;unfold StopIn at Y;have ah:=JT I.calls G;have hE:comes t x r a=(ZR t x r (a-1)).goes+(callAt (callsOf t) r a).arrive-(callAt (callsOf t) r (a-1)).depart+Zdg t x r (a-1):=rfl;unfold goes at V;rw[Zau O]at V Y ah;rw[Zi2 O]at*;rw[Zi2 O]at*;unfold tmH Zja Zn2 Yq at*;unfold ZX at*;simp only[Za O,Zc]at*;generalize comes t x r a=e at*;generalize ZR t x r (a-1)=H at*;generalize Zdg t x r (a-1)=y at*;generalize am:callsOf t=c at*;refine SC.less (QN Tryz.func177 (body:=Zj Tryz.f177) rfl (by decide+kernel) ?_);refine wS ?_;refine⟨fun h0=>?_,fun h0=>?_⟩
 ·refine wS ?_;have Z:((C.lookup [r,a]).getD []).headD 0=e:=by
   obtain⟨v,hv⟩:=dV.1 h0;rw[hv,ae v hv];rfl
  refine⟨_,_,?_,rfl,C,K,hi,fun p S=>S,rfl⟩;exact ZF
 refine wS ?_;refine cL1 [0,1,2,3,4,5,6,7] (k) fun r ab S=>?_;(try simp only[Ze,Zd,Zf,Zc,Za O]at S);obtain⟨rfl,C2,K2,ai,ac,_,rfl⟩:=S;refine wS ?_;refine ZL (k2) (by first|rfl|(simp only[Ze,Zd,Zf,Zc,Za O];rfl)) fun r ab S=>?_;(try simp only[Ze,Zd,Zf,Zc,Za O]at S);obtain⟨rfl,rfl⟩:=S;refine wS ?_;rw[<-hE];have q:=aa C2 K2 ai e rfl;have Z:((List.lookup [r,a] (Jp C2 [r,a] [e])).getD []).headD 0=e:=by rw[q.2];rfl
 refine⟨_,_,?_,rfl,Jp C2 [r,a] [e],K2,q.1,ac,rfl⟩;exact ZF
theorem ZvG (t:Zb) (x:List Int) (H:Zx t) (hx:Ju t x) (n:Int)
  (ih:∀r a C K,StopIn (callsOf t) r a->0<a->2*(callAt (callsOf t) r a).arrive<n->TmInv t x C K->SC (fun _=>aB) 177 [Zja r a,.ptr 4 0,.ptr 0 0,.ptr 6 0,.ptr 1 0] (tmH (ZX t) (Yq x) C K) fun v h=>v= .int .i64 (fun _=>comes t x r a)/\∃Y J,TmInv t x Y J/\(∀p∈K,p∈J)/\h=tmH (ZX t) (Yq x) Y J)
  (r a:Int) (C K:List (List Int×List Int)) (hs:StopIn (callsOf t) r a) (hn:2*(callAt (callsOf t) r a).depart+1<n+1) (hi:TmInv t x C K):
  SC (fun _=>aB) 179 [Zja r a,.ptr 5 0,.ptr 0 0,.ptr 7 0] (tmH (ZX t) (Yq x) C K) fun v h=>v=Zn2 (ZR t x r a).comes (ZR t x r a).ready (ZR t x r a).goes/\∃Y J,TmInv t x Y J/\(∀p∈K,p∈J)/\([r,a],ZcP (ZR t x r a))∈J/\h=tmH (ZX t) (Yq x) Y J:=by
 obtain⟨nt,O⟩:=Zo;have ap:=hs;unfold StopIn at ap;have bm:=JT H.calls hs;have ah:=fun v=> @TmInv.kv t x C K hi r a v;have bg:∀v,K.lookup [r,a]=some v->([r,a],v)∈K:=fun v h=>Zbt h;have I:=fun Y J (h:TmInv t x Y J) v (e:ZcP (ZR t x r a)=v)=>h.putK hs e;have bc:=H.nn r a hs;have bh:=fun h:0<a=>ih r a C K hs h (by have:=H.nn r a hs;omega) hi;obtain⟨ae,S⟩:∃m,m=if 0<a then comes t x r a else 0:=⟨_,rfl⟩
 obtain⟨rd,Z⟩:∃m,m=Zc7 (callsOf t) r a ae:=⟨_,rfl⟩;obtain⟨gf,ai⟩:∃m,m=ZaX t (comes t x) r a rd:=⟨_,rfl⟩;obtain⟨cs,ac⟩:∃m,m=if a=0 then gf else ae:=⟨_,rfl⟩
 have az:ZR t x r a=⟨cs,rd,gf⟩:=by
  rw[ZgE H x hs,ac,ai,Z,S];rfl
 obtain⟨W,hW⟩:∃W:Int->Sp.QV->Int,∀g w,W g w=if a=((Sp.Zl (callsOf t) r).length:Int)-1 then g else JF (callsOf t) (comes t x) r (callAt (callsOf t) r a) g w:=⟨_,fun _ _=>rfl⟩
 have ai:gf=t.waits.foldl W rd:=by
  rw[ai];unfold ZaX;split
  ·rename_i hl;have G:∀g w,W g w=g:=fun g w=>by rw[hW,if_pos hl]
   generalize t.waits=l;induction l with
   |nil=>rfl
   |cons w l ih=>rw[dP,G];exact ih
  rename_i hl;exact Zal _ _ fun w _ g=>by rw[hW,if_neg hl]
 have bx:=H.wlen;have am:=fun w (hw:w∈t.waits)=>And.intro (YF H hw) (And.intro (H.w w hw).2.2.1 (And.intro (H.w w hw).2.2.2.1 (H.w w hw).2.2.2.2.1));have aq:=fun w (hw:w∈t.waits)=>JT H.calls (YF H hw);have aw:=fun w (hw:w∈t.waits) (G:w.train=r) (h2:w.station=(callAt (callsOf t) r a).station) (h3:a≠((Sp.Zl (callsOf t) r).length:Int)-1) Y J (h:TmInv t x Y J)=>
  ih w.feeder (ZA (Sp.Zl (callsOf t) w.feeder) w.station) Y J (YF H hw) (by have:=(H.w w hw).2.2.1;omega) (by have:=(H.w w hw).2.2.2.2.2 a (by rw[G];exact hs) (by rw[G];exact h3) (by rw[G];exact h2.symm);rw[G]at this;omega) h
 unfold Zc7 at Z;unfold JF at hW;unfold StopIn at am;rw[az]at ah I|-;unfold ZcP at ah I|-;dsimp only at ah I|-;simp only[Zau O,Zi2 O]at ap bm bc Z hW am aq aw;unfold tmH Zja Zn2 Yq at*;unfold ZX at*;simp only[Za O,Zc]at*;generalize bq:callsOf t=c at*;refine SC.less (Zkl false false [8,11] Tryz.func179 (body:=Zj Tryz.f179) rfl (by decide+kernel) ?_);refine wS ?_;refine⟨fun h0=>?_,fun h0=>?_⟩
 ·refine wS ?_;obtain⟨v,hv⟩:=dV.1 h0;have bk:=ah v hv;have U:=bg v hv;subst bk;simp only[hv];refine⟨_,_,?_,rfl,C,K,hi,fun p A=>A,U,rfl⟩;exact ZF
 refine wS ?_;refine ZnS false false [] 50 [1,2,3,4,5,8,9] (fun _=>[]) (fun p:List (List Int×List Int)×List (List Int×List Int)=>[(2,.gob (.mapL 2 0 fun _=>p.1)),(3,.gob (.mapL 2 3 fun _=>p.2)),(12,.cells [.int .i64 fun _=>ae,.int .i64 fun _=>0,.int .i64 fun _=>0])]) (fun p=>TmInv t x p.1 p.2/\∀q∈K,q∈p.2) (fun _ _ h=>h) (by decide) ?_ ?_
 ·refine wS ?_;refine⟨fun G=>?_,fun G=>?_⟩
  ·have G:=of_decide_eq_true G;have k:=bh G;rw[if_pos G]at S;rw[<-S]at k;refine wS ?_;refine cL1 [0,1,2,3,4,5,6,7] (k) fun r al A=>?_;(try simp only[Ze,Zd,Zf,Zc,Za O]at A);obtain⟨rfl,C2,K2,aa,V,rfl⟩:=A;refine wS ?_;refine⟨(C2,K2),⟨aa,V⟩,?_⟩;exact ZF
  have G:=of_decide_eq_false G;rw[if_neg G]at S;subst S;refine wS ?_;refine⟨(C,K),⟨hi,fun _ h=>h⟩,?_⟩;exact ZF
 intro p hh;refine wS ?_;obtain⟨C1,K1⟩:=p;obtain⟨ba,a9⟩:=hh;refine ZnS false false [] 40 [1,2,3,4,5,8,9] (fun _:Unit=>[]) (fun _=>[(12,.cells [.int .i64 fun _=>ae,.int .i64 fun _=>rd,.int .i64 fun _=>0])]) (fun _=>True) (fun _ _ h=>h) (by decide) ?_ ?_
 ·refine wS ?_;refine⟨fun h2=>?_,fun h2=>?_⟩
  ·have h2:=eq_of_beq h2;rw[if_pos h2]at Z;subst Z;refine wS ?_;refine⟨(),trivial,?_⟩;exact ZF
  have h2:=ne_of_beq_false h2;rw[if_neg h2,iK]at Z;refine wS ?_;refine⟨(),trivial,?_⟩;exact ZF
 intro _ _;refine wS ?_;refine XX fun Q hQ=>?_;refine ZJ false false [] [1,2,3,4,5,8,9,69,70,71] [] (fun p:Nat×(List (List Int×List Int)×List (List Int×List Int))×Int=>[(71,.int .i64 fun _=>(p.1:Int))]) (fun p=>[(2,.gob (.mapL 2 0 fun _=>p.2.1.1)),(3,.gob (.mapL 2 3 fun _=>p.2.1.2)),(12,.cells [.int .i64 fun _=>ae,.int .i64 fun _=>rd,.int .i64 fun _=>p.2.2])])
  (fun p=>p.1<=t.waits.length/\TmInv t x p.2.1.1 p.2.1.2/\(∀q∈K,q∈p.2.1.2)/\gf=(t.waits.drop p.1).foldl W p.2.2) (fun p=>t.waits.length-p.1+0) (0,(C1,K1),rd) ⟨by omega,ba,a9,ai⟩ ?_ ?_
 ·exact ZF
 intro p hh;refine wS ?_;have bt:=hh.1;have aa:=hh.2.1;have V:=hh.2.2.1;have A:=hh.2.2.2;clear hh;refine⟨fun hb=>?_,fun hb=>?_⟩;case refine_2=>
  simp only[decide_eq_false_iff_not]at hb;rw[List.drop_eq_nil_of_le (by omega),List.foldl_nil]at A;subst A;refine wS ?_;refine hQ _ _ _ ?_;refine wS ?_;refine⟨fun h5=>?_,fun h5=>?_⟩
  ·have h5:a=0:=eq_of_beq h5;rw[if_pos h5]at ac;have q:=I p.2.1.1 p.2.1.2 aa _ rfl;refine wS ?_;refine⟨_,_,?_,rfl,p.2.1.1,Jp p.2.1.2 [r,a] [cs,rd,p.2.2],q.1,fun z hz=>q.2.1 z (V z hz),q.2.2,rfl⟩;refine toR ?_;rw[ac];exact ZG.refl _
  have h5:a≠0:=ne_of_beq_false h5;rw[if_neg h5]at ac;have q:=I p.2.1.1 p.2.1.2 aa _ rfl;refine wS ?_;refine⟨_,_,?_,rfl,p.2.1.1,Jp p.2.1.2 [r,a] [cs,rd,p.2.2],q.1,fun z hz=>q.2.1 z (V z hz),q.2.2,rfl⟩;refine toR ?_;rw[ac];exact ZG.refl _
 simp only[decide_eq_true_eq]at hb;have bo:=Qi (d:=default) O (l:=t.waits) (i:=p.1) (by omega);rw[bo,dP]at A;have U:nt Sp.QV default t.waits p.1∈t.waits:=Qu O (by omega);have bw:=am _ U;have bu:=aq _ U;have ao:=aw _ U;have ab:=hW p.2.2 (nt Sp.QV default t.waits p.1);generalize hd:nt Sp.QV default t.waits p.1=w at*;refine vS ?_;simp only[hd];refine Chk.mk (ZE) ?_;generalize hL:((nt (List Sp.Call) [] c r).length:Int)-1=L at*;generalize hX:(nt Sp.Call default (nt (List Sp.Call) [] c r) a).station=X at*;refine⟨fun h3=>?_,fun h3=>?_⟩
 ·have hk:W p.2.2 w=p.2.2:=by
   rw[ab];by_cases e3:a=L
   ·rw[if_pos e3]
   rw[if_neg e3];by_cases e1:w.train=r
   ·by_cases e2:w.station=X
    ·simp[e1,e2,e3]at h3
    rw[if_pos (.inr e2)]
   rw[if_pos (.inl e1)]
  rw[hk]at A;refine wS ?_;refine⟨(p.1+1,p.2),⟨by show p.1+1<=_;omega,aa,V,A⟩,by show t.waits.length-(p.1+1)+0<t.waits.length-p.1+0;omega,?_⟩;exact ZF
 have q:w.train=r/\w.station=X/\a≠L:=by
  by_cases e1:w.train=r
  ·by_cases e2:w.station=X
   ·by_cases e3:a=L
    ·simp[e1,e2,e3]at h3
    exact⟨e1,e2,e3⟩
   simp[e1,e2]at h3
  simp[e1]at h3
 have k3:=ao q.1 q.2.1 q.2.2 _ _ aa;rw[if_neg q.2.2,if_neg (by omega)]at ab;clear ao;generalize hF:nt (List Sp.Call) [] c w.feeder=F at*;have ak:=Zu9 F w.station (by omega);simp only[Za O]at ak;generalize ZA F w.station=f at*;generalize comes t x w.feeder f=aj at*;refine vS ?_;try simp only[hd,hF]
 try refine Chk.mk (ZE) ?_
 refine ZL (ak) (by first|rfl|(simp only[Ze,Zd,Zf,Zc,Za O];rfl)) fun r al A=>?_;(try simp only[Ze,Zd,Zf,Zc,Za O]at A);obtain⟨rfl,rfl⟩:=A;refine vS ?_;try simp only[hd,hF]
 try refine Chk.mk (ZE) ?_
 refine cL1 [0,1,2,3,4,5,6,7] (k3) fun r al A=>?_;(try simp only[Ze,Zd,Zf,Zc,Za O]at A);obtain⟨rfl,C3,K3,au,ar,rfl⟩:=A;refine vS ?_;try simp only[hd,hF]
 try refine Chk.mk (ZE) ?_
 refine⟨fun h4=>?_,fun h4=>?_⟩
 ·have h4:=of_decide_eq_true h4;rw[if_pos h4,iK]at ab;rw[ab]at A;generalize bl:(if p.2.2<=aj then aj else p.2.2)=g2 at*;have bp:(if p.2.2<aj then aj else p.2.2)=g2:=by rw[<-bl];split<;>split<;>omega
  refine wS ?_;refine⟨(p.1+1,(C3,K3),g2),⟨by show p.1+1<=_;omega,au,fun z hz=>ar z (V z hz),A⟩,by show t.waits.length-(p.1+1)+0<t.waits.length-p.1+0;omega,?_⟩;exact ZF
 have h4:=of_decide_eq_false h4;rw[if_neg h4]at ab;rw[ab]at A;refine wS ?_;refine⟨(p.1+1,(C3,K3),p.2.2),⟨by show p.1+1<=_;omega,au,fun z hz=>ar z (V z hz),A⟩,by show t.waits.length-(p.1+1)+0<t.waits.length-p.1+0;omega,?_⟩;exact ZF
theorem Ztj (t:Zb) (x:List Int) (I:Zx t) (U:Ju t x):∀n:Nat,
  (∀r a C K,StopIn (callsOf t) r a->0<a->2*(callAt (callsOf t) r a).arrive<n->TmInv t x C K->SC (fun _=>aB) 177 [Zja r a,.ptr 4 0,.ptr 0 0,.ptr 6 0,.ptr 1 0] (tmH (ZX t) (Yq x) C K) fun v h=>v= .int .i64 (fun _=>comes t x r a)/\∃H A,TmInv t x H A/\(∀p∈K,p∈A)/\h=tmH (ZX t) (Yq x) H A)/\
  (∀r a C K,StopIn (callsOf t) r a->2*(callAt (callsOf t) r a).depart+1<n->TmInv t x C K->SC (fun _=>aB) 179 [Zja r a,.ptr 5 0,.ptr 0 0,.ptr 7 0] (tmH (ZX t) (Yq x) C K) fun v h=>v=Zn2 (ZR t x r a).comes (ZR t x r a).ready (ZR t x r a).goes/\∃H A,TmInv t x H A/\(∀p∈K,p∈A)/\([r,a],ZcP (ZR t x r a))∈A/\h=tmH (ZX t) (Yq x) H A)
 |0=>⟨fun r a C K G _ J=>by have:=I.nn r a G;omega,fun r a C K G J=>by have:=I.nn r a G;omega⟩
 |n+1=>by
  have V:=Ztj t x I U n;exact⟨fun r a C K G Y J S=>ZvH t x I U n V.2 r a C K G Y (by omega) S,fun r a C K G J S=>ZvG t x I U n V.1 r a C K G (by omega) S⟩
theorem ZwA (t:Zb) (x:List Int) (U:Zx t) (hx:Ju t x):SC (fun _=>aB) 137 [.iptr (ZX t) 0,.agg (Yq x)] [] fun v h=>v= .imap 2 3 (fun _=>Qj t x)/\h=[]:=by
 obtain⟨J,O⟩:=Zo;have k:=fun r a C K (Y:StopIn (callsOf t) r a) (hi:TmInv t x C K)=>(Ztj t x U hx (2*(callAt (callsOf t) r a).depart+2).toNat).2 r a C K Y (by have:=U.nn r a Y;omega) hi;have V:=fun C K (h:TmInv t x C K)=>h.perm;have h0:TmInv t x [] []:=⟨fun p h=>(by cases h),fun p h=>(by cases h),.nil,.nil⟩;have am:=U.calls.len;have ao:=fun r a (Y:StopIn (callsOf t) r a)=>JT U.calls Y
 have ak:∀r,0<=r->r<(callsOf t).length->2<=(Sp.Zl (callsOf t) r).length/\(Sp.Zl (callsOf t) r).length<=4:=fun r I H=>U.calls.row _ (by
  unfold Sp.Zl;rw[aA,aD (by omega)]
  exact bM _)
 unfold StopIn at*;simp only[Zau O]at*;generalize hG:Qj t x=G at*;generalize au:ZR t x=HH at*;unfold tmH Zja Zn2 Yq at*;unfold ZX at*;simp only[Za O,Zc]at*;generalize aw:callsOf t=c at*;refine SC.less (QN Tryz.func137 (body:=Zj Tryz.f137) rfl (by decide+kernel) ?_);refine wS ?_;refine ZJ false false [] [6,7,19,20,21] [] (fun p:Nat×List (List Int×List Int)×List (List Int×List Int)=>[(21,.int .i64 fun _=>(p.1:Int))]) (fun p=>[(2,.gob (.mapL 2 0 fun _=>p.2.1)),(3,.gob (.mapL 2 3 fun _=>p.2.2))])
  (fun p=>p.1<=c.length/\TmInv t x p.2.1 p.2.2/\∀r a:Int,0<=r->r<p.1->0<=a->a<(J (List Sp.Call) [] c r).length->([r,a],ZcP (HH r a))∈p.2.2) (fun p=>c.length-p.1+0) (0,[],[]) ⟨by omega,h0,fun r a I H=>by simp at H;omega⟩ ?_ ?_
 ·exact ZF
 intro p A;refine wS ?_;have az:=A.1;have ae:=A.2.1;have aa:=A.2.2;clear A;refine⟨fun hb=>?_,fun hb=>?_⟩;case refine_2=>
  simp only[decide_eq_false_iff_not]at hb;refine wS ?_;have Z:=V p.2.1 p.2.2 ae fun r a h=>aa r a h.1 (by omega) h.2.2.1 h.2.2.2;refine⟨_,[],?_,rfl,rfl⟩;refine toR ?_;exact Zy.imap Z
 simp only[decide_eq_true_eq]at hb;have aq:=ak p.1 (by omega) (by omega);refine wS ?_;refine XX fun Q hQ=>?_;refine ZJ false false [] [6,7,9,19,20,21,27,28] [] (fun q:Nat×List (List Int×List Int)×List (List Int×List Int)=>[(28,.int .i64 fun _=>(q.1:Int))]) (fun q=>[(2,.gob (.mapL 2 0 fun _=>q.2.1)),(3,.gob (.mapL 2 3 fun _=>q.2.2))])
  (fun q=>q.1<=(J (List Sp.Call) [] c p.1).length/\TmInv t x q.2.1 q.2.2/\(∀z∈p.2.2,z∈q.2.2)/\∀a:Int,0<=a->a<q.1->([(p.1:Int),a],ZcP (HH p.1 a))∈q.2.2) (fun q=>(J (List Sp.Call) [] c p.1).length-q.1+0) (0,p.2) ⟨by omega,ae,fun _ h=>h,fun a I H=>by simp at H;omega⟩ ?_ ?_
 ·exact ZF
 intro q A;refine wS ?_;have ar:=A.1;have ai:=A.2.1;have ac:=A.2.2.1;have ah:=A.2.2.2;clear A;refine⟨fun S=>?_,fun S=>?_⟩;case refine_2=>
  simp only[decide_eq_false_iff_not]at S;refine wS ?_;refine hQ _ _ _ ?_;refine wS ?_;refine⟨(p.1+1,q.2),⟨by show p.1+1<=_;omega,ai,fun r a I H h3 h4=>?_⟩,by show c.length-(p.1+1)+0<c.length-p.1+0;omega,?_⟩
  ·by_cases he:r=p.1
   ·subst he;exact ah a h3 (by omega)
   exact ac _ (aa r a I (by have:r<((p.1+1:Nat):Int):=H;omega) h3 h4)
  exact ZF
 simp only[decide_eq_true_eq]at S;have k2:=k p.1 q.1 _ _ ⟨by omega,by omega,by omega,by omega⟩ ai;refine wS ?_;refine cL1 [0,1,2,3,4,5,6,7] (k2) fun r ap Z=>?_;(try simp only[Ze,Zd,Zf,Zc,Za O]at Z);obtain⟨rfl,C3,K3,aj,ab,al,rfl⟩:=Z;refine wS ?_;refine⟨(q.1+1,C3,K3),⟨by show q.1+1<=_;omega,aj,fun z hz=>ab z (ac z hz),fun a I H=>?_⟩,by show(J (List Sp.Call) [] c p.1).length-(q.1+1)+0<(J (List Sp.Call) [] c p.1).length-q.1+0;omega,?_⟩
 ·by_cases he:a=q.1
  ·subst he;exact al
  exact ab _ (ah a I (by have:a<((q.1+1:Nat):Int):=H;omega))
 exact ZF
def Yp (t:Zb):AV:=.iptr [.iptr (ZX t) 0] 0
theorem Z3 {x:List Int} {e v:Int} {k j:Nat} (A:e=k) (G:k<x.length):(bif decide (e=(j:Int))then v else x.getD j 0)=(x.set k v).getD j 0:=by
 subst A;by_cases h:k=j
 ·subst h;rw[aA (l:=x.set k v),cS G];simp
 rw[aA (l:=x.set k v),cR h,<-aA,decide_eq_false (by omega)];rfl
theorem Zxt (t:Zb) (hf:Zx t) (Y S I J U V Z H:Nat->Zh) (stop:Nat->Bool)
  (hs:∀i X,sel true [0,1,2,3,4,5,6,7] [Y i,S i,I i,J i,U i,V i,Z i,H i,X]=[Y i,S i,I i,J i,U i,V i,Z i,H i])
  (aj:∀i (f0 f1 f2 f3 f4 f5:Unit->Int),sel true [0,1,2,3,4,5,6,7,8] [Y i,S i,I i,J i,U i,V i,Z i,H i,.cells [.int .i64 f0,.int .i64 f1,.int .i64 f2,.int .i64 f3,.int .i64 f4,.int .i64 f5]]=[Y i,S i,I i,J i,U i,V i,Z i,H i,.cells [.int .i64 f0,.int .i64 f1,.int .i64 f2,.int .i64 f3,.int .i64 f4,.int .i64 f5]])
  (au:∀i X,sel false [0,1,2,3,4,5,6,7] [Y i,S i,I i,J i,U i,V i,Z i,H i,X]=[Y i,S i,I i,J i,U i,V i,Z i,H i])
  (ao:∀i j X,back [0,1,2,3,4,5,6,7] [Y i,S i,I i,J i,U i,V i,Z i,H i,X] [Y j,S j,I j,J j,U j,V j,Z j,H j]=[Y j,S j,I j,J j,U j,V j,Z j,H j,X])
  (hy:∀i,i<manyT t->(∀j,j<i->stop j=false)->YC (fun _=>aB) 7 [.agg (Yq (Zk t i))] [Y i,S i,I i,J i,U i,V i,Z i,H i] fun v h=>v= .bool (fun _=> !stop i)/\h=[Y (i+1),S (i+1),I (i+1),J (i+1),U (i+1),V (i+1),Z (i+1),H (i+1)])
  (hB:zOk [Y 0,S 0,I 0,J 0,U 0,V 0,Z 0,H 0]=true:=by rfl):
  SC (fun _=>aB) 176 [.yld 7,Yp t] [Y 0,S 0,I 0,J 0,U 0,V 0,Z 0,H 0] fun v h=>∃m,EndAt stop (manyT t) m/\h=[Y m,S m,I m,J m,U m,V m,Z m,H m]:=by
 obtain⟨nt,O⟩:=Zo;have ai:=YI hf;have ak:=fun n=> @Zdp t hf n;have az:=Zgr hf;have bg:=hf.dlen;have aq:=Zdo hf;have ae:∀k,k<t.delays.length->lenAt t.delays k<=3:=fun k h=>by
  unfold lenAt;rw[aA,aD h];exact(hf.d _ (bM h)).2.1
 have ap:∀k:Nat,(nt Sp.ZP default t.delays (k:Int)).by_.length=lenAt t.delays k:=fun k=>by rw[O];rfl
 have aw:∀n k,0<=(Zk t n).getD k 0/\(Zk t n).getD k 0<=3:=fun n k=>by
  by_cases h:k<t.delays.length
  ·have h1:=(ai n).d k h;have h2:=ae k h;unfold lenAt at h2;omega
  have:=ZaZ (ds:=t.delays) t.delays.length n k (by omega);unfold Zk;omega
 generalize manyT t=N at*;generalize Zk t=TA at*;unfold Yp ZX;simp only[Za O,Zc,Zq];refine QN Tryz.func176 (body:=Zj Tryz.f176) rfl (by decide+kernel) ?_ hB;refine wS ?_;refine ZJ false false [] [0,1,3] [] (fun(i:Nat)=>[]) (fun i=>[(0,Y i),(1,S i),(2,I i),(3,J i),(4,U i),(5,V i),(6,Z i),(7,H i),(8,.cells (Yq (TA i)))]) (fun i=>i<N/\∀j,j<i->stop j=false) (fun i=>N-i+0) 0 ⟨by omega,fun j h=>by omega⟩ ?_ ?_
 ·unfold Yq;rw[aq];have A:=aj 0 (fun _=>0) (fun _=>0) (fun _=>0) (fun _=>0) (fun _=>0) (fun _=>0);cbv at A;simp only[cB,and_true]at A;obtain⟨e0,e1,e2,e3,e4,e5,e6,e7⟩:=A;(refine To.of [] ?_;cbv;(try simp only[nc]);(repeat' (first|exact trivial|exact Zy.refl _|exact ZG.refl _|refine⟨?_,?_⟩|refine ZG.cells ?_|refine Zy.agg ?_|refine Zy.tup ?_));(all_goals (first|exact XQ|skip)));all_goals first|(rw[e0];exact ZG.refl _)|(rw[e1];exact ZG.refl _)|(rw[e2];exact ZG.refl _)|(rw[e3];exact ZG.refl _)|(rw[e4];exact ZG.refl _)|(rw[e5];exact ZG.refl _)|(rw[e6];exact ZG.refl _)|(rw[e7];exact ZG.refl _)
 intro i hh;unfold Yq at*;refine wS ?_;have hi:=hh.1;have ac:=hh.2;have G:=ak i hi;refine YC.frameB [0,1,2,3,4,5,6,7] (by decide) (by simp) rfl rfl (au i _) (hy i hi ac) (ao i (i+1) _) ?_;refine wS ?_;refine⟨fun ab=>?_,fun ab=>?_⟩
 ·have ab:stop i=true:=by simpa using ab
  have A:=fun X=>hs (i+1) X;refine wS ?_;refine⟨i+1,.inr ⟨i,rfl,hi,ab,ac⟩,?_⟩;have A:=A (.cells [.int .i64 fun _=>(TA i).getD 0 0,.int .i64 fun _=>(TA i).getD 1 0,.int .i64 fun _=>(TA i).getD 2 0,.int .i64 fun _=>(TA i).getD 3 0,.int .i64 fun _=>(TA i).getD 4 0,.int .i64 fun _=>(TA i).getD 5 0]);cbv at A;simp only[cB,and_true]at A|-;exact A
 have ab:stop i=false:=by simpa using ab
 refine wS ?_;refine XX fun Q hQ=>?_;refine ZJ false false [] [0,1,3,4] [] (fun p:Nat×List Int=>[(4,.int .i64 fun _=>(p.1:Int)-1)]) (fun p=>[(8,.cells [.int .i64 fun _=>p.2.getD 0 0,.int .i64 fun _=>p.2.getD 1 0,.int .i64 fun _=>p.2.getD 2 0,.int .i64 fun _=>p.2.getD 3 0,.int .i64 fun _=>p.2.getD 4 0,.int .i64 fun _=>p.2.getD 5 0])])
  (fun p=>p.1<=t.delays.length/\p.2.length=6/\(∀k,0<=p.2.getD k 0/\p.2.getD k 0<=3)/\Sp.stepT t.delays t.delays.length (TA i)=Sp.stepT t.delays p.1 p.2) (fun p=>p.1+0) (t.delays.length,TA i) ⟨aJ _,(ai i).len,aw i,rfl⟩ ?_ ?_
 ·exact ZF
 intro p hp;refine vS ?_;have hm:=hp.1;have ar:=hp.2.1;have al:=hp.2.2.1;have aa:=hp.2.2.2;clear hp;by_cases h0:p.1=0
 ·rw[h0,Sp.stepT]at aa;rw[aa]at G;have ba:¬i+1<N:=fun h=>by rw[if_pos h]at G;cases G
  refine Chk.mk (ZE) ?_;refine Br.isF (by show(bif decide (0<=(p.1:Int)-1)then _ else false)=false;rw[decide_eq_false (by omega)];rfl) ?_;refine wS ?_;refine hQ _ _ _ ?_;refine wS ?_;refine Br.isT (decide_eq_true (by show(p.1:Int)-1<0;omega)) ?_;refine wS ?_;have A:=hs (i+1) (.cells [.int .i64 fun _=>p.2.getD 0 0,.int .i64 fun _=>p.2.getD 1 0,.int .i64 fun _=>p.2.getD 2 0,.int .i64 fun _=>p.2.getD 3 0,.int .i64 fun _=>p.2.getD 4 0,.int .i64 fun _=>p.2.getD 5 0]);cbv at A;simp only[cB,and_true]at A;refine⟨i+1,.inl ⟨by omega,fun j hj=>?_⟩,?_⟩
  ·by_cases h:j=i
   ·rw[h];exact ab
   exact ac j (by omega)
  simp only[cB,and_true];exact A
 obtain⟨k,hk⟩:∃k,p.1=k+1:=⟨p.1-1,by omega⟩;have e1:=Zfu (x:=p.2) (e:=(p.1:Int)-1) (i:=k) (by omega) (by omega);have e2:(nt Sp.ZP default t.delays ((p.1:Int)-1)).by_.length=lenAt t.delays k:=by rw[show(p.1:Int)-1=(k:Int) by omega];exact ap k
 have bc:=ae k (by omega);have a9:=al k;refine Chk.mk (ZE) ?_;refine⟨fun h1=>?_,fun h1=>?_⟩
 ·have h1:p.2.getD k 0=(lenAt t.delays k:Int)-1:=by
   rw[decide_eq_true (by omega),e1,e2]at h1;exact eq_of_beq h1
  rw[hk,Sp.stepT,if_pos h1]at aa;refine wS ?_;refine⟨(k,p.2.set k 0),⟨by show k<=_;omega,by show(p.2.set k 0).length=6;rw[cA];exact ar,fun j=>?_,aa⟩,by show k+0<p.1+0;omega,?_⟩
  ·show 0<=(p.2.set k 0).getD j 0/\(p.2.set k 0).getD j 0<=3;rw[<-Z3 (e:=(k:Int)) rfl (by omega)];have:=al j;cases decide ((k:Int)=j)
   ·exact this
   exact⟨bT _,by show(0:Int)<=3;decide⟩
  have g0:=Z3 (x:=p.2) (e:=(p.1:Int)-1) (k:=k) (j:=0) (v:=0) (by omega) (by omega);have g1:=Z3 (x:=p.2) (e:=(p.1:Int)-1) (k:=k) (j:=1) (v:=0) (by omega) (by omega);have g2:=Z3 (x:=p.2) (e:=(p.1:Int)-1) (k:=k) (j:=2) (v:=0) (by omega) (by omega);have g3:=Z3 (x:=p.2) (e:=(p.1:Int)-1) (k:=k) (j:=3) (v:=0) (by omega) (by omega);have g4:=Z3 (x:=p.2) (e:=(p.1:Int)-1) (k:=k) (j:=4) (v:=0) (by omega) (by omega);have g5:=Z3 (x:=p.2) (e:=(p.1:Int)-1) (k:=k) (j:=5) (v:=0) (by omega) (by omega);have A:=aj (i+1) (fun _=>bif decide ((p.1:Int)-1=((0:Nat):Int))then 0 else p.2.getD 0 0) (fun _=>bif decide ((p.1:Int)-1=((1:Nat):Int))then 0 else p.2.getD 1 0) (fun _=>bif decide ((p.1:Int)-1=((2:Nat):Int))then 0 else p.2.getD 2 0) (fun _=>bif decide ((p.1:Int)-1=((3:Nat):Int))then 0 else p.2.getD 3 0) (fun _=>bif decide ((p.1:Int)-1=((4:Nat):Int))then 0 else p.2.getD 4 0) (fun _=>bif decide ((p.1:Int)-1=((5:Nat):Int))then 0 else p.2.getD 5 0);cbv at A;simp only[cB,and_true]at A;obtain⟨e3,e4,e5,e6,e7,e8,e9,ah⟩:=A;(refine To.of [] ?_;cbv;(try simp only[nc]);(repeat' (first|exact trivial|exact Zy.refl _|exact ZG.refl _|refine⟨?_,?_⟩|refine ZG.cells ?_|refine Zy.agg ?_|refine Zy.tup ?_));(all_goals (first|exact XQ|skip)));all_goals first|(rw[e3];exact ZG.refl _)|(rw[e4];exact ZG.refl _)|(rw[e5];exact ZG.refl _)|(rw[e6];exact ZG.refl _)|(rw[e7];exact ZG.refl _)|(rw[e8];exact ZG.refl _)|(rw[e9];exact ZG.refl _)|(rw[ah];exact ZG.refl _)
 have h1:p.2.getD k 0≠(lenAt t.delays k:Int)-1:=by
  rw[decide_eq_true (by omega),e1,e2]at h1;exact ne_of_beq_false h1
 rw[hk,Sp.stepT,if_neg h1]at aa;rw[aa]at G;have am:i+1<N:=by
  by_cases h:i+1<N
  ·exact h
  rw[if_neg h]at G;cases G
 rw[if_pos am]at G;have G:=Option.some.inj G;refine wS ?_;refine hQ _ _ _ ?_;refine wS ?_;refine Br.isF (decide_eq_false (by show¬(p.1:Int)-1<0;omega)) ?_;refine vS ?_;simp only[e1];refine Chk.mk (ZE) ?_;have A:=aj (i+1) (fun _=>bif decide ((p.1:Int)-1=((0:Nat):Int))then p.2.getD k 0+1 else p.2.getD 0 0) (fun _=>bif decide ((p.1:Int)-1=((1:Nat):Int))then p.2.getD k 0+1 else p.2.getD 1 0) (fun _=>bif decide ((p.1:Int)-1=((2:Nat):Int))then p.2.getD k 0+1 else p.2.getD 2 0) (fun _=>bif decide ((p.1:Int)-1=((3:Nat):Int))then p.2.getD k 0+1 else p.2.getD 3 0) (fun _=>bif decide ((p.1:Int)-1=((4:Nat):Int))then p.2.getD k 0+1 else p.2.getD 4 0) (fun _=>bif decide ((p.1:Int)-1=((5:Nat):Int))then p.2.getD k 0+1 else p.2.getD 5 0);cbv at A;simp only[cB,and_true]at A;obtain⟨e3,e4,e5,e6,e7,e8,e9,ah⟩:=A;refine⟨i+1,⟨am,fun j hj=>?_⟩,by show N-(i+1)+0<N-i+0;omega,?_⟩
 ·by_cases h:j=i
  ·rw[h];exact ab
  exact ac j (by omega)
 rw[<-G];have g0:=Z3 (x:=p.2) (e:=(p.1:Int)-1) (k:=k) (j:=0) (v:=p.2.getD k 0+1) (by omega) (by omega);have g1:=Z3 (x:=p.2) (e:=(p.1:Int)-1) (k:=k) (j:=1) (v:=p.2.getD k 0+1) (by omega) (by omega);have g2:=Z3 (x:=p.2) (e:=(p.1:Int)-1) (k:=k) (j:=2) (v:=p.2.getD k 0+1) (by omega) (by omega);have g3:=Z3 (x:=p.2) (e:=(p.1:Int)-1) (k:=k) (j:=3) (v:=p.2.getD k 0+1) (by omega) (by omega);have g4:=Z3 (x:=p.2) (e:=(p.1:Int)-1) (k:=k) (j:=4) (v:=p.2.getD k 0+1) (by omega) (by omega);have g5:=Z3 (x:=p.2) (e:=(p.1:Int)-1) (k:=k) (j:=5) (v:=p.2.getD k 0+1) (by omega) (by omega);(refine To.of [] ?_;cbv;(try simp only[nc]);(repeat' (first|exact trivial|exact Zy.refl _|exact ZG.refl _|refine⟨?_,?_⟩|refine ZG.cells ?_|refine Zy.agg ?_|refine Zy.tup ?_));(all_goals (first|exact XQ|skip)));all_goals first|(rw[e3];exact ZG.refl _)|(rw[e4];exact ZG.refl _)|(rw[e5];exact ZG.refl _)|(rw[e6];exact ZG.refl _)|(rw[e7];exact ZG.refl _)|(rw[e8];exact ZG.refl _)|(rw[e9];exact ZG.refl _)|(rw[ah];exact ZG.refl _)
def Zug:Zh->Bool
 |.fam .. =>false
 |_=>true
structure QD (n:Nat) (B:Zh):Prop where
 s:∀fz ι h,(∀j,j<n->Ql j ι 0=some j)->ZQ fz ι h B=B
 r:∀φ:Nat->Nat,(∀j,j<n->φ j=j)->Xp φ B=B
 z:Zug B=true
theorem QD.mono {n m:Nat} {B:Zh} (h:QD n B) (S:n<=m):QD m B:=⟨fun H J k A=>h.s H J k fun j G=>A j (by omega),fun I A=>h.r I fun j G=>A j (by omega),h.z⟩
theorem QD.wk {n N k:Nat} {B:Zh} (h:QD n B) {fz:Bool} {ι:List Nat} {H:List Zh} (A:∀j,j<n->Ql j ι 0=some j):ZG N k (ZQ fz ι H B) B:=by
 rw[h.s _ _ _ A];exact ZG.refl _
theorem Zd3 {h:List Zh} (G:∀b∈h,Zug b=true):zOk h=true:=by
 unfold zOk;rw[bL];intro b A;have:=G b A;cases b<;>first|rfl|cases this
theorem Zwz (t:Zb) (hf:Zx t) (V J H I S U Y G:Nat->Zh) (stop:Nat->Bool)
  (h0:∀i,QD 8 (V i)) (h1:∀i,QD 8 (J i)) (h2:∀i,QD 8 (H i)) (h3:∀i,QD 8 (I i)) (h4:∀i,QD 8 (S i)) (h5:∀i,QD 8 (U i)) (h6:∀i,QD 8 (Y i)) (h7:∀i,QD 8 (G i))
  (hy:∀i,i<manyT t->(∀j,j<i->stop j=false)->YC (fun _=>aB) 7 [.agg (Yq (Zk t i))] [V i,J i,H i,I i,S i,U i,Y i,G i] fun v h=>v= .bool (fun _=> !stop i)/\h=[V (i+1),J (i+1),H (i+1),I (i+1),S (i+1),U (i+1),Y (i+1),G (i+1)]):
  SC (fun _=>aB) 176 [.yld 7,Yp t] [V 0,J 0,H 0,I 0,S 0,U 0,Y 0,G 0] fun v h=>∃m,EndAt stop (manyT t) m/\h=[V m,J m,H m,I m,S m,U m,Y m,G m]:=by
 have A:∀j,j<8->Ql j [0,1,2,3,4,5,6,7] 0=some j:=by decide
 have p7:∀j,j<8->Ql j [0,1,2,3,4,5,6,7,8] 0=some j:=by decide
 have Z:∀j,j<8->Y7 [0,1,2,3,4,5,6,7] 9 j=j:=by decide
 refine Zxt t hf V J H I S U Y G stop (fun i X=>?_) (fun i f0 f1 f2 f3 f4 f5=>?_) (fun i X=>?_) (fun i j X=>?_) hy (Zd3 fun b hb=>?_)
 ·show [ZQ true _ _ (V i),ZQ true _ _ (J i),ZQ true _ _ (H i),ZQ true _ _ (I i),ZQ true _ _ (S i),ZQ true _ _ (U i),ZQ true _ _ (Y i),ZQ true _ _ (G i)]=_;rw[(h0 i).s _ _ _ A,(h1 i).s _ _ _ A,(h2 i).s _ _ _ A,(h3 i).s _ _ _ A,(h4 i).s _ _ _ A,(h5 i).s _ _ _ A,(h6 i).s _ _ _ A,(h7 i).s _ _ _ A]
 ·show [ZQ true _ _ (V i),ZQ true _ _ (J i),ZQ true _ _ (H i),ZQ true _ _ (I i),ZQ true _ _ (S i),ZQ true _ _ (U i),ZQ true _ _ (Y i),ZQ true _ _ (G i),_]=_;rw[(h0 i).s _ _ _ p7,(h1 i).s _ _ _ p7,(h2 i).s _ _ _ p7,(h3 i).s _ _ _ p7,(h4 i).s _ _ _ p7,(h5 i).s _ _ _ p7,(h6 i).s _ _ _ p7,(h7 i).s _ _ _ p7];rfl
 ·show [ZQ false _ _ (V i),ZQ false _ _ (J i),ZQ false _ _ (H i),ZQ false _ _ (I i),ZQ false _ _ (S i),ZQ false _ _ (U i),ZQ false _ _ (Y i),ZQ false _ _ (G i)]=_;rw[(h0 i).s _ _ _ A,(h1 i).s _ _ _ A,(h2 i).s _ _ _ A,(h3 i).s _ _ _ A,(h4 i).s _ _ _ A,(h5 i).s _ _ _ A,(h6 i).s _ _ _ A,(h7 i).s _ _ _ A]
 ·show [Xp (Y7 [0,1,2,3,4,5,6,7] 9) (V j),Xp (Y7 [0,1,2,3,4,5,6,7] 9) (J j),Xp (Y7 [0,1,2,3,4,5,6,7] 9) (H j),Xp (Y7 [0,1,2,3,4,5,6,7] 9) (I j),Xp (Y7 [0,1,2,3,4,5,6,7] 9) (S j),Xp (Y7 [0,1,2,3,4,5,6,7] 9) (U j),Xp (Y7 [0,1,2,3,4,5,6,7] 9) (Y j),Xp (Y7 [0,1,2,3,4,5,6,7] 9) (G j),X]=_;rw[(h0 j).r _ Z,(h1 j).r _ Z,(h2 j).r _ Z,(h3 j).r _ Z,(h4 j).r _ Z,(h5 j).r _ Z,(h6 j).r _ Z,(h7 j).r _ Z]
 simp only[bG,dS,or_false]at hb;rcases hb with rfl|rfl|rfl|rfl|rfl|rfl|rfl|rfl
 ·exact(h0 0).z
 ·exact(h1 0).z
 ·exact(h2 0).z
 ·exact(h3 0).z
 ·exact(h4 0).z
 ·exact(h5 0).z
 ·exact(h6 0).z
 exact(h7 0).z
theorem ZwB (t:Zb):SC (fun _=>aB) 136 [.iptr (ZX t) 0] [] fun v h=>v= .fn 176 [] [Yp t]/\h=[]:=by
 obtain⟨A,O⟩:=Zo;unfold Yp ZX;simp only[Za O,Zc,Zq];refine SC.less (QN Tryz.func136 (body:=Zj Tryz.f136) rfl (by decide+kernel) ?_);refine wS ?_;refine⟨_,[],?_,rfl,rfl⟩;exact ZF
theorem Zs4 (t:Zb):SC (fun _=>aB) 82 [.iptr (ZX t) 0] [] fun v h=>v= .fn 135 [] [Yp t]/\h=[]:=by
 obtain⟨A,O⟩:=Zo;unfold Yp ZX;simp only[Za O,Zc,Zq];refine SC.less (QN Tryz.func82 (body:=Zj Tryz.f82) rfl (by decide+kernel) ?_);refine wS ?_;refine⟨_,[],?_,rfl,rfl⟩;exact ZF
def QL (stop:Nat->Bool):Nat->Bool
 |0=>false
 |j+1=>stop j
theorem ZhH {Q:Ex->List AV->List Zh->Prop} {s s':List AV} {m:Nat} {h:List Zh} {d:Zh6} (hi:h[m]? =some (.loop s' d)) (G:d.st= .ready) (I:d.pe=none) {h':List Zh} (A:sel true (aR m) (h.set m (.loop s' {d with st:=.exhausted}))=h') (H:Q .normal s h'):Zai Q s m h:=by
 unfold Zai;rw[hi];subst A;simp only[G,I]at H|-;exact H
theorem ZhG {Q:Ex->List AV->List Zh->Prop} {s s':List AV} {m:Nat} {h:List Zh} {d:Zh6} (hi:h[m]? =some (.loop s' d)) (G:d.st= .done) (I:d.pe=some .ret) {h':List Zh} (A:sel true (aR m) (h.set m (.loop s' {d with st:=.exhausted}))=h') (H:Q .ret s h'):Zai Q s m h:=by
 unfold Zai;rw[hi];subst A;simp only[G,I]at H|-;exact H
theorem Zs3 (t:Zb) (hf:Zx t) (S H A G I J:Nat->Zh) (stop:Nat->Bool)
  (h0:∀i,QD 6 (S i)) (h1:∀i,QD 6 (H i)) (h2:∀i,QD 6 (A i)) (h3:∀i,QD 6 (G i)) (h4:∀i,QD 6 (I i)) (h5:∀i,QD 6 (J i))
  (hy:∀i,i<manyT t->(∀j,j<i->stop j=false)->YC (fun _=>aB) 5 [.agg (Yq (Zk t i)),.imap 2 3 fun _=>Qj t (Zk t i)] [S i,H i,A i,G i,I i,J i] fun v h=>v= .bool (fun _=> !stop i)/\h=[S (i+1),H (i+1),A (i+1),G (i+1),I (i+1),J (i+1)]):
  SC (fun _=>aB) 135 [.yld 5,Yp t] [S 0,H 0,A 0,G 0,I 0,J 0] fun v h=>∃m,EndAt stop (manyT t) m/\h=[S m,H m,A m,G m,I m,J m]:=by
 obtain⟨nt,O⟩:=Zo;have U:∀j,j<6->Ql j [0,1,2,3,4,5] 0=some j:=by decide
 have p5:∀j,j<6->Ql j [0,1,2,3,4,5,6] 0=some j:=by decide
 have Z:∀j,j<6->Ql j [0,1,2,3,4,5,6,7] 0=some j:=by decide
 have f7:∀j,j<6->Y7 [0,1,2,3,4,5] 9 j=j:=by decide
 have am:∀i X4 X5 X6,sel false [0,1,2,3,4,5] [S i,H i,A i,G i,I i,J i,X4,X5,X6]=[S i,H i,A i,G i,I i,J i]:=fun i X4 X5 X6=>by
  show [ZQ false _ _ (S i),ZQ false _ _ (H i),ZQ false _ _ (A i),ZQ false _ _ (G i),ZQ false _ _ (I i),ZQ false _ _ (J i)]=_;rw[(h0 i).s _ _ _ U,(h1 i).s _ _ _ U,(h2 i).s _ _ _ U,(h3 i).s _ _ _ U,(h4 i).s _ _ _ U,(h5 i).s _ _ _ U]
 have al:∀i j X4 X5 X6,back [0,1,2,3,4,5] [S i,H i,A i,G i,I i,J i,X4,X5,X6] [S j,H j,A j,G j,I j,J j]=[S j,H j,A j,G j,I j,J j,X4,X5,X6]:=fun i j X4 X5 X6=>by
  show [Xp (Y7 [0,1,2,3,4,5] 9) (S j),Xp (Y7 [0,1,2,3,4,5] 9) (H j),Xp (Y7 [0,1,2,3,4,5] 9) (A j),Xp (Y7 [0,1,2,3,4,5] 9) (G j),Xp (Y7 [0,1,2,3,4,5] 9) (I j),Xp (Y7 [0,1,2,3,4,5] 9) (J j),X4,X5,X6]=_;rw[(h0 j).r _ f7,(h1 j).r _ f7,(h2 j).r _ f7,(h3 j).r _ f7,(h4 j).r _ f7,(h5 j).r _ f7]
 have e5:∀m L,sel true (aR 7) [S m,H m,A m,G m,I m,J m,.cells [.yld 5],L]=[S m,H m,A m,G m,I m,J m,.cells [.yld 5]]:=fun m L=>by
  show [ZQ true [0,1,2,3,4,5,6] _ (S m),ZQ true [0,1,2,3,4,5,6] _ (H m),ZQ true [0,1,2,3,4,5,6] _ (A m),ZQ true [0,1,2,3,4,5,6] _ (G m),ZQ true [0,1,2,3,4,5,6] _ (I m),ZQ true [0,1,2,3,4,5,6] _ (J m),_]=_;rw[(h0 m).s _ _ _ p5,(h1 m).s _ _ _ p5,(h2 m).s _ _ _ p5,(h3 m).s _ _ _ p5,(h4 m).s _ _ _ p5,(h5 m).s _ _ _ p5];rfl
 have hz:zOk [S 0,H 0,A 0,G 0,I 0,J 0]=true:=Zd3 fun b V=>by
  simp only[bG,dS,or_false]at V;rcases V with rfl|rfl|rfl|rfl|rfl|rfl
  ·exact(h0 0).z
  ·exact(h1 0).z
  ·exact(h2 0).z
  ·exact(h3 0).z
  ·exact(h4 0).z
  exact(h5 0).z
 have ao:∀i a s d,zOk [S i,H i,A i,G i,I i,J i,.cells a,.loop s d]=true:=fun i a s d=>Zd3 fun b V=>by
  simp only[bG,dS,or_false]at V;rcases V with rfl|rfl|rfl|rfl|rfl|rfl|rfl|rfl
  ·exact(h0 i).z
  ·exact(h1 i).z
  ·exact(h2 i).z
  ·exact(h3 i).z
  ·exact(h4 i).z
  ·exact(h5 i).z
  ·rfl
  rfl
 have ai:=ZwB t;have ak:=fun s ps a x g4 g5=>Zwz t hf S H A G I J (fun _=>.cells [.yld 5]) (fun m=>.loop s ⟨ps,a,x,bif QL stop m then .done else .ready,bif QL stop m then some .ret else none⟩) stop (fun i=>(h0 i).mono (by decide)) (fun i=>(h1 i).mono (by decide)) (fun i=>(h2 i).mono (by decide)) (fun i=>(h3 i).mono (by decide)) (fun i=>(h4 i).mono (by decide)) (fun i=>(h5 i).mono (by decide)) g4 g5;have ae:=fun i=>ZwA t (Zk t i) hf (YI hf i);generalize Zk t=TA at*;generalize Qj t=HL at*;generalize manyT t=N at*;unfold Yp ZX Yq at*;simp only[Za O,Zc,Zq]at*;refine QN Tryz.func135 (body:=Zj Tryz.f135) rfl (by decide+kernel) ?_ hz;refine wS ?_;refine ZL (ai) (by first|rfl|(simp only[Ze,Zd,Zf,Zc,Za O];rfl)) fun r aj Y=>?_;(try simp only[Ze,Zd,Zf,Zc,Za O]at Y);obtain⟨rfl,rfl⟩:=Y;refine wS ?_;refine Zp1 (fid:=176) (first:=[]) rfl Yb ?_;refine SC.mono (ak _ _ _ _ ?_ ?_ ?_) ?_
 ·exact fun i=>⟨fun fz ι h Y=>by simp only[ZQ,Qs,eM,Y 5 (by decide)],fun φ Y=>by simp only[Xp,ren,eM,Y 5 (by decide)],rfl⟩
 ·exact fun i=>⟨fun fz ι h Y=>by simp only[ZQ,Qs,eM,Y 5 (by decide),Y 6 (by decide)],fun φ Y=>by simp only[Xp,ren,eM,Y 5 (by decide),Y 6 (by decide)],rfl⟩
 ·intro i hi aa;have ab:QL stop i=false:=by
   cases i with
   |zero=>rfl
   |succ j=>exact aa j (by omega)
  simp only[ab,cond_false];refine YC.less (Zc3 false false [] rfl rfl ?_ (ao i _ _ _));refine wS ?_;refine ZL (ae i) (by first|rfl|(simp only[Ze,Zd,Zf,Zc,Za O];rfl)) fun r aj Y=>?_;(try simp only[Ze,Zd,Zf,Zc,Za O]at Y);obtain⟨rfl,rfl⟩:=Y;refine wS ?_;refine YC.frameB [0,1,2,3,4,5] (by decide) (by simp) rfl rfl (am i _ _ _) (hy i hi aa) (al i (i+1) _ _ _) ?_;refine wS ?_;refine⟨fun V=>?_,fun V=>?_⟩
  ·have V:stop i=true:=by simpa using V
   have ac:QL stop (i+1)=true:=V;refine wS ?_;simp only[ac,cond_true];refine⟨.bool fun _=> !stop i,_,?_,rfl,rfl⟩;(refine To.of [] ?_;cbv;(try simp only[nc]);(repeat' (first|exact trivial|exact Zy.refl _|exact ZG.refl _|refine⟨?_,?_⟩|refine ZG.cells ?_|refine Zy.agg ?_|refine Zy.tup ?_));(all_goals (first|exact XQ|skip)));all_goals first|exact .bool (by rw[V];rfl)|exact(h0 _).wk Z|exact(h1 _).wk Z|exact(h2 _).wk Z|exact(h3 _).wk Z|exact(h4 _).wk Z|exact(h5 _).wk Z
  have V:stop i=false:=by simpa using V
  have ac:QL stop (i+1)=false:=V;refine wS ?_;simp only[ac,cond_false];refine⟨.bool fun _=> !stop i,_,?_,rfl,rfl⟩;(refine To.of [] ?_;cbv;(try simp only[nc]);(repeat' (first|exact trivial|exact Zy.refl _|exact ZG.refl _|refine⟨?_,?_⟩|refine ZG.cells ?_|refine Zy.agg ?_|refine Zy.tup ?_));(all_goals (first|exact XQ|skip)));all_goals first|exact .bool (by rw[V];rfl)|exact(h0 _).wk Z|exact(h1 _).wk Z|exact(h2 _).wk Z|exact(h3 _).wk Z|exact(h4 _).wk Z|exact(h5 _).wk Z
 intro v h hh;obtain⟨m,hm,rfl⟩:=hh;rcases hm with⟨hm,aa⟩|⟨j,hm,hj,ab,aa⟩
 ·have ab:QL stop m=false:=by
   cases m with
   |zero=>rfl
   |succ j=>exact aa j (by omega)
  simp only[ab,cond_false];refine ZhH rfl rfl rfl (e5 m _) ?_;refine wS ?_;refine⟨m,.inl ⟨hm,aa⟩,?_⟩;show [ZQ true [0,1,2,3,4,5] _ (S m),ZQ true [0,1,2,3,4,5] _ (H m),ZQ true [0,1,2,3,4,5] _ (A m),ZQ true [0,1,2,3,4,5] _ (G m),ZQ true [0,1,2,3,4,5] _ (I m),ZQ true [0,1,2,3,4,5] _ (J m)]=_;rw[(h0 m).s _ _ _ U,(h1 m).s _ _ _ U,(h2 m).s _ _ _ U,(h3 m).s _ _ _ U,(h4 m).s _ _ _ U,(h5 m).s _ _ _ U]
 have ah:QL stop m=true:=by rw[hm];exact ab
 simp only[ah,cond_true];refine ZhG rfl rfl rfl (e5 m _) ?_;refine wS ?_;refine⟨m,.inr ⟨j,hm,hj,ab,aa⟩,?_⟩;show [ZQ true [0,1,2,3,4,5] _ (S m),ZQ true [0,1,2,3,4,5] _ (H m),ZQ true [0,1,2,3,4,5] _ (A m),ZQ true [0,1,2,3,4,5] _ (G m),ZQ true [0,1,2,3,4,5] _ (I m),ZQ true [0,1,2,3,4,5] _ (J m)]=_;rw[(h0 m).s _ _ _ U,(h1 m).s _ _ _ U,(h2 m).s _ _ _ U,(h3 m).s _ _ _ U,(h4 m).s _ _ _ U,(h5 m).s _ _ _ U]
end Vm
namespace Vm
open Go Go.Proofs
def inA (n:Nat):Nat->AV->Bool
 |0,_=>false
 |k+1,a=>(match a with
  |.ptr id _=>ltN id n
  |.aptr id _ _ _=>ltN id n
  |.msl id _ _ _ _=>ltN id n
  |.gsl id _=>ltN id n
  |.gptr id _ _ _ _=>ltN id n
  |.nsub id _ _=>ltN id n
  |.nptr id _ _ _ _=>ltN id n
  |.map id=>ltN id n
  |.mit id=>ltN id n
  |.yld id=>ltN id n
  |.isl _ _ _ (.own id)=>ltN id n
  |.lit _ cs=>cs.all (inA n k)
  |.fn _ G A=>G.all (inA n k)&&A.all (inA n k)
  |.agg cs=>cs.all (inA n k)
  |.tup cs=>cs.all (inA n k)
  |.gd _ v=>inA n k v
  |_=>true)
theorem ZcA {α:Type} {f:α->α} {l:List α} (h:∀a∈l,f a=a):l.map f=l:=by
 induction l with
 |nil=>rfl
 |cons a l A=>rw[List.map_cons,h a (aU ..),A fun b G=>h b (aQ _ G)]
theorem Zig {n:Nat} {fz:Bool} {ι:List Nat} {h:List Zh} (H:∀j,j<n->Ql j ι 0=some j):∀(k:Nat) (a:AV),inA n k a=true->Qs fz ι h k a=a
 |0,a,A=>by cases A
 |k+1,a,A=>by
  have I:=Zig (fz:=fz) (h:=h) H k;have G:∀cs:List AV,cs.all (inA n k)=true->cs.map (Qs fz ι h k)=cs:=fun cs J=>ZcA fun a A=>I a (bL.1 J a A);cases a with
  |isl s m f tk=>
   cases tk with
   |own id=>simp only[Qs,H _ (Zaw A)]
   |_=>rfl
  |lit s cs=>simp only[Qs,G cs A]
  |fn f S U=>
   have A:=(aT _ _).mp A;simp only[Qs,G _ A.1,G _ A.2]
  |agg cs=>simp only[Qs,G cs A]
  |tup cs=>simp only[Qs,G cs A]
  |gd g v=>simp only[Qs,I v A]
  |ptr|aptr|msl|gsl|gptr|nsub|nptr|map|mit|yld=>simp only[Qs,H _ (Zaw A)]
  |_=>rfl
theorem Zk3 {n:Nat} {I:Nat->Nat} (H:∀j,j<n->I j=j):∀(k:Nat) (a:AV),inA n k a=true->ren I k a=a
 |0,a,A=>by cases A
 |k+1,a,A=>by
  have J:=Zk3 H k;have G:∀cs:List AV,cs.all (inA n k)=true->cs.map (ren I k)=cs:=fun cs S=>ZcA fun a A=>J a (bL.1 S a A);cases a with
  |isl s m f tk=>
   cases tk with
   |own id=>simp only[ren,H _ (Zaw A)]
   |_=>rfl
  |lit s cs=>simp only[ren,G cs A]
  |fn f U V=>
   have A:=(aT _ _).mp A;simp only[ren,G _ A.1,G _ A.2]
  |agg cs=>simp only[ren,G cs A]
  |tup cs=>simp only[ren,G cs A]
  |gd g v=>simp only[ren,J v A]
  |ptr|aptr|msl|gsl|gptr|nsub|nptr|map|mit|yld=>simp only[ren,H _ (Zaw A)]
  |_=>rfl
def Zxe (n:Nat):Zh->Bool
 |.cells cs=>cs.all (inA n 5)
 |.loop s _=>s.all (inA n 5)
 |.vgar .. =>false
 |.fam .. =>false
 |_=>true
theorem QD.of {n:Nat} {B:Zh} (h:Zxe n B=true):QD n B:=by
 cases B with
 |cells cs=>exact⟨fun H J k A=>congrArg Zh.cells (ZcA fun a G=>Zig A 5 a (bL.1 h a G)),fun I A=>congrArg Zh.cells (ZcA fun a G=>Zk3 A 5 a (bL.1 h a G)),rfl⟩
 |loop s d=>exact⟨fun H J k A=>congrArg (fun s=>Zh.loop s d) (ZcA fun a G=>Zig A 5 a (bL.1 h a G)),fun I A=>congrArg (fun s=>Zh.loop s d) (ZcA fun a G=>Zk3 A 5 a (bL.1 h a G)),rfl⟩
 |vgar=>cases h
 |fam=>cases h
 |_=>exact⟨fun _ _ _ _=>rfl,fun _ _=>rfl,rfl⟩
attribute [local irreducible] Dn
open Go Go.Proofs Sp
set_option maxRecDepth 100000
set_option maxHeartbeats 1600000
structure Wd where
 fr:Int
 to_:Int
 some_:Bool
deriving Inhabited
def Wd.add (w:Wd) (n:Int):Wd:=if w.some_ then⟨min w.fr n,max w.to_ n,true⟩else⟨n,n,true⟩
def YR (w:Wd):List AV:=[.int .i64 fun _=>w.fr,.int .i64 fun _=>w.to_,.bool fun _=>w.some_]
theorem ZwJ (w:Wd) (n:Int):SC (fun _=>aB) 83 [.ptr 0 0,.int .i64 fun _=>n] [.cells (YR w)] fun r h=>h=[.cells (YR (w.add n))]:=by
 refine SC.less ?_;refine QN Tryz.func83 (body:=Zj Tryz.f83) rfl (by decide+kernel) ?_;refine wS ?_;unfold Wd.add;refine⟨fun G=>?_,fun G=>?_⟩
 ·have A:w.some_=false:=nb2 G;rw[if_neg (by rw[A];exact aS)];refine wS ?_;refine⟨.tup [],_,?_,rfl⟩;(refine To.of [] ?_;cbv;(try simp only[nc]);(repeat' (first|exact trivial|exact Zy.refl _|exact ZG.refl _|refine⟨?_,?_⟩|refine ZG.cells ?_|refine Zy.agg ?_|refine Zy.tup ?_));(all_goals (first|exact XQ|skip)));all_goals (refine .int ?_;show(if n<n then n else n)=n;rw[if_neg (Int.lt_irrefl n)])
 have A:w.some_=true:=nb4 G;rw[if_pos A];have I:(if n<w.fr then n else w.fr)=min w.fr n:=by split<;>omega
 have H:(if w.to_<n then n else w.to_)=max w.to_ n:=by split<;>omega
 generalize min w.fr n=a at*;generalize max w.to_ n=b at*;refine vS ?_;refine Chk.mk (ZE) ?_;refine⟨.tup [],_,?_,rfl⟩;(refine To.of [] ?_;cbv;(try simp only[nc]);(repeat' (first|exact trivial|exact Zy.refl _|exact ZG.refl _|refine⟨?_,?_⟩|refine ZG.cells ?_|refine Zy.agg ?_|refine Zy.tup ?_));(all_goals (first|exact XQ|skip)));all_goals first|exact .bool A|exact .int I|exact .int H
theorem Zak {α:Type} (l:List α) (i j:Nat) (x d:α) (h:j≠i):(l.set i x).getD j d=l.getD j d:=by
 rw[aA,aA,bP,if_neg (Ne.symm h)]
theorem Zcd {α:Type} (l:List α) (i:Nat) (x d:α) (h:i<l.length):(l.set i x).getD i d=x:=by
 rw[aA,bP,if_pos rfl,if_pos h];rfl
theorem ZwK (l:List Wd) (i:Nat) (n:Int) (hi:i<l.length) (U:l.length<=1000000):SC (fun _=>aB) 83 [.aptr 0 3 (fun _=>(i:Int)) 0,.int .i64 fun _=>n] [.arr 3 (fun _=>(l.length:Int)) (Zb9 YR default l)] fun r h=>h=[.arr 3 (fun _=>(l.length:Int)) (Zb9 YR default (l.set i ((l.getD i default).add n)))]:=by
 obtain⟨A,O⟩:=Zo;rw[YE O];refine SC.less ?_;refine QN Tryz.func83 (body:=Zj Tryz.f83) rfl (by decide+kernel) ?_;have hw:l.getD i default=A Wd default l i:=by rw[O];rfl
 rw[hw];refine wS ?_;have G:∀(x:Wd) (j:Nat),Zb9 YR default (l.set i x) (fun _=>(j:Int))=YR (if j=i then x else A Wd default l j):=fun x j=>by
  show YR ((l.set i x).getD ((j:Int).toNat) default)=_;rw[aV];by_cases h:j=i
  ·subst h;rw[if_pos rfl,Zcd l _ x default hi]
  rw[if_neg h,Zak l i j x default h,O];rfl
 refine⟨fun I=>?_,fun I=>?_⟩
 ·have H:(A Wd default l i).some_=false:=nb2 I;refine wS ?_;refine⟨.tup [],[.arr 3 (fun _=>(l.length:Int)) (Zb9 YR default (l.set i ((A Wd default l i).add n)))],To.of [] ⟨⟨.refl _,trivial⟩,.arr rfl fun j S=>?_,trivial⟩,rfl⟩;rw[G];unfold Wd.add;rw[H];by_cases h:j=i
  ·subst h;simp[Qq,Zlc,putC,YR,J5,AV.cellsOf,purify]
  have J:¬((j:Int)=(i:Int)):=by omega
  simp[Qq,Zlc,putC,YR,J5,AV.cellsOf,purify,h,J]
 have H:(A Wd default l i).some_=true:=nb4 I;refine wS ?_;refine⟨.tup [],[.arr 3 (fun _=>(l.length:Int)) (Zb9 YR default (l.set i ((A Wd default l i).add n)))],To.of [] ⟨⟨.refl _,trivial⟩,.arr rfl fun j S=>?_,trivial⟩,rfl⟩;rw[G];unfold Wd.add;rw[H];by_cases h:j=i
 ·subst h;simp[Qq,Zlc,putC,YR,J5,AV.cellsOf,purify,H];exact⟨funext fun _=>by split<;>omega,funext fun _=>by split<;>omega⟩
 have J:¬((j:Int)=(i:Int)):=by omega
 simp[Qq,Zlc,putC,YR,J5,AV.cellsOf,purify,h,J]
end Vm
namespace Sp
open Vm
def ZbL (f:Nat->Int):Nat->Wd
 |0=>⟨0,0,false⟩
 |n+1=>(ZbL f n).add (f n)
def YU (t:Zb) (run:Int) (k i:Nat):Int:=
 if k%2=0 then(ZR t (Zk t i) run ((k/2:Nat):Int)).comes else(ZR t (Zk t i) run ((k/2:Nat):Int)).goes
def ZaR (t:Zb) (run:Int) (n i j:Nat):List Wd:=(aR (2*n)).map fun k=>if k<2*j then ZbL (YU t run k) (i+1)else ZbL (YU t run k) i
def Zhw (t:Zb) (run:Int) (k:Nat):Yc:=⟨(ZbL (YU t run k) (manyT t)).fr,(ZbL (YU t run k) (manyT t)).to_⟩
def Zaa (t:Zb) (run:Int):List Yc:=(aR (Zl (callsOf t) run).length).map fun a=>Zhw t run (2*a)
def Zcc (t:Zb) (run:Int):List Yc:=(aR (Zl (callsOf t) run).length).map fun a=>Zhw t run (2*a+1)
def Qy (t:Zb) (run:Int):Int:=if Zr t≠0 then Zr t else if QG run 0 ((t.runs.length:Int)-1)then 3 else 0
theorem Zbr {t:Zb} {run:Int} {n i j:Nat}:(ZaR t run n i j).length=2*n:=by unfold ZaR;simp
theorem Zbs {t:Zb} {run:Int} {n i j k:Nat} (h:k<2*n):(ZaR t run n i j).getD k default=if k<2*j then ZbL (YU t run k) (i+1)else ZbL (YU t run k) i:=by
 unfold ZaR;rw[aA,aO,cK h];rfl
theorem ZsA {t:Zb} {run:Int} {n i:Nat}:ZaR t run n i n=ZaR t run n (i+1) 0:=by
 unfold ZaR;refine eo fun k A=>?_;rw[if_pos (by have:=bW.1 A;omega),if_neg (by omega)]
theorem Zqc {t:Zb} {run:Int} {n i j:Nat} (I:j<n) {G:List Wd} (A:G=(ZaR t run n i j).set (2*j) (((ZaR t run n i j).getD (2*j) default).add (YU t run (2*j) i))):
  G.set (2*j+1) ((G.getD (2*j+1) default).add (YU t run (2*j+1) i))=ZaR t run n i (j+1):=by
 subst A;rw[Vm.Zak _ _ _ _ _ (by omega),Zbs (by omega),Zbs (by omega),if_neg (by omega),if_neg (by omega)];refine en fun k=>?_;by_cases hk:k<2*n
 ·have e:(ZaR t run n i (j+1))[k]? =some ((ZaR t run n i (j+1)).getD k default):=by
   rw[aA,aD (by rw[Zbr];exact hk)];rfl
  rw[e,Zbs hk];by_cases h1:2*j+1=k
  ·subst h1;rw[cS (by rw[cA,Zbr];exact hk),if_pos (by omega)];rfl
  rw[cR h1];by_cases A:2*j=k
  ·subst A;rw[cS (by rw[Zbr];exact hk),if_pos (by omega)];rfl
  rw[cR A];have H:(ZaR t run n i j)[k]? =some ((ZaR t run n i j).getD k default):=by
   rw[aA,aD (by rw[Zbr];exact hk)];rfl
  rw[H,Zbs hk];by_cases h3:k<2*j
  ·rw[if_pos h3,if_pos (by omega)]
  rw[if_neg h3,if_neg (by omega)]
 rw[cD (by rw[cA,cA,Zbr];omega),cD (by rw[Zbr];omega)]
theorem ZaV {t:Zb} {x:List Int} {r a:Int} (G:StopIn (callsOf t) r a):(Qj t x).lookup [r,a]=some (ZcP (ZR t x r a)):=by
 refine ZcB ?_ (bE.2 ⟨(r,a),JR.2 G,rfl⟩);unfold Qj;rw[ft]
 exact List.Pairwise.map _ (fun a b A e=>by
  apply A;simp only[Function.comp,cB,and_true]at e
  exact iH e.1 e.2) ZbV
end Sp
namespace Vm
attribute [local irreducible] Dn
open Go Go.Proofs Sp
set_option maxRecDepth 100000
set_option maxHeartbeats 4000000
def encSp (x:Sp.Yc):List AV:=[.int .i64 fun _=>x.fr,.int .i64 fun _=>x.to_]
theorem Zul (l A:List Wd) (i:Nat) (e n N:Int) (I:e=i) (J:N=l.length) (hi:i<l.length) (G:l.length<=1000000) (H:A=l.set i ((l.getD i default).add n)):SC (fun _=>aB) 83 [.aptr 0 3 (fun _=>e) 0,.int .i64 fun _=>n] [.arr 3 (fun _=>N) (Zb9 YR default l)] fun r h=>h=[.arr 3 (fun _=>N) (Zb9 YR default A)]:=by
 subst I J H;exact ZwK l i n hi G
theorem ZwP (t:Zb) (run:Int) (hf:QC t) (hw:Zr t=0->Zx t):SC (fun _=>aB) 22 [Zf t,.int .i64 fun _=>run] [] fun v h=>
  v= .tup [lst 2 encSp default (if Qy t run=0 then Zaa t run else []),lst 2 encSp default (if Qy t run=0 then Zcc t run else []),.int .i64 fun _=>Qy t run]/\h=[]:=by
 obtain⟨H,O⟩:=Zo;obtain⟨Y,a9⟩:∃Y:Nat->Nat->Nat->List Wd,∀n i j,Y n i j=(ZaR t run n i j).set (2*j) (((ZaR t run n i j).getD (2*j) default).add (YU t run (2*j) i)):=⟨_,fun _ _ _=>rfl⟩;refine SC.less (Zkl false false [] Tryz.func22 (body:=Zj Tryz.f22) rfl (by decide+kernel) ?_);have k:=ZqR t hf;have hr:=hf.runs;have k1:=ZdP run 0 ((t.runs.length:Int)-1);generalize J:Qy t run=e;unfold Qy at J;unfold Zf at*;simp only[Za O]at k|-;by_cases he:Zr t=0
 ·have hw:=hw he;unfold QW at k;rw[if_pos he]at k;rw[if_neg (fun h=>h he)]at J;have ah:=Zs4 t;unfold Yp ZX at*;simp only[Za O,Zc,Zq]at k ah|-;rw[he]at k;refine wS ?_;refine ZqW (k) ?_;refine wS ?_;refine Br.isF rfl ?_;refine wS ?_;refine ZqW (k1) ?_;refine wS ?_;refine⟨fun h=>?_,fun h=>?_⟩
  ·rw[if_pos h]at J;subst J;refine wS ?_;refine⟨_,[],?_,rfl,rfl⟩;exact ZF
  rw[if_neg (by rw[h];exact aS)]at J;subst J;have hb:=QE h;have bc:t.runs.length=(callsOf t).length:=by unfold callsOf;rw[bA]
  have ar:=hw.calls.row (Sp.Zl (callsOf t) run) (by
   unfold Sp.Zl;rw[aA,aD (by omega)]
   exact bM _)
  have aa:=fun x a h1 h2=> @ZaV t x run a ⟨hb.1,by omega,h1,h2⟩;have aw:∀i j:Nat,(ZR t (Zk t i) run (j:Int)).comes=YU t run (2*j) i:=fun i j=>by unfold YU;rw[if_pos (by omega),show 2*j/2=j by omega]
  have ba:∀i j:Nat,(ZR t (Zk t i) run (j:Int)).goes=YU t run (2*j+1) i:=fun i j=>by unfold YU;rw[if_neg (by omega),show(2*j+1)/2=j by omega]
  have Z:=fun i j h l2 h2=> @Zqc t run (Sp.Zl (callsOf t) run).length i j h l2 h2;have G:=fun i j=> @Zbr t run (Sp.Zl (callsOf t) run).length i j;have V:=fun i=> @ZsA t run (Sp.Zl (callsOf t) run).length i;have al:∀k,k<2*(Sp.Zl (callsOf t) run).length->(ZaR t run (Sp.Zl (callsOf t) run).length 0 0).getD k default=⟨0,0,false⟩:=fun k h=>by rw[Zbs h,if_neg (by omega)];rfl
  have aj:∀m j,j<(Sp.Zl (callsOf t) run).length->H Wd default (ZaR t run (Sp.Zl (callsOf t) run).length m 0) (0+2*(j:Int))=ZbL (YU t run (2*j)) m:=fun m j h=>by
   rw[O,show(0+2*(j:Int)).toNat=2*j by omega,Zbs (by omega),if_neg (by omega)]
  have ak:∀m j,j<(Sp.Zl (callsOf t) run).length->H Wd default (ZaR t run (Sp.Zl (callsOf t) run).length m 0) (0+(2*(j:Int)+1))=ZbL (YU t run (2*j+1)) m:=fun m j h=>by
   rw[O,show(0+(2*(j:Int)+1)).toNat=2*j+1 by omega,Zbs (by omega),if_neg (by omega)]
  have S:=fun B0 B1 B2 B3 B4 B5 stop=>Zs3 t hw B0 B1 B2 B3 B4 B5 stop;rw[if_pos rfl,if_pos rfl];have ao:Zaa t run=(aR (Sp.Zl (callsOf t) run).length).map fun a=>Zhw t run (2*a):=rfl;have am:Zcc t run=(aR (Sp.Zl (callsOf t) run).length).map fun a=>Zhw t run (2*a+1):=rfl;generalize Zaa t run=CL at*;generalize Zcc t run=GL at*;unfold Yp ZX at S;simp only[Zau O,Za O,Zc,Zq]at ar aa aj ak Z G V al ao am S;generalize ZaR t run=A at*;generalize Zk t=TA at*;generalize Qj t=HL at*;generalize bh:callsOf t=c at*;refine wS ?_;refine ZqW (ah) ?_;refine wS ?_;generalize hn:(H (List Sp.Call) [] c run).length=n at*;have ai:∀k:Nat,(k:Int)<2*(n:Int)->[AV.int .i64 fun _=>0,AV.int .i64 fun _=>0,AV.bool fun _=>false]=YR (H Wd default (A n 0 0) (k:Int)):=fun k h=>by
   rw[O,aV,al k (by omega)];rfl
  refine Zf4 [3,4,5,6,8,9,42] [] [(3,.arr 3 (fun _=>2*(n:Int)) (fun e=>YR (H Wd default (A n 0 0) (e ()))))] (fid:=135) (first:=[]) ?_ rfl ?_ ?_
  ·refine toR ?_;exact ZG.arr rfl ai
  ·exact Yb
  refine SC.mono (S (fun _=>_) (fun _=>_) (fun _=>_) (fun i=>.arr 3 (fun _=>2*(n:Int)) (fun e=>YR (H Wd default (A n i 0) (e ())))) (fun _=>_) (fun _=>_) (fun _=>false) ?_ ?_ ?_ ?_ ?_ ?_ ?_) ?_;iterate 6 exact fun i=>QD.of rfl
  ·intro i hi bg;refine YC.less (Zc3 false false [] rfl rfl ?_);refine wS ?_;refine Zui false false [] [3,4,5,8,9,11,44,45,46] [] (fun(j:Nat)=>[(46,.int .i64 fun _=>(j:Int))]) (fun j=>[(3,.arr 3 (fun _=>2*(n:Int)) (fun e=>YR (H Wd default (A n i j) (e ()))))]) (fun j=>j<=n) (fun j=>n-j+0) 0 (by omega) ?_ ?_
   ·exact ZF
   intro j hj;refine wS ?_;refine⟨fun ac=>?_,fun ac=>?_⟩
   ·simp only[decide_eq_true_eq]at ac;have e1:(((HL (TA i)).lookup [run,(j:Int)]).getD []).headD 0=YU t run (2*j) i:=by rw[aa _ _ (by omega) (by omega),<-aw];rfl
    have e2:(((HL (TA i)).lookup [run,(j:Int)]).getD []).tail.tail.headD 0=YU t run (2*j+1) i:=by rw[aa _ _ (by omega) (by omega),<-ba];rfl
    have ae:=a9 n i j;have h3:=Z i j (by omega) (Y n i j) ae;have U:(Y n i j).length=2*n:=by rw[ae,cA,G]
    have k1:=Zul (A n i j) (Y n i j) (2*j) (0+2*(j:Int)) (YU t run (2*j) i) (2*(n:Int)) (by omega) (by rw[G];omega) (by rw[G];omega) (by rw[G];omega) ae;have k2:=Zul (Y n i j) (A n i (j+1)) (2*j+1) (0+(2*(j:Int)+1)) (YU t run (2*j+1) i) (2*(n:Int)) (by omega) (by rw[U];omega) (by rw[U];omega) (by rw[U];omega) h3.symm;simp only[YE O]at k1 k2;refine vS ?_;refine Chk.mk (ZE) ?_;simp only[e1];refine cL1 [3] (k1) fun r au I=>?_;(try simp only[Ze,Zd,Zf,Zc,Za O]at I);obtain rfl:=I;refine vS ?_;try refine Chk.mk (ZE) ?_
    simp only[e2];refine cL1 [3] (k2) fun r au I=>?_;(try simp only[Ze,Zd,Zf,Zc,Za O]at I);obtain rfl:=I;refine wS ?_;refine⟨j+1,by omega,by show n-(j+1)+0<n-j+0;omega,?_⟩;exact ZF
   simp only[decide_eq_false_iff_not]at ac;have az:j=n:=by omega
   subst az;refine wS ?_;refine⟨.bool fun _=>true,_,?_,rfl,rfl⟩;refine toR ?_;rw[V i];exact ZG.refl _
  intro v h hh;obtain⟨m,hm,rfl⟩:=hh;have ap:m=manyT t:=by
   rcases hm with h|⟨_,_,_,h,_⟩
   ·exact h.1
   cases h
  refine wS ?_;refine ZJ false false [] [4,5,9,77,78] [.tok 2 fun _=>0,.tok 2 fun _=>0] (fun p:Nat×List Sp.Yc×List Sp.Yc=>[(78,.int .i64 fun _=>(p.1:Int)),(4,.isl 2 (fun _=>(p.2.1.length:Int)) (fun e=>encSp (H Sp.Yc default p.2.1 (e ()))) (.own 5)),(5,.isl 2 (fun _=>(p.2.2.length:Int)) (fun e=>encSp (H Sp.Yc default p.2.2 (e ()))) (.own 6))]) (fun p=>[(5,.tok 2 fun _=>(p.2.1.length:Int)),(6,.tok 2 fun _=>(p.2.2.length:Int))])
   (fun p=>p.1<=n/\p.2.1=(aR p.1).map (fun a=>Zhw t run (2*a))/\p.2.2=(aR p.1).map (fun a=>Zhw t run (2*a+1))) (fun p=>n-p.1+0) (0,[],[]) ⟨by omega,rfl,rfl⟩ ?_ ?_
  ·(refine To.of [(2,false),(2,false)] ?_;cbv;(try simp only[nc]);(repeat' (first|exact trivial|exact Zy.refl _|exact ZG.refl _|refine⟨?_,?_⟩|refine ZG.cells ?_|refine Zy.agg ?_|refine Zy.tup ?_));(all_goals (first|exact XQ|skip)))
  intro p I;refine wS ?_;refine⟨fun ab=>?_,fun ab=>?_⟩
  ·simp only[decide_eq_true_eq]at ab;have x1:=aj m p.1 (by omega);have x2:=ak m p.1 (by omega);have a1:=congrArg fM I.2.1;have a2:=congrArg fM I.2.2;rw[bA,cO]at a1 a2;refine vS ?_;refine Chk.mk (ZE) ?_;refine⟨(p.1+1,p.2.1++[⟨(H Wd default (A n m 0) (0+2*(p.1:Int))).fr,(H Wd default (A n m 0) (0+2*(p.1:Int))).to_⟩],p.2.2++[⟨(H Wd default (A n m 0) (0+(2*(p.1:Int)+1))).fr,(H Wd default (A n m 0) (0+(2*(p.1:Int)+1))).to_⟩]),⟨by show p.1+1<=n;omega,?_,?_⟩,by show n-(p.1+1)+0<n-p.1+0;omega,?_⟩
   ·show p.2.1++_=_;rw[fE,dD,<-I.2.1,x1,ap];rfl
   ·show p.2.2++_=_;rw[fE,dD,<-I.2.2,x2,ap];rfl
   exact ZF
  simp only[decide_eq_false_iff_not]at ab;have aq:p.1=n:=by omega
  have r1:p.2.1=CL:=by rw[I.2.1,aq,ao]
  have r2:p.2.2=GL:=by rw[I.2.2,aq,am]
  refine wS ?_;rw[r1,r2];refine⟨_,[],?_,rfl,rfl⟩;exact ZF
 unfold QW at k;rw[if_neg he]at k;rw[if_pos he]at J;rw[J]at k he;rw[if_neg he,if_neg he];refine wS ?_;refine ZqW (k) ?_;refine wS ?_;refine⟨fun h=>?_,fun h=>?_⟩
 ·refine wS ?_;refine⟨_,[],?_,rfl,rfl⟩;exact ZF
 exact absurd (by simpa only[bne_eq_false_iff_eq]using h) he
end Vm
namespace Sp
open Vm
structure WorldL where
 come:List (List Int)
 ready:List (List Int)
 go:List (List Int)
deriving Inhabited
def Js (t:Zb) (f:Nat->Nat->Int):List (List Int):=(aR (callsOf t).length).map fun r=>(aR (J4 t r)).map fun i=>f r i
def ZfJ (t:Zb) (x:List Int):WorldL:=⟨Js t fun r i=>(ZR t x r i).comes,Js t fun r i=>(ZR t x r i).ready,Js t fun r i=>(ZR t x r i).goes⟩
def QK (t:Zb):List WorldL:=(aR (manyT t)).map fun n=>ZfJ t (Zk t n)
theorem ZfI (t:Zb):(QK t).length=manyT t:=by unfold QK;rw[bA,cO]
theorem Zcp (t:Zb) {n:Nat} (h:n<manyT t):(QK t).getD n default=ZfJ t (Zk t n):=by
 unfold QK;rw[aA,aO,cK h];rfl
theorem Zj4 (t:Zb) (f:Nat->Nat->Int):(Js t f).length=(callsOf t).length:=by unfold Js;rw[bA,cO]
theorem ZgH (t:Zb) (f:Nat->Nat->Int) {r:Nat} (h:r<(callsOf t).length):(Js t f).getD r []=(aR (J4 t r)).map fun i=>f r i:=by
 unfold Js;rw[aA,aO,cK h];rfl
theorem ZfA (t:Zb) (f:Nat->Nat->Int) {r i:Nat} (h:r<(callsOf t).length) (hi:i<J4 t r):((Js t f).getD r []).getD i 0=f r i:=by
 rw[ZgH t f h,aA,aO,cK hi];rfl
def Zjo (ds:List ZP) (m n:Nat):List Int:=(aR m).map fun i=>(ds.getD i default).by_.getD ((XZ ds m n).getD i 0).toNat 0
theorem Zf3 {α:Type} (g:Nat->Int->α) (l:List Int):∀P:Nat,(aR P).flatMap (fun a=>l.map (g a))=(aR (P*l.length)).map fun n=>g (n/l.length) (l.getD (n%l.length) 0)
 |0=>by simp
 |P+1=>by
  rw[fE,List.flatMap_append,Zf3 g l P,Nat.succ_mul,List.range_add,dD,List.flatMap_singleton,ft];congr 1;refine List.ext_getElem (by simp) fun i G H=>?_;have A:i<l.length:=by rw[bA]at G;exact G
  rw[fy,fy,List.getElem_range];show g P l[i]=g ((P*l.length+i)/l.length) (l.getD ((P*l.length+i)%l.length) 0);rw[Nat.mul_comm P,Nat.mul_add_div (by omega),Nat.div_eq_of_lt A,Nat.add_zero,Nat.mul_add_mod,Nat.mod_eq_of_lt A,aA,aD A];rfl
theorem ZeT (d:ZP):∀l:List ZP,QY (l++[d])=(QY l).flatMap fun x=>d.by_.map fun n=>x++[n]
 |[]=>by
  show(d.by_.flatMap fun n=>(QY []).map fun x=>n::x)=_;unfold QY;simp[List.map_eq_flatMap]
 |e::l=>by
  show(e.by_.flatMap fun n=>(QY (l++[d])).map fun x=>n::x)=(e.by_.flatMap fun n=>(QY l).map fun x=>n::x).flatMap fun x=>d.by_.map fun n=>x++[n];rw[ZeT d l,List.flatMap_assoc];congr 1;funext n;rw[List.map_flatMap,ik];congr 1;funext x;rw[ft];rfl
theorem ZmX (ds:List ZP) (m n:Nat) (hm:m<6):Zjo ds (m+1) n=Zjo ds m (n/lenAt ds m)++[(ds.getD m default).by_.getD (n%lenAt ds m) 0]:=by
 unfold Zjo;rw[fE,dD,List.map_singleton];congr 1
 ·refine eo fun i A=>?_;have A:=bW.1 A;show _=(ds.getD i default).by_.getD ((XZ ds m (n/lenAt ds m)).getD i 0).toNat 0;congr 2;show((XZ ds m (n/lenAt ds m)).set m _).getD i 0=_;rw[aA,cR (by omega),<-aA]
 congr 2;show(((XZ ds m (n/lenAt ds m)).set m ((n%lenAt ds m:Nat):Int)).getD m 0).toNat=_;rw[aA,cS (by rw[XY];exact hm)];exact aV _
theorem ZeS (ds:List ZP) (A:ds.length<=6):∀m,m<=ds.length->QY (ds.take m)=(aR (Yl ds m)).map (Zjo ds m)
 |0,_=>rfl
 |m+1,hm=>by
  have e:ds.take (m+1)=ds.take m++[ds.getD m default]:=by
   rw[List.take_add_one,aD (by omega),aA,aD (by omega)];rfl
  rw[e,ZeT,ZeS ds A m (by omega),ik,Zf3 (fun a n=>Zjo ds m a++[n])];show(aR (Yl ds m*lenAt ds m)).map _=(aR (Yl ds m*lenAt ds m)).map _;refine eo fun n _=>?_;rw[ZmX ds m n (by omega)];rfl
theorem ZfM {t:Zb} (A:t.delays.length<=6):QY t.delays=(aR (manyT t)).map fun n=>YX t (Zk t n):=by
 have h:=ZeS t.delays A t.delays.length (aJ _);rw[eW]at h;exact h
theorem ZjO {t:Zb} (G:t.delays.length<=6) (A:∀d∈t.delays,d.by_.length<=3):manyT t<=729:=by
 have h:=ZbT t.delays A;rw[ZfM G,bA,cO]at h;exact cF h (cF (Nat.pow_le_pow_right (by decide) G) (by decide))
def ZbR (x:Yc) (n:Int) (first:Bool):Yc:=bif first then⟨n,n⟩else⟨min x.fr n,max x.to_ n⟩
def Zjm (f:Nat->Int) (n:Nat):Yc:=⟨(ZbL f n).fr,(ZbL f n).to_⟩
theorem Zro (f:Nat->Int):∀n,(ZbL f n).some_=decide (0<n)
 |0=>rfl
 |n+1=>by
  show((ZbL f n).add (f n)).some_=_;unfold Wd.add;rw[decide_eq_true (by omega)];split<;>rfl
theorem Zok (f:Nat->Int) (n:Nat):Zjm f (n+1)=ZbR (Zjm f n) (f n) (n==0):=by
 unfold Zjm ZbR;show Yc.mk ((ZbL f n).add (f n)).fr ((ZbL f n).add (f n)).to_=_;unfold Wd.add;rw[Zro];match n with
 |0=>rfl
 |n+1=>rw[if_pos (by simp)];rfl
def Zav (t:Zb) (run:Int) (p n i k:Nat):List Yc:=(aR n).map fun j=>Zjm (YU t run (2*j+p)) (if j<k then i+1 else i)
theorem ZdF {t:Zb} {run:Int} {p n i k:Nat}:(Zav t run p n i k).length=n:=by unfold Zav;rw[bA,cO]
theorem ZjM {t:Zb} {run:Int} {p n i k j:Nat} (h:j<n):(Zav t run p n i k).getD j default=Zjm (YU t run (2*j+p)) (if j<k then i+1 else i):=by
 unfold Zav;rw[aA,aO,cK h];rfl
theorem Zqd {t:Zb} {run:Int} {p n i:Nat}:Zav t run p n i n=Zav t run p n (i+1) 0:=by
 unfold Zav;refine eo fun k A=>?_;rw[if_pos (bW.1 A),if_neg (by omega)]
theorem Znt {t:Zb} {run:Int} {p n i k:Nat} (A:k<n):(Zav t run p n i k).set k (ZbR ((Zav t run p n i k).getD k default) (YU t run (2*k+p) i) (i==0))=Zav t run p n i (k+1):=by
 rw[ZjM A,if_neg (by omega),<-Zok];refine en fun j=>?_;by_cases hj:j<n
 ·by_cases h:k=j
  ·subst h;rw[cS (by rw[ZdF];exact hj)];unfold Zav;rw[aO,cK hj];show _=some (Zjm _ (if k<k+1 then i+1 else i));rw[if_pos (by omega)]
  rw[cR h];unfold Zav;rw[aO,aO,cK hj];show some (Zjm _ (if j<k then i+1 else i))=some (Zjm _ (if j<k+1 then i+1 else i));by_cases h2:j<k
  ·rw[if_pos h2,if_pos (by omega)]
  rw[if_neg h2,if_neg (by omega)]
 rw[cD (by rw[cA,ZdF];omega),cD (by rw[ZdF];omega)]
theorem Zlp (t:Zb) (run:Int):Zav t run 0 (Zl (callsOf t) run).length (manyT t) 0=Zaa t run:=by
 unfold Zav Zaa;refine eo fun k A=>?_;rw[if_neg (by omega)];rfl
theorem Znu (t:Zb) (run:Int):Zav t run 1 (Zl (callsOf t) run).length (manyT t) 0=Zcc t run:=by
 unfold Zav Zcc;refine eo fun k A=>?_;rw[if_neg (by omega)];rfl
theorem ZgI (t:Zb) (f:Nat->Nat->Int) {r a:Int} (A:StopIn (callsOf t) r a):((Js t f).length:Int)=(callsOf t).length/\(((Js t f).getD r.toNat []).length:Int)=(Zl (callsOf t) r).length/\((Js t f).getD r.toNat []).getD a.toNat 0=f r.toNat a.toNat:=by
 obtain⟨G,I,H,J⟩:=A;have e:J4 t r.toNat=(Zl (callsOf t) r).length:=by unfold J4;rw[fZ G]
 refine⟨by rw[Zj4],?_,ZfA t f (by omega) (by rw[e];omega)⟩;rw[ZgH t f (by omega),bA,cO,e]
theorem Zoi {A:(α:Type)->α->List α->Int->α} (O:∀(α:Type) (d:α) (l:List α) (i:Int),A α d l i=l.getD i.toNat d) {t:Zb} {n:Nat} (U:n<manyT t) {r a:Int} (G:StopIn (callsOf t) r a):
  (((A WorldL default (QK t) (n:Int)).come.length:Int)=(callsOf t).length/\((A (List Int) [] (A WorldL default (QK t) (n:Int)).come r).length:Int)=(Zl (callsOf t) r).length/\A Int 0 (A (List Int) [] (A WorldL default (QK t) (n:Int)).come r) a=(ZR t (Zk t n) r a).comes)/\
  (((A WorldL default (QK t) (n:Int)).ready.length:Int)=(callsOf t).length/\((A (List Int) [] (A WorldL default (QK t) (n:Int)).ready r).length:Int)=(Zl (callsOf t) r).length/\A Int 0 (A (List Int) [] (A WorldL default (QK t) (n:Int)).ready r) a=(ZR t (Zk t n) r a).ready)/\
  (((A WorldL default (QK t) (n:Int)).go.length:Int)=(callsOf t).length/\((A (List Int) [] (A WorldL default (QK t) (n:Int)).go r).length:Int)=(Zl (callsOf t) r).length/\A Int 0 (A (List Int) [] (A WorldL default (QK t) (n:Int)).go r) a=(ZR t (Zk t n) r a).goes):=by
 simp only[O,aV,Zcp t U];have S:((r.toNat:Nat):Int)=r:=fZ G.1;have V:((a.toNat:Nat):Int)=a:=fZ G.2.2.1;have J:=ZgI t (fun r i=>(ZR t (Zk t n) r i).comes) G;have I:=ZgI t (fun r i=>(ZR t (Zk t n) r i).ready) G;have H:=ZgI t (fun r i=>(ZR t (Zk t n) r i).goes) G;rw[S,V]at J I H;exact⟨J,I,H⟩
theorem ZkQ {t:Zb} {n r i:Nat} (A:n<manyT t) (h:r<(callsOf t).length) (hi:i<J4 t r):(((QK t).getD n default).come.getD r []).getD i 0=YU t r (2*i+0) n:=by
 rw[Zcp t A];show((Js t _).getD r []).getD i 0=_;rw[ZfA t _ h hi];unfold YU;rw[if_pos (by omega),show(2*i+0)/2=i by omega]
theorem Zoj {t:Zb} {n r i:Nat} (A:n<manyT t) (h:r<(callsOf t).length) (hi:i<J4 t r):(((QK t).getD n default).go.getD r []).getD i 0=YU t r (2*i+1) n:=by
 rw[Zcp t A];show((Js t _).getD r []).getD i 0=_;rw[ZfA t _ h hi];unfold YU;rw[if_neg (by omega),show(2*i+1)/2=i by omega]
end Sp
namespace Vm
open Sp
def Xl (w:WorldL):List AV:=[lst 1 Qa [] w.come,lst 1 Qa [] w.ready,lst 1 Qa [] w.go]
end Vm
namespace Sp
open Vm
theorem Zfz:∀ {l:List Pc} {r a:Int},(∀p∈l,p.bef<=1099511627776)->0<=a/\a<=1099511627776->a<=Q7 l r a/\Q7 l r a<=1099511627776
 |[],r,a,_,h=>by unfold Q7 Xx;exact⟨h.2,bT _⟩
 |p::l,r,a,hl,h=>by
  unfold Q7;have G:=hl p (aU ..);split
  ·omega
  exact Zfz (fun q A=>hl q (aQ _ A)) h
theorem Zdf {G:List Zone} (U:∀z∈G,Zw z=0) {day:Int} {many:Nat}:∀(S:List Stop) (i:Nat) (A:Int),0<=A/\A<=1099511627776->(∀s∈S,0<=s.zone/\s.zone<G.length)->∀c∈Q5 G day many i A S,0<=c.arrive/\c.arrive<=c.depart/\c.depart<=1099511627776
 |[],_,_,_,_,c,H=>by unfold Q5 at H;cases H
 |s::r,i,A,hn,hs,c,H=>by
  have aa:=hs s (aU ..);have V:G.getD s.zone.toNat default∈G:=by rw[aA,aD (by omega)];exact bM _
  have J:=fun p J=>((Zeb (U _ V)).2 p J).2.2.2.1;have hr:=fun q Z=>hs q (aQ _ Z);unfold Q5 at H;split at H
  ·have I:0<=(if i+1<many then Q7 (ZU (G.getD s.zone.toNat default)) (1440*day+s.depart) A else 0)/\(if i+1<many then Q7 (ZU (G.getD s.zone.toNat default)) (1440*day+s.depart) A else 0)<=1099511627776:=by
    split
    ·have:=Zfz (r:=1440*day+s.depart) J hn;omega
    omega
   rcases bG.1 H with rfl|H
   ·exact⟨I.1,bT _,I.2⟩
   exact Zdf U r _ _ I hr c H
  have Y:=Zfz (r:=1440*day+s.arrive) J hn;have I:Q7 (ZU (G.getD s.zone.toNat default)) (1440*day+s.arrive) A<=(if i+1<many then Q7 (ZU (G.getD s.zone.toNat default)) (1440*day+s.depart) (Q7 (ZU (G.getD s.zone.toNat default)) (1440*day+s.arrive) A)else Q7 (ZU (G.getD s.zone.toNat default)) (1440*day+s.arrive) A)/\
    (if i+1<many then Q7 (ZU (G.getD s.zone.toNat default)) (1440*day+s.depart) (Q7 (ZU (G.getD s.zone.toNat default)) (1440*day+s.arrive) A)else Q7 (ZU (G.getD s.zone.toNat default)) (1440*day+s.arrive) A)<=1099511627776:=by
   split
   ·exact Zfz J ⟨by omega,Y.2⟩
   exact⟨bT _,Y.2⟩
  rcases bG.1 H with rfl|H
  ·exact⟨by show 0<=Q7 _ _ _;omega,I⟩
  exact Zdf U r _ _ ⟨by omega,I.2⟩ hr c H
theorem ZuJ {b:Xs} (h:Zl9 b) {t:Train} {day:Int} (A:t∈Xt b day):ZdW b.zones.length t:=by
 unfold Xt at A;split at A
 ·exact h.old t A
 exact h.new t A
theorem ZuM {b:Xs} {n d:Int} (h:(Run b n d).2=0):∀c∈(Run b n d).1,0<=c.arrive/\c.arrive<=c.depart/\c.depart<=1099511627776:=by
 unfold Run at*;split
 ·intro c A;cases A
 rename_i J;split
 ·intro c A;cases A
 split
 ·intro c A;cases A
 rename_i S;split
 ·intro c A;cases A
 have G:=ZcH (bQ J);have H:(place (Xt b d) n).toNat<(Xt b d).length:=by
  have:=XL (q:=fun t:Train=>decide (t.number=n)) (l:=Xt b d) (i:=0) (by omega);unfold place at*;omega
 have hm:(Xt b d).getD (place (Xt b d) n).toNat default∈Xt b d:=by
  rw[aA,aD H];exact bM _
 exact Zdf G.zones _ 0 0 ⟨by omega,by omega⟩ fun s I=>((ZuJ G hm).stops s I).zone
theorem ZjZ {α:Type} {q:α->Bool} {d:α}:∀ {l:List α} {i:Int} {k:Nat},k<l.length->q (l.getD k d)=true->i<=Zt q i l/\Zt q i l<=i+k
 |[],_,k,h,_=>by simp at h
 |x::r,i,0,_,hq=>by
  have A:q x=true:=hq;rw[Zt,if_pos A];omega
 |x::r,i,k+1,h,hq=>by
  rw[Zt];split
  ·omega
  have:=ZjZ (l:=r) (i:=i+1) (k:=k) (by simpa using h) hq;omega
theorem Yo {t:Zb} (h:Zr t=0):Zx t:=by
 unfold Zr at h;split at h
 ·exact absurd h (by assumption)
 split at h
 ·exact absurd h (by assumption)
 rename_i h0 Z;split at h
 ·cases h
 split at h
 ·exact absurd h (by assumption)
 rename_i h2 H;split at h
 ·cases h
 rename_i h4;have hr:=bQ Z;have hw:=Qp (bQ H);have hd:=Qp h;have ac:=Za1 hr;have ak:t.runs.length=(callsOf t).length:=by unfold callsOf;rw[bA]
 have J:∀r:Int,0<=r->r<(callsOf t).length->(∀c∈Zl (callsOf t) r,0<=c.arrive/\c.arrive<=c.depart/\c.depart<=1099511627776)/\Q8 (Zl (callsOf t) r)=0:=fun r Z h2=>by
  unfold QQ at hr;split at hr
  ·cases hr
  split at hr
  ·cases hr
  have H:=Qp hr r.toNat (by omega) (by omega);have e:Zl (callsOf t) r=Yt t (t.runs.getD r.toNat default):=by
   unfold Zl callsOf;rw[aA,aO,aA,aD (by omega)];rfl
  rw[e];unfold Jy at H;split at H
  ·exact absurd H (by assumption)
  rename_i h4;split at H
  ·cases H
  rename_i A;exact⟨ZuM (bQ h4),bQ A⟩
 have Y:∀r a,StopIn (callsOf t) r a->callAt (callsOf t) r a∈Zl (callsOf t) r:=fun r a G=>by
  unfold callAt;rw[aA,aD (by have:=G.2.2.2;have:=G.2.2.1;omega)];exact bM _
 have U:∀r a,StopIn (callsOf t) r a->0<a->(callAt (callsOf t) r (a-1)).depart<(callAt (callsOf t) r a).arrive:=fun r a G ha=>by
  have Z:=(J r G.1 G.2.1).2;have h2:=G.2.2.2;have H:=Qp Z a.toNat (by omega) (by omega);unfold YB at H;split at H
  ·cases H
  rename_i h4;unfold callAt;rw[show(a-1).toNat=a.toNat-1 by omega];omega
 refine⟨ac,fun r a G=>(J r G.1 G.2.1).1 _ (Y r a G),U,by omega,by omega,fun w ai=>?_,fun d ae=>?_⟩
 ·obtain⟨i,hi,S⟩:=J1 (d:=default) ai;have A:=hw i (by omega) (by omega);rw[S]at A;unfold Qd at A;split at A
  ·cases A
  rename_i g1;split at A
  ·cases A
  split at A
  ·cases A
  rename_i g3;split at A
  ·cases A
  rename_i V;split at A
  ·cases A
  rename_i g5;have b1:0<=w.feeder/\w.feeder<=((callsOf t).length:Int)-1:=QE (by cases hq:QG w.feeder 0 ((callsOf t).length-1)with|false=>rfl|true=>exact absurd (by rw[hq];rfl) g1);have b4:=QE (by simpa using V);have s1:=YA (Zl (callsOf t) w.feeder) 1 w.station;have ab:1<=ZA (Zl (callsOf t) w.feeder) w.station:=by
   have:¬ZA (Zl (callsOf t) w.feeder) w.station<0:=fun h=>g3 (.inl h);unfold ZA at*;omega
  refine⟨b1.1,by omega,ab,b4.1,b4.2,fun a G al ah=>?_⟩;have hg:0<=ZN (Zl (callsOf t) w.train) w.station:=by
   have:¬ZN (Zl (callsOf t) w.train) w.station<0:=fun h=>g3 (.inr h);omega
  have aj:ZN (Zl (callsOf t) w.train) w.station=ZM (Zl (callsOf t) w.train) 0 w.station:=by
   unfold ZN at*;split at hg
   ·rw[if_pos (by assumption)]
   omega
  have am:ZM (Zl (callsOf t) w.train) 0 w.station<=a:=by
   have:=ZjZ (q:=fun c:Call=>decide (c.station=w.station)) (d:=default) (l:=Zl (callsOf t) w.train) (i:=0) (k:=a.toNat) (by have:=G.2.2.2;have:=G.2.2.1;omega) (decide_eq_true ah);have h0:=G.2.2.1;unfold ZM;rw[show max 0 (0:Int)=0 from rfl,show(0:Int).toNat=0 from rfl,List.drop_zero];omega
  have aa:∀(n:Nat) (g:Int),0<=g->StopIn (callsOf t) w.train (g+n)->(callAt (callsOf t) w.train g).depart<=(callAt (callsOf t) w.train (g+n)).depart:=by
   intro n;induction n with
   |zero=>intro g _ _;rw[show g+((0:Nat):Int)=g by omega];exact bT _
   |succ n ih=>
    intro g h0 I;have hp:StopIn (callsOf t) w.train (g+n):=⟨I.1,I.2.1,by omega,by have:=I.2.2.2;omega⟩;have Z:=ih g h0 hp;have h2:=U w.train (g+((n+1:Nat):Int)) I (by omega);rw[show g+((n+1:Nat):Int)-1=g+n by omega]at h2;have H:=((J w.train I.1 I.2.1).1 _ (Y _ _ I)).2.1;omega
  have hm:=aa (a-ZM (Zl (callsOf t) w.train) 0 w.station).toNat (ZM (Zl (callsOf t) w.train) 0 w.station) (by omega) (by rw[show ZM (Zl (callsOf t) w.train) 0 w.station+((a-ZM (Zl (callsOf t) w.train) 0 w.station).toNat:Int)=a by omega];exact G);rw[show ZM (Zl (callsOf t) w.train) 0 w.station+((a-ZM (Zl (callsOf t) w.train) 0 w.station).toNat:Int)=a by omega]at hm;have g6:¬(callAt (callsOf t) w.train (ZN (Zl (callsOf t) w.train) w.station)).depart<(callAt (callsOf t) w.feeder (ZA (Zl (callsOf t) w.feeder) w.station)).arrive:=g5;rw[aj]at g6;omega
 obtain⟨i,hi,S⟩:=J1 (d:=default) ae;have A:=hd i (by omega) (by omega);rw[S]at A;unfold Qm at A;split at A
 ·cases A
 split at A
 ·cases A
 rename_i g2;split at A
 ·cases A
 rename_i g3;split at A
 ·exact absurd A (by assumption)
 rename_i V;have V:=Qp (bQ V);refine⟨by omega,by omega,fun n hn=>?_⟩;obtain⟨k,hk,S⟩:=J1 (d:=0) hn;have h6:=V k (by omega) (by omega);unfold ZeB at h6;rw[S]at h6;split at h6
 ·cases h6
 rename_i h7;exact QE (by simpa using h7)
end Sp
namespace Vm
attribute [local irreducible] Dn
open Go Go.Proofs Sp
set_option maxRecDepth 100000
set_option maxHeartbeats 4000000
def vB (A:(α:Type)->α->List α->Int->α) (q:Nat) (c:List (List Sp.Call)):Zh:=.vgar 1 (fun _=>(c.length:Int)) (fun e=>[.nsub q e fun _=>((A (List Sp.Call) [] c (e ())).length:Int)])
def fB (A:(α:Type)->α->List α->Int->α) (z:Nat) (c:List (List Sp.Call)) (f:Nat->Nat->Int):Zh:=.fam z 1 (fun _=>(c.length:Int)) (fun e _=>((A (List Sp.Call) [] c (e ())).length:Int)) (fun e k=>[.int .i64 fun _=>f (e ()).toNat (k ()).toNat])
def ZkR (n:Int):AV:=.agg [.gsl 0 fun _=>n,.gsl 2 fun _=>n,.gsl 4 fun _=>n]
def Zic (A:(α:Type)->α->List α->Int->α) (c:List (List Sp.Call)) (w:W3):List Zh:=[vB A 1 c,fB A 6 c w.co,vB A 3 c,fB A 6 c w.re,vB A 5 c,fB A 6 c w.go]
theorem ZuO {g:List AV} {F v:Int} {A:Unit->Bool} {V:Unit->Int} (h:g=[.int .i64 fun _=>F]) (hv:V ()=v):putC g 0 ((Qq A (eM purify (AV.int .i64 V).cellsOf) (gI 1 (iC 0 g))).getD [])=[.int .i64 fun _=>bif A ()then v else F]:=by
 subst h;subst hv;rfl
theorem ZmE (a r:Nat):decide ((a:Int)=r)=(a==r):=by
 by_cases h:a=r
 ·subst h;simp
 rw[decide_eq_false (by omega)];exact(beq_eq_false_iff_ne.mpr h).symm
theorem ZuB (f:Nat->Nat->Int) (r i a b:Nat) (v:Int):(bif decide ((a:Int)=r)&&decide ((b:Int)=i)then v else f a b)=Jw f r i v a b:=by
 unfold Jw;rw[ZmE,ZmE]
theorem JH {g:(Unit->Int)->(Unit->Int)->List AV} {F:Nat->Nat->Int} {r i:Nat} {v:Int} {V:Unit->Int} (H:∀a b:Nat,g (fun _=>(a:Int)) (fun _=>(b:Int))=[.int .i64 fun _=>F a b]) (hv:V ()=v):
  ∀a b:Nat,(fun(G A:Unit->Int)=>putC (g G A) 0 ((Qq (fun _=>decide (G ()=(r:Int))&&decide (A ()=(i:Int))) (eM purify (AV.int .i64 V).cellsOf) (gI 1 (iC 0 (g G A)))).getD [])) (fun _=>(a:Int)) (fun _=>(b:Int))=[.int .i64 fun _=>Jw F r i v a b]:=fun a b=>by
 show putC (g (fun _=>(a:Int)) (fun _=>(b:Int))) 0 _=_;rw[ZuO (H a b) hv,<-ZuB]
theorem Zif (f:Nat->Nat->Int) (r i:Nat) (a b:Int):Jw (Jw f r i a) r i b=Jw f r i b:=by
 funext p q;unfold Jw;cases (p==r&&q==i)<;>rfl
theorem JG {n k z:Nat} {N:Unit->Int} {m:(Unit->Int)->Unit->Int} {g:(Unit->Int)->(Unit->Int)->List AV} {F A:Nat->Nat->Int} (H:∀a b:Nat,g (fun _=>(a:Int)) (fun _=>(b:Int))=[.int .i64 fun _=>F a b]) (G:F=A):
  ZG n k (.fam z 1 N m g) (.fam z 1 N m fun e k=>[.int .i64 fun _=>A (e ()).toNat (k ()).toNat]):=.fam rfl (fun _ _=>rfl) fun a _ b _=>by
 subst G;rw[H a b];rfl
def Zwi (t:Zb) (x:List Int) (w:W3) (r i:Nat):W3:=
 ⟨bif decide (0<i)then Jw w.co r i (Yv t x w r i)else w.co,Jw w.re r i (bif decide (0<i)then max (QP t r i) (Yv t x w r i)else QP t r i),w.go⟩
theorem Zxr {H:(α:Type)->α->List α->Int->α} (O:∀(α:Type) (d:α) (l:List α) (i:Int),H α d l i=l.getD i.toNat d) (t:Zb) (S:Zx t) (bp:∀w∈t.waits,w.feeder≠w.train) (x:List Int) (w:W3) (hw:BdW t w) (r i:Nat) (hs:StopIn (callsOf t) r i):
  SC (fun _=>aB) 180 [Zf t,lst 1 Zc [] (callsOf t),lst 1 Q9 0 (YX t x),ZkR (callsOf t).length,.int .i64 fun _=>(r:Int),.int .i64 fun _=>(i:Int)] (Zic H (callsOf t) w) fun v h=>h=Zic H (callsOf t) (ZaU t x w r i):=by
 have k1:=Zxp t (YX t x) r ((i:Int)-1) (by have:=S.dlen;omega) (Zoo t x);rw[Zvn]at k1;refine SC.less (Zu3 false [6] [0,1,2,3,4,5] Tryz.func180 (body:=Zj Tryz.f180) rfl (by decide+kernel) ?_);have hn:=S.nn r i hs;have aq:=ZmN S x hw hs;have A:Zwi t x w r i=⟨bif decide (0<i)then Jw w.co r i (Yv t x w r i)else w.co,Jw w.re r i (bif decide (0<i)then max (QP t r i) (Yv t x w r i)else QP t r i),w.go⟩:=rfl;have aa:0<i->Yv t x w r i=w.go r (i-1)+(callAt (callsOf t) r i).arrive-(callAt (callsOf t) r (i-1:Nat)).depart+Zdg t x r ((i:Int)-1):=fun h=>by
  unfold Yv;rw[show((i-1:Nat):Int)=(i:Int)-1 by omega]
 have ao:0<i->0<=w.go r (i-1)/\w.go r (i-1)<=1099511640000/\0<=(callAt (callsOf t) r (i-1:Nat)).depart/\(callAt (callsOf t) r (i-1:Nat)).depart<=1099511627776:=fun h=>by
  have hp:=ZhB hs h;have h1:=(hw r (i-1) hp).2.2;have h2:=S.nn r (i-1:Nat) hp
  have h3:=S.calls.row (Sp.Zl (callsOf t) r) (by
   unfold Sp.Zl;have:(r:Int).toNat<(callsOf t).length:=by have:=hs.2.1;omega
   rw[aA,aD this]
   exact bM _)
  have h4:=hs.2.2.2;unfold QP at h1;omega
 have bx:=ZdQ S x r ((i:Int)-1);have cf:=hs.2.1;have bm:=hs.2.2.2
 have bc:=S.calls.row (Sp.Zl (callsOf t) r) (by
  unfold Sp.Zl;have:(r:Int).toNat<(callsOf t).length:=by omega
  rw[aA,aD this]
  exact bM _)
 have J:=Zny x w (r:=r) (i:=i) (t:=t);have G:=Zqf x w (r:=r) (i:=i) (t:=t);have ac:QP t r i=(callAt (callsOf t) r i).depart:=rfl;generalize QP t r i=D at*;generalize Zwi t x w r i=w1 at*;generalize Yv t x w r i=C at*;generalize Zdg t x r ((i:Int)-1)=B at*;have ab:Sp.Zl (callsOf t) r=H (List Sp.Call) [] (callsOf t) r:=by rw[O];rfl
 have V:callAt (callsOf t) r i=H Sp.Call default (H (List Sp.Call) [] (callsOf t) r) i:=by unfold callAt;rw[ab,O Sp.Call]
 have Z:0<i->callAt (callsOf t) r (i-1:Nat)=H Sp.Call default (H (List Sp.Call) [] (callsOf t) r) ((i:Int)-1):=fun h=>by unfold callAt;rw[ab,O Sp.Call,show((i-1:Nat):Int)=(i:Int)-1 by omega]
 rw[ab]at bm bc J G;unfold Zf ZkR Zic vB fB;unfold Zf at k1;simp only[Za O]at k1;rw[Zbg O];simp only[Za O];have bw:=S.calls.len;have bz:=S.dlen;have ca:=S.wlen;generalize ci:ZaU t x w r i=wE at*;generalize Y:callsOf t=c at*;rw[V]at hn aa ac;refine vS ?_;refine Chk.mk (ZE) ?_;refine ZnS false false [] 50 [1,4,5,6,9,12] (fun _=>[]) (fun w1:W3=>[(1,fB H 6 c w1.co),(3,fB H 6 c w1.re)]) (fun X=>X=w1) (fun _ _ h=>h) (by decide) ?_ ?_
 ·refine wS ?_;refine⟨fun h0=>?_,fun h0=>?_⟩
  ·have h0:=of_decide_eq_true h0;have ao:=ao (by omega);have aa:=aa (by omega);have Z:=Z (by omega);rw[Z]at ao aa;have e1:((i:Int)-1).toNat=i-1:=by omega
   refine vS ?_;simp only[aV,e1];refine Chk.mk (ZE) ?_;refine ZL (k1) (by first|rfl|(simp only[Ze,Zd,Zf,Zc,Qa,Za O];rfl)) fun r aw hp=>?_;(try simp only[Ze,Zd,Zf,Zc,Qa,Za O]at hp);obtain⟨rfl,rfl⟩:=hp;refine vS ?_;simp only[aV,e1];refine Chk.mk (ZE) ?_;have U:decide (0<i)=true:=decide_eq_true (by omega);rw[U]at A;have hV:w.go r (i-1)+(H Sp.Call default (H (List Sp.Call) [] c r) i).arrive-(H Sp.Call default (H (List Sp.Call) [] c r) ((i:Int)-1)).depart+B=C:=by rw[aa]
   refine vS ?_;refine⟨w1,rfl,?_⟩;refine ZoM ?_ ?_
   ·refine JG (F:=Jw w.co r i C) (fun a b=>?_) (by rw[A];rfl);exact JH (g:=fun e k=>[.int .i64 fun _=>w.co (e ()).toNat (k ()).toNat]) (F:=w.co) (fun _ _=>rfl) hV a b
   refine JG (F:=Jw (Jw w.re r i D) r i (max D C)) (fun a b=>?_) (by rw[A,Zif];rfl);refine JH (g:=fun(e' k':Unit->Int)=>putC ((fun(e k:Unit->Int)=>[AV.int .i64 fun _=>w.re (e ()).toNat (k ()).toNat]) e' k') 0 ((Qq (fun _=>decide (e' ()=(r:Int))&&decide (k' ()=(i:Int))) (eM purify (AV.int .i64 fun _=>(H Sp.Call default (H (List Sp.Call) [] c r) i).depart).cellsOf) (gI 1 (iC 0 ((fun(e k:Unit->Int)=>[AV.int .i64 fun _=>w.re (e ()).toNat (k ()).toNat]) e' k')))).getD [])) (F:=Jw w.re r i D) (JH (g:=fun e k=>[.int .i64 fun _=>w.re (e ()).toNat (k ()).toNat]) (F:=w.re) (fun _ _=>rfl) ac.symm) ?_ a b;show(if _<(bif (decide True&&decide True)then _ else _)then(bif (decide True&&decide True)then _ else _)else _)=_;rw[decide_eq_true trivial,Bool.and_self,cond_true,hV,<-ac];split<;>omega
  have h0:=of_decide_eq_false h0;have U:decide (0<i)=false:=decide_eq_false (by omega);rw[U]at A;refine wS ?_;refine⟨w1,rfl,?_⟩;refine ZoM ?_ ?_
  ·exact JG (fun a b=>rfl) (by rw[A];rfl)
  refine JG (F:=Jw w.re r i D) (fun a b=>?_) (by rw[A];rfl);exact JH (g:=fun e k=>[.int .i64 fun _=>w.re (e ()).toNat (k ()).toNat]) (F:=w.re) (fun _ _=>rfl) ac.symm a b
 intro X hX;subst hX;refine wS ?_;refine⟨fun h3=>?_,fun h3=>?_⟩
 ·have h3:=eq_of_beq h3;have h0:0<i:=by omega
  have U:decide (0<i)=true:=decide_eq_true h0;rw[U]at A;have aq:=aq h0;have J:=J (by omega) h0;have ap:X.co r i=C:=by rw[A];exact Za8 _ _ _ _
  refine vS ?_;refine Chk.mk (ZE) ?_;refine vS ?_;refine⟨.tup [],_,?_,rfl⟩;(refine To.of [] ?_;cbv;(try simp only[nc]);(repeat' (first|exact trivial|exact Zy.refl _|exact ZG.refl _|refine⟨?_,?_⟩|refine ZG.cells ?_|refine Zy.agg ?_|refine Zy.tup ?_));(all_goals (first|exact XQ|skip)))
  ·exact JG (F:=X.co) (fun _ _=>rfl) (by rw[J,A];rfl)
  ·refine JG (F:=Jw X.re r i C) (fun a b=>?_) (by rw[J,A];exact Zif _ _ _ _ _);exact JH (g:=fun e k=>[.int .i64 fun _=>X.re (e ()).toNat (k ()).toNat]) (F:=X.re) (fun _ _=>rfl) ap a b
  refine JG (F:=Jw w.go r i C) (fun a b=>?_) (by rw[J]);exact JH (g:=fun e k=>[.int .i64 fun _=>w.go (e ()).toNat (k ()).toNat]) (F:=w.go) (fun _ _=>rfl) ap a b
 have h3:=ne_of_beq_false h3;have G:=G h3 (by omega);generalize ah:(bif decide (0<i)then max D C else D)=rd at*;have ba:X.re r i=rd:=by rw[A];exact Za8 _ _ _ _
 refine vS ?_;simp only[aV,ba];refine Chk.mk (ZE) ?_;refine vS ?_;refine Zgs false [6] [1,4,5,6,9,12,13] [] (fun(⟨k,g⟩:Nat×Int)=>[(13,.int .i64 fun _=>(k:Int))]) (fun⟨k,g⟩=>[(5,fB H 6 c (Jw w.go r i g))])
  (fun⟨k,g⟩=>k<=t.waits.length/\g=(t.waits.take k).foldl (JF c (fun f a=>w.co f.toNat a.toNat) r (callAt c r i)) rd) (fun k=>t.waits.length-k.1+0) (0,rd) ⟨aW _,rfl⟩ ?_ ?_
 ·refine toR ?_;refine JG (F:=Jw w.go r i rd) (fun a b=>?_) rfl;exact JH (g:=fun e k=>[.int .i64 fun _=>w.go (e ()).toNat (k ()).toNat]) (F:=w.go) (fun _ _=>rfl) rfl a b
 rintro⟨k,g⟩ ⟨hk,hg⟩;refine wS ?_;refine⟨fun hb=>?_,fun hb=>?_⟩
 ·have hb:=of_decide_eq_true hb;have ak:=Qu (d:=default) O (l:=t.waits) (i:=k) (by omega);have aj:=XW (d:=default) O (l:=t.waits) (i:=k) (by omega);refine vS ?_;generalize hv:H QV default t.waits (k:Int)=v at*;have ai:=S.w v ak;have bq:=bp v ak;have ae:=YF S ak;have I:∀g,JF c (fun f a=>w.co f.toNat a.toNat) r (callAt c r i) g v=if v.train≠r\/v.station≠(callAt c r i).station then g
   else if w.co v.feeder.toNat (ZA (Sp.Zl c v.feeder) v.station).toNat<=(callAt c r i).depart+v.minutes then max g (w.co v.feeder.toNat (ZA (Sp.Zl c v.feeder) v.station).toNat)else g:=fun _=>rfl
  rw[Y]at ai ae;try simp only[hv]
  refine Chk.mk (ZE) ?_;refine vS ?_;rw[V]at I;refine⟨fun h6=>?_,fun h6=>?_⟩
  ·have hq:v.train≠r\/v.station≠(H Sp.Call default (H (List Sp.Call) [] c r) i).station:=by
    by_cases e1:v.train=r
    ·rw[bne_eq_false_iff_eq.mpr e1]at h6;exact .inr (bne_iff_ne.mp h6)
    exact .inl e1
   refine wS ?_;refine⟨(k+1,g),⟨by omega,by rw[aj,eQ,<-hg,V];exact((I g).trans (if_pos hq)).symm⟩,by show t.waits.length-(k+1)+0<t.waits.length-k+0;omega,?_⟩;exact ZF
  have au:v.train=r:=by
   by_cases e1:v.train=r
   ·exact e1
   rw[bne_iff_ne.mpr e1]at h6;cases h6
  have bg:v.station=(H Sp.Call default (H (List Sp.Call) [] c r) i).station:=by
   rw[bne_eq_false_iff_eq.mpr au]at h6;exact bne_eq_false_iff_eq.mp h6
  have bl:Sp.Zl c v.feeder=H (List Sp.Call) [] c v.feeder:=by rw[O];rfl
  have bh:H (List Sp.Call) [] c v.feeder∈c:=by
   have:v.feeder.toNat<c.length:=by omega
   rw[O,aA,aD this];exact bM _
  have cg:=S.calls.row (H (List Sp.Call) [] c v.feeder) (by rw[Y];exact bh);rw[bl]at ai ae I;have I:=fun g=>(I g).trans (if_neg (fun h=>h.elim (fun h=>h au) (fun h=>h bg)));refine vS ?_;generalize hF:H (List Sp.Call) [] c v.feeder=F at*;have k2:=Zu7 F v.station 1 (F.length-1) (by omega) (by omega) (by omega) (by omega) (by omega);rw[Zds]at k2;have a9:=YA F 1 v.station;have ce:=ai.2.2.1;have bk:X.co v.feeder.toNat (ZA F v.station).toNat=w.co v.feeder.toNat (ZA F v.station).toNat:=by
   have bo:¬(v.feeder.toNat=r/\(ZA F v.station).toNat=i):=fun h=>bq (by omega);rw[A];show(bif decide (0<i)then Jw w.co r i C else w.co) _ _=_;cases decide (0<i)
   ·rfl
   exact Zd5 bo
  have b9:=(hw v.feeder.toNat (ZA F v.station).toNat (by
   rw[Y,show((v.feeder.toNat:Nat):Int)=v.feeder by omega,show(((ZA F v.station).toNat:Nat):Int)=ZA F v.station by omega]
   exact ae)).1
  have bu:ZA F v.station<F.length:=by unfold ZA;exact a9.1
  have cj:QP t v.feeder.toNat (ZA F v.station).toNat<=1099511627776:=by
   unfold QP;rw[Y,show((v.feeder.toNat:Nat):Int)=v.feeder by omega,show(((ZA F v.station).toNat:Nat):Int)=ZA F v.station by omega];have h:=(S.nn _ _ (by rw[Y];exact ae)).2.2;rw[Y]at h;exact h
  simp only[Za O]at k2;try simp only[hF,hv]
  refine Chk.mk (ZE) ?_;refine ZL (k2) (by first|rfl|(simp only[Ze,Zd,Zf,Zc,Qa,Za O];rfl)) fun r aw hp=>?_;(try simp only[Ze,Zd,Zf,Zc,Qa,Za O]at hp);obtain⟨rfl,rfl⟩:=hp;generalize ZA F v.station=m at*;refine vS ?_;try simp only[hF,hv,bk]
  refine Chk.mk (ZE) ?_;refine vS ?_;refine⟨fun h7=>?_,fun h7=>?_⟩
  ·have I:=fun g=>(I g).trans (if_pos (of_decide_eq_true h7));have am:Jw w.go r i g r i=g:=Za8 _ _ _ _;generalize w.co v.feeder.toNat m.toNat=cm at*;refine vS ?_;simp only[aV,am];refine Chk.mk (ZE) ?_;refine vS ?_;have ar:=I g;generalize bt:max g cm=g2 at ar;refine⟨(k+1,g2),⟨by omega,by rw[aj,eQ,<-hg,V];exact ar.symm⟩,by show t.waits.length-(k+1)+0<t.waits.length-k+0;omega,?_⟩;refine toR ?_;refine JG (F:=Jw (Jw w.go r i g) r i g2) (fun a b=>?_) (Zif _ _ _ _ _);refine JH (g:=fun e k=>[.int .i64 fun _=>Jw w.go r i g (e ()).toNat (k ()).toNat]) (F:=Jw w.go r i g) (fun _ _=>rfl) ?_ a b;show(if g<cm then cm else g)=g2;rw[<-bt];split<;>omega
  have I:=fun g=>(I g).trans (if_neg (of_decide_eq_false h7));refine wS ?_;refine⟨(k+1,g),⟨by omega,by rw[aj,eQ,<-hg,V];exact(I g).symm⟩,by show t.waits.length-(k+1)+0<t.waits.length-k+0;omega,?_⟩;exact ZF
 have hb:=of_decide_eq_false hb;have az:t.waits.take k=t.waits:=List.take_of_length_le (by omega);rw[az]at hg;refine wS ?_;have al:g=goW t w r i rd:=by unfold goW;rw[Y];exact hg
 refine⟨fun h5=>?_,fun h5=>?_⟩
 ·have h5:=eq_of_beq h5;have U:decide (0<i)=false:=decide_eq_false (by omega);rw[U]at A G ah;have ah:D=rd:=ah;have am:Jw w.go r i g r i=g:=Za8 _ _ _ _;refine wS ?_;refine⟨.tup [],_,?_,rfl⟩;(refine To.of [] ?_;cbv;(try simp only[nc]);(repeat' (first|exact trivial|exact Zy.refl _|exact ZG.refl _|refine⟨?_,?_⟩|refine ZG.cells ?_|refine Zy.agg ?_|refine Zy.tup ?_));(all_goals (first|exact XQ|skip)))
  ·refine JG (F:=Jw X.co r i g) (fun a b=>?_) (by rw[G,A,al,<-ah];rfl);exact JH (g:=fun e k=>[.int .i64 fun _=>X.co (e ()).toNat (k ()).toNat]) (F:=X.co) (fun _ _=>rfl) am a b
  ·exact JG (F:=X.re) (fun _ _=>rfl) (by rw[G,A])
  exact JG (F:=Jw w.go r i g) (fun _ _=>rfl) (by rw[G,al])
 have h5:=ne_of_beq_false h5;have U:decide (0<i)=true:=decide_eq_true (by omega);rw[U]at A G;refine wS ?_;refine⟨.tup [],_,?_,rfl⟩;(refine To.of [] ?_;cbv;(try simp only[nc]);(repeat' (first|exact trivial|exact Zy.refl _|exact ZG.refl _|refine⟨?_,?_⟩|refine ZG.cells ?_|refine Zy.agg ?_|refine Zy.tup ?_));(all_goals (first|exact XQ|skip)))
 ·exact JG (F:=X.co) (fun _ _=>rfl) (by rw[G,A];rfl)
 ·exact JG (F:=X.re) (fun _ _=>rfl) (by rw[G,A])
 exact JG (F:=Jw w.go r i g) (fun _ _=>rfl) (by rw[G,al])
set_option maxHeartbeats 8000000
set_option cbv.maxSteps 3000000
def Znl:AV:=.isl 0 (fun _=>0) (fun _=>[]) .nil
theorem Zwg {s:List AV} {b0 b1:Zh}:To s [b0,b1,.cells [Znl,Znl,Znl]] s ([b0,b1,.cells [.gsl 3 fun _=>0,.gsl 5 fun _=>0,.gsl 7 fun _=>0]]++Zb2 9 1 1++Zb2 9 1 1++Zb2 9 1 1):=by
 refine(To.nest 1 1 (h₂:=[b0,b1,.cells [.gsl 3 fun _=>0,Znl,Znl]]++Zb2 9 1 1) ⟨Yn.refl _,?_⟩).trans ((To.nest 1 1 (h₂:=[b0,b1,.cells [.gsl 3 fun _=>0,.gsl 5 fun _=>0,Znl]]++Zb2 9 1 1++Zb2 9 1 1) ⟨Yn.refl _,?_⟩).trans (To.nest 1 1 ⟨Yn.refl _,?_⟩))
 ·exact⟨.refl _,.refl _,.cells ⟨.nilGar (show 3<=3 by decide) (show 3<4 by decide) rfl,.refl _,.refl _,trivial⟩,.refl _,.famZ (show 3<=9 by decide),trivial⟩
 ·exact⟨.refl _,.refl _,.cells ⟨.refl _,.nilGar (show 5<=5 by decide) (show 5<6 by decide) rfl,.refl _,trivial⟩,.refl _,.refl _,.refl _,.famZ (show 5<=9 by decide),trivial⟩
 exact⟨.refl _,.refl _,.cells ⟨.refl _,.refl _,.nilGar (show 7<=7 by decide) (show 7<8 by decide) rfl,trivial⟩,.refl _,.refl _,.refl _,.refl _,.refl _,.famZ (show 7<=9 by decide),trivial⟩
theorem Zk4 {n k q id:Nat} {G:(α:Type)->α->List α->Int->α} (O:∀(α:Type) (d:α) (l:List α) (i:Int),G α d l i=l.getD i.toNat d) {l:List (List Sp.Call)} {C:List Sp.Call} {T:AV->AV} (hT:∀(x:List Sp.Call) (e:Unit->Int),[AV.nsub q e fun _=>(x.length:Int)].map T=[AV.nsub q e fun _=>(x.length:Int)])
  (A:Yn n k ([AV.nsub q (fun _=>(l.length:Int)) fun _=>(C.length:Int)].map T) [AV.nsub q (fun _=>(l.length:Int)) fun _=>(C.length:Int)]):
  ZG n k (.vgar 1 (fun _=>(l.length:Int)+1) fun e=>(ZV (fun _=>(l.length:Int)) (fun e=>[AV.nsub q e fun _=>((G (List Sp.Call) [] l (e ())).length:Int)]) (fun _=>[AV.gsl id fun _=>(C.length:Int)].set 0 (AV.nsub q (fun _=>(l.length:Int)) fun _=>(C.length:Int))) e).map T)
   (.vgar 1 (fun _=>((l++[C]).length:Int)) fun e=>[AV.nsub q e fun _=>((G (List Sp.Call) [] (l++[C]) (e ())).length:Int)]):=
 ZG.snocVT (encV:=fun(x:List Sp.Call) e=>[AV.nsub q e fun _=>(x.length:Int)]) (d:=[]) (x:=C) O hT rfl rfl A
theorem Zk5 {n k z:Nat} {A:(α:Type)->α->List α->Int->α} (O:∀(α:Type) (d:α) (l:List α) (i:Int),A α d l i=l.getD i.toNat d) {l:List (List Sp.Call)} {C:List Sp.Call}:
  ZG n k (.fam z 1 (fun _=>(l.length:Int)+1) (Zby (fun _=>(l.length:Int)) (fun e _=>((A (List Sp.Call) [] l (e ())).length:Int)) fun _=>(C.length:Int)) (Y1 (fun _=>(l.length:Int)) (fun _ _=>[AV.int .i64 fun _=>0]) fun _=>eM purify (Xy (Value.int .i64 0)).cellsOf))
   (.fam z 1 (fun _=>((l++[C]).length:Int)) (fun e _=>((A (List Sp.Call) [] (l++[C]) (e ())).length:Int)) fun _ _=>[AV.int .i64 fun _=>0]):=
 ZG.snocM (inner:=fun x:List Sp.Call=>x) (enc:=fun _:Sp.Call=>[AV.int .i64 fun _=>0]) (dβ:=default) (d:=[]) (l:=l) (x:=C) O rfl rfl rfl fun _ _=>rfl
theorem Zgf {q:Nat} {H:(α:Type)->α->List α->Int->α} {l:List (List Sp.Call)} {n:Int}:∀i:Nat,(i:Int)<n->∀c∈ [AV.nsub q (fun _=>(i:Int)) fun _=>((H (List Sp.Call) [] l (i:Int)).length:Int)],∀e m:Unit->Int,c=AV.nsub q e m->m ()=((H (List Sp.Call) [] l (e ())).length:Int):=fun i _ c G e m A=>by
 subst A;simp only[aN,AV.nsub.injEq,true_and]at G;obtain⟨rfl,rfl⟩:=G;rfl
theorem ZiR {n k:Nat} {A:(α:Type)->α->List α->Int->α} (O:∀(α:Type) (d:α) (l:List α) (i:Int),A α d l i=l.getD i.toNat d) {t:Zb} {F f:Nat->Nat->Int} (S:∀r i:Nat,StopIn (callsOf t) r i->F r i=f r i) {tk:Tk}:
  Zy n k (.isl 1 (fun _=>((callsOf t).length:Int)) (fun e=>[.isl 1 (fun _=>((A (List Sp.Call) [] (callsOf t) (e ())).length:Int)) (fun q=>[.int .i64 fun _=>F (e ()).toNat (q ()).toNat]) .none]) tk) (lst 1 Qa [] (Js t f)):=by
 refine .elems (by rw[Zj4]) fun i H=>.one fun w ok v h=>?_;have H:(i:Int)<((callsOf t).length:Int):=H;have e:(Js t f).getD i []=(aR (J4 t i)).map fun j=>f i j:=ZgH t f (by omega);have I:(A (List Sp.Call) [] (callsOf t) (i:Int))=Sp.Zl (callsOf t) i:=by rw[O];rfl
 refine h.elems ?_ fun j G=>?_
 ·show((A (List Sp.Call) [] (callsOf t) (i:Int)).length:Int)=(((Js t f).getD (fv i) []).length:Int);rw[aV,e,I,bA,cO];rfl
 have G:(j:Int)<((A (List Sp.Call) [] (callsOf t) (i:Int)).length:Int):=G;rw[I]at G;have J:StopIn (callsOf t) (i:Int) (j:Int):=⟨by omega,H,by omega,G⟩;show XG [.int .i64 fun _=>F (fv i) (fv j)] [.int .i64 fun _=>((Js t f).getD (fv i) []).getD (fv j) 0];rw[aV,aV,S i j J,ZfA t f (by omega) (by unfold J4;omega)];exact .refl _
theorem cL2 (l:List Nat) {f:FuncId} {xs J:List AV} {h I:List Zh} {A Q:AV->List Zh->Prop} (H:SC (fun _=>aB) f J I Q) (S:∀ r G,Q r G->A (ren (Y7 l h.length) 5 r) (back l h G)) (V:l.Nodup:=by decide) (U:∀ i∈l,i<h.length:=by simp) (Y:xs.map (Qs false l h 5)=J:=by first|rfl|(simp only[Ze,Zd,Zf,Zc,Qa,Za O];rfl)) (Z:sel false l h=I:=by first|rfl|(simp only[Ze,Zd,Zf,Zc,Qa,Za O];rfl)):SC (fun _=>aB) f xs h A:=ZS l H V U Y Z S
theorem Zxx (t:Zb) (H:Xe t.book) (hf:Zx t) (ak:∀w∈t.waits,w.feeder≠w.train) (hr:t.runs.length<=1000000) (x:List Int):
  SC (fun _=>aB) 138 [Zf t,lst 1 Q9 0 (YX t x)] [] fun v h=>v= .agg (Xl (ZfJ t x))/\h=[]:=by
 obtain⟨A,O⟩:=Zo;obtain⟨wx,ae⟩:∃wx,wx=ZfJ t x:=⟨_,rfl⟩;rw[<-ae];have k1:=ZwH t H hr;refine SC.less (Zu3 false [19] [] Tryz.func138 (body:=Zj Tryz.f138) rfl (by decide+kernel) ?_);unfold Zf at*;rw[Zbg O]at k1;simp only[Za O]at k1|-;have J:=hf.calls;generalize S:callsOf t=c at*;refine wS ?_;refine ZL (k1) (by first|rfl|(simp only[Ze,Zd,Zf,Zc,Qa,Za O];rfl)) fun r ah hp=>?_;(try simp only[Ze,Zd,Zf,Zc,Qa,Za O]at hp);obtain⟨rfl,rfl⟩:=hp;refine wS ?_;refine ZuV false [] Zwg ?_;refine Zgs false [] [1,2,4,5,6,7,8] [] (fun(⟨k,l,n⟩:Nat×List (List Sp.Call)×Int)=>[(7,.int .i64 fun _=>n),(8,.int .i64 fun _=>(k:Int))])
  (fun⟨k,l,n⟩=>[(2,.cells [.gsl 3 fun _=>(l.length:Int),.gsl 5 fun _=>(l.length:Int),.gsl 7 fun _=>(l.length:Int)]),
   (3,.vgar 1 (fun _=>(l.length:Int)) (fun e=>[.nsub 4 e fun _=>((A (List Sp.Call) [] l (e ())).length:Int)])),(4,.fam 9 1 (fun _=>(l.length:Int)) (fun e _=>((A (List Sp.Call) [] l (e ())).length:Int)) (fun _ _=>[.int .i64 fun _=>0])),
   (5,.vgar 1 (fun _=>(l.length:Int)) (fun e=>[.nsub 6 e fun _=>((A (List Sp.Call) [] l (e ())).length:Int)])),(6,.fam 9 1 (fun _=>(l.length:Int)) (fun e _=>((A (List Sp.Call) [] l (e ())).length:Int)) (fun _ _=>[.int .i64 fun _=>0])),
   (7,.vgar 1 (fun _=>(l.length:Int)) (fun e=>[.nsub 8 e fun _=>((A (List Sp.Call) [] l (e ())).length:Int)])),(8,.fam 9 1 (fun _=>(l.length:Int)) (fun e _=>((A (List Sp.Call) [] l (e ())).length:Int)) (fun _ _=>[.int .i64 fun _=>0]))])
  (fun⟨k,l,n⟩=>k<=c.length/\l=c.take k/\0<=n/\n<=4*k/\n=((l.map fM).sum:Nat)) (fun k=>c.length-k.1+0) (0,[],0) ⟨aW _,rfl,by decide,by decide,rfl⟩ ?_ ?_
 ·(refine To.of [] ?_;cbv;(try simp only[nc]);(repeat' (first|exact trivial|exact Zy.refl _|exact ZG.refl _|refine⟨?_,?_⟩|refine ZG.cells ?_|refine Zy.agg ?_|refine Zy.tup ?_));(all_goals (first|exact XQ|skip)))
  ·exact .vgar0 rfl rfl
  ·exact .fam0 rfl rfl
  ·exact .vgar0 rfl rfl
  ·exact .fam0 rfl rfl
  ·exact .vgar0 rfl rfl
  exact .fam0 rfl rfl
 intro ⟨k,l,n⟩ G;have bh:=J.len;have hk:=G.1;have az:=G.2.2.1;have bc:=G.2.2.2.1;have aa:=G.2.2.2.2;have aj:l.length=k:=by rw[G.2.1,List.length_take];omega
 refine vS ?_;refine⟨fun H=>?_,fun H=>?_⟩
 ·have H:=of_decide_eq_true H;have ar:=J.row (A (List Sp.Call) [] c k) (Qu (d:=[]) O (l:=c) (i:=k) (by omega));have ao:=XW (d:=[]) O (l:=c) (i:=k) (by omega);refine vS ?_;refine Chk.mk (ZE) ?_;generalize A (List Sp.Call) [] c k=C at*;have I:(k+1<=c.length/\l++[C]=c.take (k+1)/\0<=n+C.length/\n+C.length<=4*((k+1:Nat):Int)/\n+C.length=(((l++[C]).map fM).sum:Nat))/\c.length-(k+1)+0<c.length-k+0:=⟨⟨by omega,by rw[G.2.1,ao],by omega,by omega,by rw[aa,dD,List.sum_append];simp⟩,by omega⟩;clear G aa;(repeat' (first|refine Zjh.mk ?_ ?_|refine Chk.mk (ZE) ?_));all_goals (try refine vS ?_)
  all_goals (try refine Chk.mk (ZE) ?_)
  all_goals refine⟨(k+1,l++[C],n+C.length),I.1,I.2,?_⟩
  all_goals
   (refine To.of [] ?_;cbv;(try simp only[nc]);(repeat' (first|exact trivial|exact Zy.refl _|exact ZG.refl _|refine⟨?_,?_⟩|refine ZG.cells ?_|refine Zy.agg ?_|refine Zy.tup ?_));(all_goals (first|exact XQ|skip)))
   ·exact Zk4 O (fun _ _=>rfl) ⟨.nsub rfl rfl,trivial⟩
   ·exact Zk5 O
   ·exact Zk4 O (fun _ _=>rfl) ⟨.nsub rfl rfl,trivial⟩
   ·exact Zk5 O
   ·exact Zk4 O (fun _ _=>rfl) ⟨.nsub rfl rfl,trivial⟩
   exact Zk5 O
 have H:=of_decide_eq_false H;have am:k=c.length:=by omega
 have ab:l=c:=by rw[G.2.1,am,eW]
 have au:n=((Xb t).length:Nat):=by
  rw[Zhu,S,aa,ab]
 clear G aa aj;subst ab;refine vS ?_;have hN:∀a b:Nat,a<l.length->b<(A (List Sp.Call) [] l a).length->StopIn (callsOf t) a b:=fun a b h1 h2=>by
  have ap:Sp.Zl l a=A (List Sp.Call) [] l a:=by rw[O];rfl
  rw[S];exact⟨by omega,by omega,by omega,by rw[ap];omega⟩
 refine ZnS false false [] 50 [4,6] (fun _:Unit=>[]) (fun _=>[(2,.cells [lst 1 Qa [] wx.come,lst 1 Qa [] wx.ready,lst 1 Qa [] wx.go]),(3,.dead),(4,.dead),(5,.dead),(6,.dead),(7,.dead),(8,.dead)]) (fun _=>True) (fun _ _ h=>h) (by decide) ?_ (fun _ _=>?_);rotate_left
 ·unfold Xl;refine wS ?_;refine⟨_,[],?_,rfl,rfl⟩;exact ZF
 refine wS ?_;refine Zgs false [] [1,2,4,5,6,7,9] [] (fun(⟨k,w⟩:Nat×W3)=>[(9,.int .i64 fun _=>(k:Int))])
  (fun⟨k,w⟩=>[(4,fB A 9 l w.co),(6,fB A 9 l w.re),(8,fB A 9 l w.go)])
  (fun⟨k,w⟩=>k<=(Xb t).length+1/\w=Sp.Zd8 t x W0 k/\BdW t w) (fun k=>(Xb t).length+1-k.1+0) (0,W0) ⟨aW _,rfl,Zrn hf⟩ ?_ ?_
 ·(refine To.of [] ?_;cbv;(try simp only[nc]);(repeat' (first|exact trivial|exact Zy.refl _|exact ZG.refl _|refine⟨?_,?_⟩|refine ZG.cells ?_|refine Zy.agg ?_|refine Zy.tup ?_));(all_goals (first|exact XQ|skip)))
  all_goals exact JG (F:=fun _ _=>0) (fun _ _=>rfl) rfl
 intro ⟨j,w⟩ hj;have ba:=hj.1;have aw:=ZpJ hf;refine vS ?_;refine⟨fun H=>?_,fun H=>?_⟩
 ·have H:=of_decide_eq_true H;refine vS ?_;refine XX fun Q hQ=>?_;refine Zgs false [] [1,2,4,5,6,7,9,10] [] (fun(⟨a,w⟩:Nat×W3)=>[(10,.int .i64 fun _=>(a:Int))])
   (fun⟨a,w⟩=>[(4,fB A 9 l w.co),(6,fB A 9 l w.re),(8,fB A 9 l w.go)])
   (fun⟨a,v⟩=>a<=l.length/\v=Sp.Zf9 t x w a/\BdW t v) (fun a=>l.length-a.1+0) (0,w) ⟨aW _,rfl,hj.2.2⟩ ?_ ?_
  ·exact ZF
  intro ⟨a,v⟩ ha;have bl:=ha.1;refine vS ?_;refine⟨fun H=>?_,fun H=>?_⟩
  ·have H:=of_decide_eq_true H;refine vS ?_;refine XX fun Q2 al=>?_;refine Zgs false [] [1,2,4,5,6,7,9,10,11] [] (fun(⟨b,w⟩:Nat×W3)=>[(11,.int .i64 fun _=>(b:Int))])
    (fun⟨b,w⟩=>[(4,fB A 9 l w.co),(6,fB A 9 l w.re),(8,fB A 9 l w.go)])
    (fun⟨b,u⟩=>b<=(A (List Sp.Call) [] l a).length/\u=Sp.Zng t x v a b/\BdW t u) (fun b=>(A (List Sp.Call) [] l a).length-b.1+0) (0,v) ⟨aW _,rfl,ha.2.2⟩ ?_ ?_
   ·exact ZF
   intro ⟨b,u⟩ U;have bk:=U.1;have a9:=J.row (A (List Sp.Call) [] l a) (Qu (d:=[]) O (l:=l) (i:=a) (by omega));refine vS ?_;refine Chk.mk (ZE) ?_;refine⟨fun V=>?_,fun V=>?_⟩
   ·have V:=of_decide_eq_true V;have ac:=hN a b (by omega) (by omega);have k2:=Zxr O t hf ak x u U.2.2 a b ac;have aq:=ZsF hf x U.2.2 ac;have I:Sp.Zng t x v a (b+1)=ZaU t x u a b:=by rw[U.2.1];rfl
    generalize ZaU t x u a b=u2 at*;rw[S]at k2;unfold Zf ZkR Zic vB fB at k2;rw[Zbg O]at k2;simp only[Za O]at k2;refine vS ?_;refine cL2 [3,4,5,6,7,8] (k2) fun r ah hp=>?_;(try simp only[Ze,Zd,Zf,Zc,Qa,Za O]at hp);obtain rfl:=hp;refine vS ?_;refine Chk.mk (ZE) ?_;refine⟨(b+1,u2),⟨by omega,I.symm,aq⟩,by show(A (List Sp.Call) [] l a).length-(b+1)+0<(A (List Sp.Call) [] l a).length-b+0;omega,?_⟩;exact ZF
   have V:=of_decide_eq_false V;refine vS ?_;refine al _ _ _ ?_;refine vS ?_;refine Chk.mk (ZE) ?_;have ai:J4 t a=(A (List Sp.Call) [] l a).length:=by unfold J4;rw[S,O];rfl
   have I:u=Sp.Zf9 t x w (a+1):=by
    show u=Sp.Zng t x (Sp.Zf9 t x w a) a (J4 t a);rw[U.2.1,ha.2.1,ai,show b=(A (List Sp.Call) [] l a).length by omega]
   refine⟨(a+1,u),⟨by omega,I,U.2.2⟩,by show l.length-(a+1)+0<l.length-a+0;omega,?_⟩;(refine To.of [] ?_;cbv;(try simp only[nc]);(repeat' (first|exact trivial|exact Zy.refl _|exact ZG.refl _|refine⟨?_,?_⟩|refine ZG.cells ?_|refine Zy.agg ?_|refine Zy.tup ?_));(all_goals (first|exact XQ|skip)));all_goals exact ZG.vgarT rfl fun _=>rfl
  have H:=of_decide_eq_false H;have I:v=Sp.Zd8 t x W0 (j+1):=by
   show v=Sp.Zf9 t x (Sp.Zd8 t x W0 j) (callsOf t).length;rw[ha.2.1,hj.2.1,S,show a=l.length by omega]
  refine vS ?_;refine hQ _ _ _ ?_;refine vS ?_;refine Chk.mk (ZE) ?_;refine⟨(j+1,v),⟨by omega,I,ha.2.2⟩,by show(Xb t).length+1-(j+1)+0<(Xb t).length+1-j+0;omega,?_⟩;(refine To.of [] ?_;cbv;(try simp only[nc]);(repeat' (first|exact trivial|exact Zy.refl _|exact ZG.refl _|refine⟨?_,?_⟩|refine ZG.cells ?_|refine Zy.agg ?_|refine Zy.tup ?_));(all_goals (first|exact XQ|skip)));all_goals exact ZG.vgarT rfl fun _=>rfl
 have H:=of_decide_eq_false H;have bg:j=(Xb t).length+1:=by omega
 have Z:=fun r i (Y:StopIn (callsOf t) (r:Nat) (i:Nat))=>Zio hf x W0 (k:=j) (by omega) Y;rw[<-hj.2.1]at Z;refine vS ?_;refine⟨(),trivial,?_⟩;refine(To.frozeV (q:=3) rfl rfl Zgf (fun i hi=>rfl) rfl).trans ((To.frozeV (q:=5) rfl rfl Zgf (fun i hi=>rfl) rfl).trans ((To.frozeV (q:=7) rfl rfl Zgf (fun i hi=>rfl) rfl).trans ?_));subst S;(refine To.of [] ?_;cbv;(try simp only[nc]);(repeat' (first|exact trivial|exact Zy.refl _|exact ZG.refl _|refine⟨?_,?_⟩|refine ZG.cells ?_|refine Zy.agg ?_|refine Zy.tup ?_));(all_goals (first|exact XQ|skip)));all_goals (try exact ZG.dead)
 all_goals subst ae
 ·exact .gd rfl (ZiR O (F:=w.co) fun r i Y=>(Z r i Y).1)
 ·exact .gd rfl (ZiR O (F:=w.re) fun r i Y=>(Z r i Y).2.1)
 exact .gd rfl (ZiR O (F:=w.go) fun r i Y=>(Z r i Y).2.2)
end Vm
end Go.Proofs.YtjgpiclllehgmaaGreat
