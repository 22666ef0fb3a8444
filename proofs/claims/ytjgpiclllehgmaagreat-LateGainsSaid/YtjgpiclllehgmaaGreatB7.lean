/- Lemmas. -/
import Derived.Test.YtjgpiclllehgmaaGreatB6
import Derived.Test.YtjgpiclllehgmaaGreatB2
import Derived.Test.YtjgpiclllehgmaaGreatB5
import Derived.Test.YtjgpiclllehgmaaGreatB4
import Derived.Test.YtjgpiclllehgmaaGreatB0
set_option linter.all false
open Bool renaming and_eq_true->aS,false_ne_true->aO,or_false->eO
open Decidable renaming of_not_not->bO
open Int renaming le_refl->bR,toNat_natCast->aW
open List renaming all_append->iy,any_append->fU,any_eq_true->dY,filter->gO,filter_append->hZ,getD_eq_getElem?_getD->aA,getElem?_eq_getElem->aC,getElem?_eq_none->cD,getElem?_map->aP,getElem?_set->bQ,getElem?_take->cR,getElem_mem->bL,getElem_take->fL,length_append->bf,length_cons->bF,length_map->bA,length_nil->cE,length_set->bW,length_singleton->fq,length_take->bT,lookup->eV,map->eN,map_append->dD,mem_cons->bG,mem_iff_getElem->dH,mem_iff_getElem?->en,mem_singleton->aN,not_mem_nil->dM,pairwise_map->fM,range->aT,range_succ->eL
open List.cons renaming injEq->cB
open Nat renaming le_refl->aJ,zero_le->aV
open Option.some renaming injEq->aD
open Go.Proofs.Tryz renaming prog->aB
namespace Go.Proofs.YtjgpiclllehgmaaGreat
namespace Vm
attribute [local irreducible] Dn
open Go Go.Proofs Sp
set_option maxRecDepth 100000
set_option maxHeartbeats 8000000
theorem ZM.garE {n k s:Nat} {m m':Unit->Int} {f H:(Unit->Int)->List AV} (hm:m ()=m' ()) (hf:∀i:Nat,(i:Int)<m ()->Yd (f λ_=>(i:Int)) (H λ_=>(i:Int))):ZM n k (.gar s m f) (.gar s m' H):=
 ⟨λR id hN ⟨Y,S⟩=>⟨Y.trans hm,by
  rcases S with⟨h3,V⟩|⟨b,o,len,G,arr,ty,a1,a2,Z,a4,a5,J⟩
  ·exact .inl ⟨by omega,V⟩
  refine .inr ⟨b,o,len,G,arr,ty,by omega,a2,Z,a4,a5,λi I=>?_⟩;have A:=hf i (by omega);refine⟨by rw[A.1];exact(J i I).1,λj c hj=>?_⟩;obtain⟨c0,g1,U⟩:=A.2 j c hj
  exact U _ _ _ ((J i I).2 j c0 g1)⟩,λ_ _ _=>Iff.rfl,λ_ _ _ _ _=>Iff.rfl,rfl⟩
theorem To.rsvC {s:List AV} {h:List Zi} {id:Nat} {cs:List AV} (S:h[id]? =some (.cells cs)):To s h s (h.set id (.cells (cs.map (Vm.rsv h)))):=λG R t H hs=>by
 have J:∀ {j x},(h.set id (.cells (cs.map (Vm.rsv h))))[j]? =some x->(j=id/\x= .cells (cs.map (Vm.rsv h)))\/(j≠id/\h[j]? =some x):=λ{j x} A=>by
  rw[bQ]at A;split at A
  ·rename_i e;split at A
   ·simp only[aD]at A;exact .inl ⟨e.symm,A.symm⟩
   cases A
  rename_i e;exact .inr ⟨λe'=>e e'.symm,A⟩
 have ac:∀ {j},j≠id->(h.set id (.cells (cs.map (Vm.rsv h))))[j]? =h[j]? :=λ{j} e=>by rw[List.getElem?_set_ne (Ne.symm e)]
 have ae:=(List.getElem?_eq_some_iff.1 S).1;have ab:(h.set id (.cells (cs.map (Vm.rsv h))))[id]? =some (.cells (cs.map (Vm.rsv h))):=by rw[List.getElem?_set_self ae]
 have aa:∀ {j x b},(h.set id (.cells (cs.map (Vm.rsv h))))[j]? =some x->ZE R j x b->∃y,h[j]? =some y/\ZE R j y b:=λ{j x b} A I=>by
  rcases J A with⟨rfl,rfl⟩|⟨V,A⟩
  ·exact⟨_,S,I⟩
  exact⟨x,A,I⟩
 have ai:∀b o n,Zdb R h b o n↔Zdb R (h.set id (.cells (cs.map (Vm.rsv h)))) b o n:=λb o n=>by
  constructor
  ·intro ha j x A;rcases J A with⟨rfl,rfl⟩|⟨V,A⟩
   ·exact(ha j _ S:¬ZE R j (.cells cs) b)
   exact ha j x A
  intro ha j x A;by_cases e:j=id
  ·subst e;rw[S]at A;cases A;exact(ha j _ ab:¬ZE R j (.cells (cs.map (Vm.rsv h))) b)
  exact ha j x (by rw[ac e];exact A)
 refine⟨R,rfl,⟨by rw[bW];exact H.len,λb o n=>by rw[<-ai];exact H.okd b o n,λj x A=>?_,λi j bi bj b aj U hj I Z=>?_,H.cl,H.fresh,λj x b A Y I o n=>?_,H.n0m⟩,⟨rfl,rfl,rfl,rfl,aJ _,aJ _,λ_ _=>rfl,λ_ _ _ k=>k,λ_ _ _ _ _ _=>rfl,λ_ _ _=>rfl,λj x b A I=>?_⟩,RC.le.refl _,hs⟩
 ·rcases J A with⟨rfl,rfl⟩|⟨V,A⟩
  ·obtain⟨arr,ty,h1,h2,h3⟩:=H.blk _ _ S;refine⟨arr,ty,h1,by rw[bA];exact h2,λk c Y=>?_⟩;rw[aP,Option.map_eq_some_iff]at Y;obtain⟨c0,ah,rfl⟩:=Y
   have:=(SL.rsv (t:= #[arr.getD ((R.α j).o+k) undef]) H ⟨rfl,λi a U=>by
    cases i with
    |zero=>
     have U:c0=a:=by simpa using U
     subst U;exact h3 k _ ah
    |succ i=>simp at U⟩ {tb with rs:=true} (s:=[c0])).2 0 (Vm.rsv h c0) rfl
   exact this
  exact H.blk j x A
 ·obtain⟨y,hy,I⟩:=aa U I;obtain⟨y',ak,Z⟩:=aa hj Z;exact H.dis i j y y' b aj hy ak I Z
 ·rcases J A with⟨rfl,rfl⟩|⟨V,A⟩
  ·cases Y
  exact H.tokG j x b A Y I o n
 obtain⟨y,hy,I⟩:=aa A I;exact .inr ⟨j,y,hy,I,.inl rfl⟩
theorem ZM.deadF {n k s:Nat} {m:Unit->Int} {f:(Unit->Int)->List AV}:ZM n k (.fro s m f) .dead:=⟨λ_ _ _ _=>trivial,λ_ _ _=>Iff.rfl,λ_ _ _ _ _=>Iff.rfl,rfl⟩
theorem PR.nilw' {w:World} {ok:Nat->Nat->Nat->Prop} {s s':Nat} {m m':Unit->Int} {f G:(Unit->Int)->List AV} {v:Value} (h:PR w ok (.isl s m f .nil) v) (hm:m' ()=0):PR w ok (.isl s' m' G .none) v:=by
 cases h with
 |isl0 _ _ _ _ H A=>exact .isl0 _ _ _ _ hm rfl
 |islE _ _ _ _ a H A=>exact .islE _ _ _ _ a hm (.inl rfl)
 |isl _ _ _ _ b o len I J U S A=>rcases A with h|h<;>cases h
theorem ZsP {p A:Prop} {α I S H J:Type} {k:List Item} {K:Ex->List AV->List Zi->Cd->Prop} (st:α×I×S×H×J->List AV) (G:α×I×S×H×J->List Zi) (inv:α×I×S×H×J->Prop) (Y:p->(∀i,inv i->HP false 1 (λ_=>aB) k K (st i) (G i))->A) (V:¬p->(∀i,inv i->HP false 1 (λ_=>aB) k K (st i) (G i))->A)
  (U:∀a b c d e,inv (a,b,c,d,e)->HP false 1 (λ_=>aB) k K (st (a,b,c,d,e)) (G (a,b,c,d,e))):A:=by
 by_cases h:p
 ·exact Y h λ⟨a,b,c,d,e⟩ hi=>U a b c d e hi
 exact V h λ⟨a,b,c,d,e⟩ hi=>U a b c d e hi
theorem Zjb (kp rs:Bool) (cs:List Nat) {x:Code} {Q:Ex->List AV->List Zi->Prop} {s:List AV} {h:List Zi} {α A G:Type} (L:List Nat) (ex:List Zi) (ch:α×A×G->List (Nat×AV)) (H:α×A×G->List (Nat×Zi)) (inv:α×A×G->Prop) (J:α×A×G->Nat) (i:α×A×G)
  (hi:inv i) (I:To (Vm.keep L s) h (Jj (Vm.keep L s) (ch i)) (Yx (h++ex) (H i)))
  (step:∀a b c,inv (a,b,c)->Dn (tbX kp rs cs) (λ_=>aB) (ZfD L (λi=>Jj (Vm.keep L s) (ch i)) (λi=>Yx (h++ex) (H i)) inv J (a,b,c) (h++ex).length Q) 100 .none [.code x] (Jj (Vm.keep L s) (ch (a,b,c))) (Yx (h++ex) (H (a,b,c))) []):LP false (λ_=>aB) x Q s h:=
 ZJ kp rs cs L ex ch H inv J i hi I λ⟨a,b,c⟩ h=>step a b c h
theorem Zw9 {A:(α:Type)->α->List α->Int->α} (O:∀(α:Type) (d:α) (l:List α) (i:Int),A α d l i=l.getD i.toNat d) (z:Zone) (old:List Train) (n:Int) (G:Xt (Zv z old)) (H:(QX (Zv z old) ⟨n,0⟩).2=false):SC (λ_=>aB) 75 [.agg [.gd (λ_=>decide ((1:Int)=1)) (.isl 2 (λ_=>1) (λe=>encZone (A Zone default [z] (e ()))) .none),.isl 3 (λ_=>(old.length:Int)) (λe=>encTrain (A Train default old (e ()))) .none,.isl 0 (λ_=>0) (λ_=>[]) .nil,.int .i64 λ_=>1,.int .i64 λ_=>0],.agg [.int .i64 λ_=>n,.int .i64 λ_=>0]] [] λv h=>v= .tup [.undef,.bool λ_=>false]/\h=[]:=by
 have k:=Zxa (Zv z old) ⟨n,0⟩ G H;simp only[Zd,Zh,Zv,Za O]at k;refine SC.to ?_ k;(refine To.of [] ?_;cbv;(try simp only[nc]);(repeat' first|exact xT|refine⟨?_,?_⟩|refine ZM.cells ?_|refine ZC.agg ?_|refine ZC.tup ?_);all_goals try exact XZ);all_goals exact .gd rfl (.none rfl λ_ _=>rfl)
theorem Zve (kp rs:Bool) (cs:List Nat) {x:Code} {Q:Ex->List AV->List Zi->Prop} {s:List AV} {h:List Zi} {α G H A:Type} (L:List Nat) (ex:List Zi) (ch:α×G×H×A->List (Nat×AV)) (I:α×G×H×A->List (Nat×Zi)) (inv:α×G×H×A->Prop) (S:α×G×H×A->Nat) (i:α×G×H×A)
  (hi:inv i) (J:To (Vm.keep L s) h (Jj (Vm.keep L s) (ch i)) (Yx (h++ex) (I i)))
  (step:∀a b c d,inv (a,b,c,d)->Dn (tbX kp rs cs) (λ_=>aB) (ZfD L (λi=>Jj (Vm.keep L s) (ch i)) (λi=>Yx (h++ex) (I i)) inv S (a,b,c,d) (h++ex).length Q) 100 .none [.code x] (Jj (Vm.keep L s) (ch (a,b,c,d))) (Yx (h++ex) (I (a,b,c,d))) []):LP false (λ_=>aB) x Q s h:=
 ZJ kp rs cs L ex ch I inv S i hi J λ⟨a,b,c,d⟩ h=>step a b c d h
structure ByL (b:List Int) (n:Int):Prop where
 rng:∀k,k<b.length->0<=b.getD k 0/\b.getD k 0<=240
 asc:∀k,k+1<b.length->b.getD k 0<b.getD (k+1) 0
 bd:0<=n/\n<=10+60*b.length
 last:∀k,k<b.length->b.getD k 0<n
theorem ByL.nil {n:Int} (h:0<=n/\n<=10):ByL [] n:=⟨λk h=>by simp at h,λk h=>by simp at h,by simp;omega,λk h=>by simp at h⟩
theorem ByL.snoc {b:List Int} {n y:Int} (h:ByL b n) (S:b.length<=2) (U:1<=y/\y<=60):ByL (b++[n]) (n+y):=by
 have J:=h.bd;have G:∀k,k<b.length->(b++[n]).getD k 0=b.getD k 0:=λk A=>ZeC A;have I:(b++[n]).getD b.length 0=n:=ZeD;have H:(b++[n]).length=b.length+1:=by rw[bf,fq]
 refine⟨λk A=>?_,λk A=>?_,by rw[H];omega,λk A=>?_⟩
 ·by_cases e:k<b.length
  ·rw[G k e];exact h.rng k e
  rw[show k=b.length by omega,I];omega
 ·rw[G k (by omega)];by_cases e:k+1<b.length
  ·rw[G _ e];exact h.asc k e
  rw[show k+1=b.length by omega,I];exact h.last k (by omega)
 by_cases e:k<b.length
 ·rw[G k e];have:=h.last k e;omega
 rw[show k=b.length by omega,I];omega
theorem Zop {α:Type} {p:α->Bool} {d:α} {l:List α} {k:Nat} (h:k<l.length):(l.take (k+1)).any p=((l.take k).any p||p (l.getD k d)):=by
 rw[List.take_add_one,fU,aC h,aA,aC h];simp
theorem ZtA (a b c d:Int):decide (a=b/\c=d)=(bif a==b then c==d else false):=by
 by_cases h:a=b
 ·subst h;simp;rfl
 simp[h]
theorem cL3 (l:List Nat) {f:FuncId} {xs I:List AV} {h J:List Zi} {G Q:AV->List Zi->Prop} (H:SC (λ_=>aB) f I J Q) (S:∀ r A,Q r A->G (ren (Jg l h.length) 5 r) (back l h A)) (Z:l.Nodup:=by decide) (U:∀ i∈l,i<h.length:=by simp) (Y:xs.map (QE false l h 5)=I:=by first|rfl|(simp only[Ze,Zd,Zf,Zc,Zh,Zv,Za O];rfl)) (V:sel false l h=J:=by first|rfl|(simp only[Ze,Zd,Zf,Zc,Zh,Zv,Za O];rfl)):SC (λ_=>aB) f xs h G:=ZP l H Z U Y V S
theorem Zyx (s runs waits delays:Int) (hr:1<=runs/\runs<=4) (hw:0<=waits/\waits<=4) (hd:0<=delays/\delays<=6):SC (λ_=>aB) 19 [.ptr 0 0,.int .i64 λ_=>runs,.int .i64 λ_=>waits,.int .i64 λ_=>delays] [XI s] λv h=>
  ∃(t:Zb) (s':Int),(Zk5 t/\(t.runs.length:Int)<=runs/\(t.waits.length:Int)<=waits/\(t.delays.length:Int)<=delays)/\v=Zf t/\h=[XI s']:=by
 obtain⟨G,O⟩:=Zn;obtain⟨N,hN⟩:∃N:Nat,(N:Int)=4*waits:=⟨(4*waits).toNat,by omega⟩;refine SC.less (Zvn false false [] [1] false 1 Tryz.func19 (body:=Zj Tryz.f19) rfl (by decide+kernel) rfl ?_);refine wS ?_;refine hpX (T:=tbH false false [] [] false 1) (hTH false false [] [] false 1) 33 ?_;refine vS ?_;refine cL3 [0] (c22 s (-1) 1 (by omega) (by omega)) λr I H=>?_;(try simp only[Ze,Zd,Zf,Zc,Zh,Zv,Za O]at H);obtain⟨x,s1,hx,rfl,rfl⟩:=H;refine wS ?_;refine Zcj [0,1,2,3,8,9] 4 rfl rfl (s₂:=mkS 312 [(0,.ptr 0 0),(1,.int .i64 λ_=>runs),(2,.int .i64 λ_=>waits),(3,.int .i64 λ_=>delays),(8,.ptr 1 0),(9,.ptr 3 0)]) (h₂:=[XI s1,.cells [.isl 0 (λ_=>0) (λ_=>[]) .nil,.isl 0 (λ_=>0) (λ_=>[]) .nil,.isl 0 (λ_=>0) (λ_=>[]) .nil,.int .i64 λ_=>0,.int .i64 λ_=>0,.isl 0 (λ_=>0) (λ_=>[]) .nil,.isl 0 (λ_=>0) (λ_=>[]) .nil,.isl 0 (λ_=>0) (λ_=>[]) .nil],.gar 2 (λ_=>1) (λe=>encZone (G Zone default [⟨30*x,[]⟩] (e ()))),.cells [.gsl 2 λ_=>1,.isl 0 (λ_=>0) (λ_=>[]) .nil,.isl 0 (λ_=>0) (λ_=>[]) .nil,.int .i64 λ_=>1,.int .i64 λ_=>0,.isl 0 (λ_=>0) (λ_=>[]) .nil,.isl 0 (λ_=>0) (λ_=>[]) .nil,.isl 0 (λ_=>0) (λ_=>[]) .nil]]) ?_ ?_
 ·refine toR ?_;refine ZM.garE rfl λi hi=>?_;match i,hi with
  |0,_=>(show Yd [_,_] (encZone (G Zone default [⟨30*x,[]⟩] 0)));rw[O];exact Yd.two λw ok v h=>h.nilw' rfl
 refine Zfk false false [4] [19,21] false ?_;refine wS ?_;refine cL3 [0] (c37 s1 1 5 (by omega)) λr I H=>?_;(try simp only[Ze,Zd,Zf,Zc,Zh,Zv,Za O]at H);obtain⟨bb,s2,rfl,rfl⟩:=H;refine wS ?_;refine Zq8 false false [] 50 [0,1,2,3,8,9] (λ_=>[]) (λ(⟨s,z⟩:Int×Zone)=>[(0,XI s),(2,.gar 2 (λ_=>1) (λe=>encZone (G Zone default [z] (e ())))),(3,.cells [.gsl 2 λ_=>1,.isl 0 (λ_=>0) (λ_=>[]) .nil,.isl 0 (λ_=>0) (λ_=>[]) .nil,.int .i64 λ_=>1,.int .i64 λ_=>0,.isl 0 (λ_=>0) (λ_=>[]) .nil,.isl 0 (λ_=>0) (λ_=>[]) .nil,.isl 0 (λ_=>0) (λ_=>[]) .nil])]) (λ⟨s,z⟩=>Zrs 1 z) (λ_ _ h=>h) (by decide) ?_ ?_
 ·refine wS ?_;refine⟨λhb=>?_,λhb=>?_⟩
  ·refine wS ?_;refine cL3 [0] (c29 s2 1 (by omega)) λr I H=>?_;(try simp only[Ze,Zd,Zf,Zc,Zh,Zv,Za O]at H);obtain⟨z,s3,hz,rfl,rfl⟩:=H;refine wS ?_;refine⟨(s3,z),hz,?_⟩;refine toR ?_;refine ZM.garE rfl λi hi=>?_;match i,hi with
   |0,_=>(simp only[O]);exact Yd.two λw ok v h=>h.wk rfl (λj hj=>rfl) (.inl rfl)
  refine wS ?_;refine⟨(s2,⟨30*x,[]⟩),⟨by dsimp only;omega,.inr rfl,.nil,by simp,by simp⟩,?_⟩;exact ZG
 rintro⟨s,z⟩ hz;refine wS ?_;refine cL3 [0] (c22 s 1 runs (by omega) (by omega)) λr I H=>?_;(try simp only[Ze,Zd,Zf,Zc,Zh,Zv,Za O]at H);obtain⟨n,s4,hn,rfl,rfl⟩:=H;refine wS ?_;obtain⟨n,rfl⟩:∃k:Nat,n=k:=⟨n.toNat,by omega⟩;refine ZJ false false [] [0,2,3,8,9,10] [.tok 3 λ_=>0] (λ(⟨i,s,old⟩:Nat×Int×List Train)=>[(10,.int .i64 λ_=>i)])
  (λ⟨i,s,old⟩=>[(0,XI s),(3,.cells [.gsl 2 λ_=>1,.isl 3 (λ_=>(old.length:Int)) (λe=>encTrain (G Train default old (e ()))) (.own 4),.isl 0 (λ_=>0) (λ_=>[]) .nil,.int .i64 λ_=>1,.int .i64 λ_=>0,.isl 0 (λ_=>0) (λ_=>[]) .nil,.isl 0 (λ_=>0) (λ_=>[]) .nil,.isl 0 (λ_=>0) (λ_=>[]) .nil]),(4,.tok 3 λ_=>(old.length:Int))])
  (λ⟨i,s,old⟩=>i<=n/\old.length+i=n/\DL n old) (λi=>i.1+0) (n,s4,[]) ⟨aJ _,by simp,⟨λk hk=>by simp at hk⟩⟩ ?_ ?_
 ·(refine To.of [(3,false)] ?_;cbv;(try simp only[nc]);(repeat' first|exact xT|refine⟨?_,?_⟩|refine ZM.cells ?_|refine ZC.agg ?_|refine ZC.tup ?_);all_goals try exact XZ)
 rintro⟨i,s,old⟩ ⟨hi,ce,hdl⟩;refine wS ?_;refine⟨λhb=>?_,λhb=>?_⟩
 ·simp only[iR]at hb;refine wS ?_;refine cL3 [0] (c22 s 3 5 (by omega) (by omega)) λr I H=>?_;(try simp only[Ze,Zd,Zf,Zc,Zh,Zv,Za O]at H);obtain⟨st,s5,ae,rfl,rfl⟩:=H;refine wS ?_;obtain⟨st,rfl⟩:∃k:Nat,st=k:=⟨st.toNat,by omega⟩;refine cL3 [0] (Zyi s5 i st (by omega)) λr I H=>?_;(try simp only[Ze,Zd,Zf,Zc,Zh,Zv,Za O]at H);obtain⟨t,s6,ht,rfl,rfl⟩:=H;refine wS ?_;obtain⟨j,rfl⟩:∃j,i=j+1:=⟨i-1,by omega⟩;refine⟨(j,s6,old++[t]),⟨by omega,by simp only[bf,bF,cE];omega,hdl.snoc (st:=st) (by omega) (by rw[show(n:Int)-old.length=((j+1:Nat):Int) by omega];exact ht)⟩,by show j+0<j+1+0;omega,?_⟩;(refine To.of [] ?_;cbv;(try simp only[nc]);(repeat' first|exact xT|refine⟨?_,?_⟩|refine ZM.cells ?_|refine ZC.agg ?_|refine ZC.tup ?_);all_goals try exact XZ);all_goals trace_state
 simp only[iS]at hb;have ce:old.length=n:=by omega
 have bh:(n:Int)=old.length:=by omega
 have ap:old.length<=4:=by omega
 have dt:(old.length:Int)<=runs:=by omega
 have bc:=ZoB hz (by decide);have cw:=Zjo bc hdl (by omega) (by omega);have hf:Xt (Zv z old):=by
  have hc:=ZcO cw;exact⟨by have:=hc.zlen;omega,by have:=hc.olen;omega,by have:=hc.nlen;omega,λz hz=>by have:=(Zcv (hc.zones z hz)).2.2.1;omega,⟨λt ht=>by have:=(hc.old t ht).len;omega,λt ht=>by have:=(hc.new t ht).len;omega⟩⟩
 apply ZsP (p:=∃j,j<old.length/\(QX (Zv z old) (QN (Zv z old) j)).2=true) (λ(⟨s,z,old,rs,A⟩:Int×Zone×List Train×List Sp.Z3×List (List Sp.Call))=>mkS 312 [(0,.ptr 0 0),(2,.int .i64 λ_=>waits),(3,.int .i64 λ_=>delays),(8,.ptr 1 0),(9,.ptr 3 0),(11,.isl 1 (λ_=>(A.length:Int)) (λe=>[.isl 3 (λ_=>((G (List Sp.Call) [] A (e ())).length:Int)) (λe2=>X2 (G Sp.Call default (G (List Sp.Call) [] A (e ())) (e2 ()))) .none]) .none)])
  (λ⟨s,z,old,rs,A⟩=>[XI s,.cells [.isl 0 (λ_=>0) (λ_=>[]) .nil,.isl 0 (λ_=>0) (λ_=>[]) .nil,.isl 0 (λ_=>0) (λ_=>[]) .nil,.int .i64 λ_=>0,.int .i64 λ_=>0,.isl 0 (λ_=>0) (λ_=>[]) .nil,.isl 0 (λ_=>0) (λ_=>[]) .nil,.isl 0 (λ_=>0) (λ_=>[]) .nil],.dead,.cells [.isl 2 (λ_=>1) (λe=>encZone (G Zone default [z] (e ()))) .none,.isl 3 (λ_=>(old.length:Int)) (λe=>encTrain (G Train default old (e ()))) .none,.isl 0 (λ_=>0) (λ_=>[]) .nil,.int .i64 λ_=>1,.int .i64 λ_=>0,.isl 2 (λ_=>(rs.length:Int)) (λe=>Zh (G Sp.Z3 default rs (e ()))) .none,.isl 0 (λ_=>0) (λ_=>[]) .nil,.isl 0 (λ_=>0) (λ_=>[]) .nil]])
  (λ⟨s,z,old,rs,A⟩=>RJ (Zv z old) rs A/\(rs.length:Int)<=runs/\ZB z=0/\∃n,DL n old)
 ·intro cj M;refine wS ?_;refine ZJ false false [] [0,2,3,8,9,11,12] [.tok 1 λ_=>0,.tok 2 λ_=>0] (λ(⟨i,runs,A⟩:Nat×List Sp.Z3×List (List Sp.Call))=>[(11,.isl 1 (λ_=>(A.length:Int)) (λe=>Zc (G (List Sp.Call) [] A (e ()))) (.own 5)),(12,.int .i64 λ_=>i)])
   (λ⟨i,runs,A⟩=>[(2,.dead),(3,.cells [.isl 2 (λ_=>1) (λe=>encZone (G Zone default [z] (e ()))) .none,.isl 3 (λ_=>(old.length:Int)) (λe=>encTrain (G Train default old (e ()))) .none,.isl 0 (λ_=>0) (λ_=>[]) .nil,.int .i64 λ_=>1,.int .i64 λ_=>0,.isl 2 (λ_=>(runs.length:Int)) (λe=>Zh (G Sp.Z3 default runs (e ()))) (.own 6),.isl 0 (λ_=>0) (λ_=>[]) .nil,.isl 0 (λ_=>0) (λ_=>[]) .nil]),(5,.tok 1 λ_=>(A.length:Int)),(6,.tok 2 λ_=>(runs.length:Int))])
   (λ⟨i,runs,A⟩=>i<=old.length/\RL (Zv z old) i runs A) (λi=>old.length-i.1+0) (0,[],[]) ⟨aV _,.nil⟩ ?_ ?_
  ·refine(To.froze (id:=2) rfl).trans ((To.rsvC (id:=3) rfl).trans ?_);(refine To.of [(1,false),(2,false)] ?_;cbv;(try simp only[nc]);(repeat' first|exact xT|refine⟨?_,?_⟩|refine ZM.cells ?_|refine ZC.agg ?_|refine ZC.tup ?_);all_goals try exact XZ)
   ·exact .deadF
   exact .none rfl λ_ _=>rfl
  rintro⟨i,runs,A⟩ ⟨hi,Z⟩;refine wS ?_;refine⟨λhb=>?_,λhb=>?_⟩
  ·simp only[iR]at hb;have ab:QN (Zv z old) i=⟨(G Train default old i).number,0⟩:=by unfold QN Zv;rw[O];rfl
   have hE:QX (Zv z old) (QN (Zv z old) i)=QX ⟨[z],old,[],1,0⟩ ⟨(G Train default old i).number,0⟩:=by rw[ab];rfl
   have k:=Ztr ⟨[z],old,[],1,0⟩ ⟨(G Train default old i).number,0⟩ hf;generalize QX ⟨[z],old,[],1,0⟩ ⟨(G Train default old i).number,0⟩=E at hE k;refine wS ?_;refine ZbH (k) (by(try simp only[Ze,Zd,Zf,Zc,Zh,Zv,Za O]);exact ZG) (by first|rfl|(simp only[Ze,Zd,Zf,Zc,Zh,Zv,Za O];rfl)) λr I H=>?_;(try simp only[Ze,Zd,Zf,Zc,Zh,Zv,Za O]at H);obtain⟨rfl,rfl⟩:=H;refine wS ?_;refine⟨λh9=>?_,λh9=>?_⟩
   ·have bo:=Z.len;have b9:=Z.le;refine wS ?_
    refine⟨(i+1,runs++[⟨(G Train default old i).number,0⟩],A++[E.1]),⟨by omega,by
     have:=Z.snoc hdl (by show i<old.length;omega) (C:=E.1) (by rw[hE,<-h9]);rw[ab]at this
     exact this⟩,by show old.length-(i+1)+0<old.length-i+0;omega,?_⟩
    refine toR ?_;exact .snoc O rfl (by simp) (by unfold Zc;rw[Za O];rfl)
   refine wS ?_;refine⟨(i+1,runs,A),⟨by omega,Z.skip (by rw[hE,<-h9])⟩,by show old.length-(i+1)+0<old.length-i+0;omega,?_⟩;exact ZG
  simp only[iS]at hb;have cg:0<runs.length:=by
   obtain⟨j,dw,ar⟩:=cj;exact Z.some j (by omega) ar
  refine wS ?_;refine Br.isF (by simp only[beq_eq_false_iff_ne];omega) ?_;refine wS ?_;have ct:i=old.length:=by omega
  subst ct;have b9:=Z.le;refine Zcj [0,2,3,8,9,11] 4 rfl rfl ?_ (M (s,z,old,runs,A) ⟨Z.ok bc hdl bh ap ap cg,by show(runs.length:Int)<=_;omega,bc,_,hdl⟩);refine toR ?_;exact .none rfl λi hi=>by simp only[Zc,Za O]
 ·intro cz M;refine wS ?_;refine ZJ false false [] [0,2,3,8,9,11,12] [] (λ(i:Nat)=>[(12,.int .i64 λ_=>i)]) (λ_=>[]) (λi=>i<=old.length) (λi=>old.length-i+0) 0 (aV _) ?_ ?_
  ·exact ZG
  intro i hi;have hi:i<=old.length:=hi;refine wS ?_;refine⟨λhb=>?_,λhb=>?_⟩
  ·simp only[iR]at hb;have ab:QN (Zv z old) i=⟨(G Train default old i).number,0⟩:=by unfold QN Zv;rw[O];rfl
   have hE:(QX (Zv z old) ⟨(G Train default old i).number,0⟩).2=false:=by
    rw[<-ab,<-Bool.not_eq_true];exact λh=>cz ⟨i,by omega,h⟩
   refine wS ?_;refine SC.lend0 (Zw9 O z old _ hf hE) rfl λr I H=>?_;obtain⟨rfl,rfl⟩:=H;refine⟨rfl,rfl,?_⟩;refine wS ?_;refine Br.isF rfl ?_;refine wS ?_;refine⟨i+1,by show i+1<=_;omega,by show old.length-(i+1)+0<old.length-i+0;omega,?_⟩;exact ZG
  simp only[iS]at hb;refine wS ?_;refine Br.isT rfl ?_;refine wS ?_;have ca:=Zjo (z:=⟨0,[]⟩) rfl hdl bh ap;have dg:Xt (Zv ⟨0,[]⟩ old):=⟨by simp[Zv],hf.old,hf.new,λz hz=>by simp[Zv]at hz;subst hz;simp,hf.stops⟩;have ah:=RL.one ca hdl (by omega);have ab:QN (Zv ⟨0,[]⟩ old) 0=⟨(G Train default old 0).number,0⟩:=by unfold QN Zv;rw[O];rfl
  have Z:=RL.snoc (C:=(QX (Zv ⟨0,[]⟩ old) (QN (Zv ⟨0,[]⟩ old) 0)).1) hdl RL.nil (by show 0<old.length;omega) ah;have V:=Z.ok (z:=⟨0,[]⟩) rfl hdl bh ap (by omega) (by simp);have k:=Ztr (Zv ⟨0,[]⟩ old) (QN (Zv ⟨0,[]⟩ old) 0) dg;rw[ab]at k V ah;rw[show(QX (Zv ⟨0,[]⟩ old) ⟨(G Train default old 0).number,0⟩).2=true by rw[ah]]at k;generalize (QX (Zv ⟨0,[]⟩ old) ⟨(G Train default old 0).number,0⟩).1=C at V k;refine Zcj [0,2,3,8,9] 4 rfl rfl (s₂:=mkS 312 [(0,.ptr 0 0),(2,.int .i64 λ_=>waits),(3,.int .i64 λ_=>delays),(8,.ptr 1 0),(9,.ptr 3 0)]) (h₂:=[XI s,.cells [.isl 0 (λ_=>0) (λ_=>[]) .nil,.isl 0 (λ_=>0) (λ_=>[]) .nil,.isl 0 (λ_=>0) (λ_=>[]) .nil,.int .i64 λ_=>0,.int .i64 λ_=>0,.isl 0 (λ_=>0) (λ_=>[]) .nil,.isl 0 (λ_=>0) (λ_=>[]) .nil,.isl 0 (λ_=>0) (λ_=>[]) .nil],.dead,.cells [.isl 2 (λ_=>1) (λe=>encZone (G Zone default [⟨0,[]⟩] (e ()))) .none,.isl 3 (λ_=>(old.length:Int)) (λe=>encTrain (G Train default old (e ()))) .none,.isl 0 (λ_=>0) (λ_=>[]) .nil,.int .i64 λ_=>1,.int .i64 λ_=>0,.isl 2 (λ_=>1) (λe=>Zh (G Sp.Z3 default [⟨(G Train default old 0).number,0⟩] (e ()))) .none,.isl 0 (λ_=>0) (λ_=>[]) .nil,.isl 0 (λ_=>0) (λ_=>[]) .nil]]) ((To.froze (id:=2) rfl).trans ((To.rsvC (id:=3) rfl).trans ?_)) ?_
  ·(refine To.of [] ?_;cbv;(try simp only[nc]);(repeat' first|exact xT|refine⟨?_,?_⟩|refine ZM.cells ?_|refine ZC.agg ?_|refine ZC.tup ?_);all_goals try exact XZ)
   ·exact .deadF
   ·refine .gd rfl (.elems rfl λi hi=>?_);match i,hi with
    |0,_=>(simp only[O]);exact Yd.two λw ok v h=>h.wk rfl (λj hj=>by have hj:(j:Int)<0:=hj;omega) (.inl rfl)
   refine .none rfl λi hi=>?_;match i,hi with
   |0,_=>(simp only[O]);rfl
  refine Zfk false false [] [21] false ?_;simp only[Zd,Zh,Zv,Za O]at k;refine wS ?_;have e0:G Sp.Z3 default [⟨(G Train default old 0).number,0⟩] 0=⟨(G Train default old 0).number,0⟩:=by rw[O];rfl
  refine ZbH k (by((refine To.of [] ?_;cbv;(try simp only[nc]);(repeat' first|exact xT|refine⟨?_,?_⟩|refine ZM.cells ?_|refine ZC.agg ?_|refine ZC.tup ?_);all_goals try exact XZ);all_goals exact .int (by simp only[e0]))) rfl λr I H=>?_;obtain⟨rfl,rfl⟩:=H;refine wS ?_;refine Zcj [0,2,3,8,9,11] 4 rfl rfl ?_ (M (s,⟨0,[]⟩,old,[⟨(G Train default old 0).number,0⟩],[C]) ⟨V,by show((1:Nat):Int)<=_;omega,rfl,_,hdl⟩);refine toR ?_;refine .none rfl λi hi=>?_;match i,hi with
  |0,_=>(simp only[O]);rfl
 intro s z old rs A hj;have V:=hj.1;have dc:=hj.2.1;have aq:(∃z' a9 n,Zv z old=Zv z' a9/\ZB z'=0/\DL n a9)/\∀k,k<rs.length->∃j,j<old.length/\rs.getD k default=QN (Zv z old) j:=⟨⟨z,old,hj.2.2.2.choose,rfl,hj.2.2.1,hj.2.2.2.choose_spec⟩,V.from_⟩;have dm:=V.pos;have bo:=V.len;clear hj;have ak:∀f:Int,0<=f->f<A.length->Zk6 (G (List Sp.Call) [] A f):=λf h1 h2=>by rw[O];exact V.row _ (ZlN (by omega))
 refine Zfk false false [] [] false ?_;refine wS ?_;refine Zjb false false [] [0,2,3,8,9,11,18] [.tok 4 λ_=>0] (λ(⟨i,s,S⟩:Nat×Int×List Sp.QR)=>[(18,.int .i64 λ_=>i)])
  (λ⟨i,s,S⟩=>[(0,XI s),(3,.cells [.isl 2 (λ_=>1) (λe=>encZone (G Zone default [z] (e ()))) .none,.isl 3 (λ_=>(old.length:Int)) (λe=>encTrain (G Train default old (e ()))) .none,.isl 0 (λ_=>0) (λ_=>[]) .nil,.int .i64 λ_=>1,.int .i64 λ_=>0,.isl 2 (λ_=>(rs.length:Int)) (λe=>Zh (G Sp.Z3 default rs (e ()))) .none,.isl 4 (λ_=>(S.length:Int)) (λe=>QM (G Sp.QR default S (e ()))) (.own 4),.isl 0 (λ_=>0) (λ_=>[]) .nil]),(4,.tok 4 λ_=>(S.length:Int))])
  (λ⟨i,s,S⟩=>i<=N/\LOk (Qf A) S/\(S.length:Int)<=waits) (λi=>i.1+0) (N,s,[]) ⟨aJ _,.nil,by simp;omega⟩ ?_ ?_
 ·(refine To.of [(4,false)] ?_;cbv;(try simp only[nc]);(repeat' first|exact xT|refine⟨?_,?_⟩|refine ZM.cells ?_|refine ZC.agg ?_|refine ZC.tup ?_);all_goals try exact XZ)
  exact .int hN.symm
 intro i s S hq;have hi:i<=N:=hq.1;have bq:LOk (Qf A) S:=hq.2.1;have bx:(S.length:Int)<=waits:=hq.2.2;clear hq;refine wS ?_;refine⟨λhb=>?_,λhb=>?_⟩
 ·have dl:0<i/\(S.length:Int)<waits:=by
   by_cases h0:(0:Int)<i<;>simp[h0]at hb<;>omega
  refine wS ?_;refine cL3 [0] (c17 s ((A.length:Int)-1) (by omega)) λr I H=>?_;(try simp only[Ze,Zd,Zf,Zc,Zh,Zv,Za O]at H);obtain⟨U,s5,dk,rfl,rfl⟩:=H;refine wS ?_;refine cL3 [0] (c17 s5 ((A.length:Int)-1) (by omega)) λr I H=>?_;(try simp only[Ze,Zd,Zf,Zc,Zh,Zv,Za O]at H);obtain⟨tr,s6,cu,rfl,rfl⟩:=H;refine wS ?_;have db:=ak U (by omega) (by omega);have cf:=ak tr (by omega) (by omega);have c6:=db.len;have d7:=cf.len;refine cL3 [0] (c17 s6 20 (by omega)) λr I H=>?_;(try simp only[Ze,Zd,Zf,Zc,Zh,Zv,Za O]at H);obtain⟨m1,s7,d8,rfl,rfl⟩:=H;refine wS ?_;refine cL3 [0] (c17 s7 60 (by omega)) λr I H=>?_;(try simp only[Ze,Zd,Zf,Zc,Zh,Zv,Za O]at H);obtain⟨m2,s8,dy,rfl,rfl⟩:=H;refine wS ?_;refine cL3 [0] (Zg9 s8 [0,m1,m2] (by simp)) λr I H=>?_;(try simp only[Ze,Zd,Zf,Zc,Zh,Zv,Za O]at H);obtain⟨mi,s9,bg,rfl,rfl⟩:=H;have bg:0<=mi/\mi<=60:=by simp at bg;omega
  refine wS ?_;refine⟨?_,?_⟩;all_goals
   (try refine wS ?_)
   refine cL3 [0] (c22 s9 1 (((G (List Sp.Call) [] A U).length:Int)-1) (by omega) (by omega)) λr I H=>?_;(try simp only[Ze,Zd,Zf,Zc,Zh,Zv,Za O]at H);obtain⟨x,s10,hx,rfl,rfl⟩:=H;refine wS ?_;refine Zjb false false [] [0,2,3,8,9,11,18,19,20,21] [] (λ(⟨j,S,u⟩:Nat×List Sp.QR×Unit)=>[(21,.int .i64 λ_=>j)])
    (λ⟨j,S,u⟩=>[(3,.cells [.isl 2 (λ_=>1) (λe=>encZone (G Zone default [z] (e ()))) .none,.isl 3 (λ_=>(old.length:Int)) (λe=>encTrain (G Train default old (e ()))) .none,.isl 0 (λ_=>0) (λ_=>[]) .nil,.int .i64 λ_=>1,.int .i64 λ_=>0,.isl 2 (λ_=>(rs.length:Int)) (λe=>Zh (G Sp.Z3 default rs (e ()))) .none,.isl 4 (λ_=>(S.length:Int)) (λe=>QM (G Sp.QR default S (e ()))) (.own 4),.isl 0 (λ_=>0) (λ_=>[]) .nil]),(4,.tok 4 λ_=>(S.length:Int))])
    (λ⟨j,S,u⟩=>LOk (Qf A) S/\(S.length:Int)<=waits/\((S.length:Int)<waits\/(S.any λq=>decide (q.feeder=U/\q.train=tr/\q.station=(G Sp.Call default (G (List Sp.Call) [] A U) x).station))=true)) (λq=>(G (List Sp.Call) [] A tr).length-q.1+0) (0,S,()) ⟨bq,bx,.inl dl.2⟩ ?_ ?_
   ·exact ZG
   intro j Y u al;have ac:LOk (Qf A) Y:=al.1;have ai:(Y.length:Int)<=waits:=al.2.1;have aj:=al.2.2;clear al;refine wS ?_;refine⟨λbe=>?_,λbe=>?_⟩
   ·have ar:(j:Int)<((G (List Sp.Call) [] A tr).length:Int)-1/\U≠tr:=by
     by_cases h0:(j:Int)<((G (List Sp.Call) [] A tr).length:Int)-1<;>simp[h0]at be<;>exact⟨h0,be⟩
    refine wS ?_;generalize aa:(bif (G Sp.Call default (G (List Sp.Call) [] A tr) (j:Int)).station==(G Sp.Call default (G (List Sp.Call) [] A U) x).station then decide ((G Sp.Call default (G (List Sp.Call) [] A U) x).arrive<=(G Sp.Call default (G (List Sp.Call) [] A tr) (j:Int)).depart)else false)=c7;refine⟨λh7=>?_,λh7=>?_⟩
    ·subst h7;have h8:(G Sp.Call default (G (List Sp.Call) [] A tr) (j:Int)).station=(G Sp.Call default (G (List Sp.Call) [] A U) x).station/\(G Sp.Call default (G (List Sp.Call) [] A U) x).arrive<=(G Sp.Call default (G (List Sp.Call) [] A tr) (j:Int)).depart:=by
      by_cases h0:(G Sp.Call default (G (List Sp.Call) [] A tr) (j:Int)).station=(G Sp.Call default (G (List Sp.Call) [] A U) x).station
      ·simp only[h0,beq_self_eq_true,cond_true,iR]at aa;exact⟨h0,aa⟩
      have h1:((G Sp.Call default (G (List Sp.Call) [] A tr) (j:Int)).station==(G Sp.Call default (G (List Sp.Call) [] A U) x).station)=false:=by simpa using h0
      rw[h1]at aa;cases aa
     clear aa;have k:=Zyh Y ⟨U,tr,(G Sp.Call default (G (List Sp.Call) [] A U) x).station,mi⟩ (by omega);dsimp only at k;generalize hE:(Y.any λq=>decide (q.feeder=U/\q.train=tr/\q.station=(G Sp.Call default (G (List Sp.Call) [] A U) x).station))=E at k;simp only[Za O]at k;refine wS ?_;refine ZbH k (by((refine To.of [] ?_;cbv;(try simp only[nc]);(repeat' first|exact xT|refine⟨?_,?_⟩|refine ZM.cells ?_|refine ZC.agg ?_|refine ZC.tup ?_);all_goals try exact XZ);all_goals exact .none rfl λ_ _=>rfl)) rfl λr I H=>?_;obtain⟨rfl,rfl⟩:=H;refine wS ?_;refine⟨λh9=>?_,λh9=>?_⟩
     ·have h9:E=false:=by
       cases E
       ·rfl
       cases h9
      have dv:(Y.length:Int)<waits:=by
       rcases aj with h|h
       ·exact h
       rw[hE,h9]at h;cases h
      have dh:1<=x.toNat/\x.toNat<(Sp.Zm A U).length:=by have h1:=hx;have h2:=c6;simp only[O]at h1 h2;unfold Sp.Zm;omega
      have cn:j+1<(Sp.Zm A tr).length:=by have:=ar.1;simp only[O]at this;unfold Sp.Zm;omega
      have cq:Qf A ⟨U,tr,(G Sp.Call default (G (List Sp.Call) [] A U) x).station,mi⟩ Y=0:=ZrN (w:=⟨U,tr,(G Sp.Call default (G (List Sp.Call) [] A U) x).station,mi⟩) V.row (i:=x.toNat) (k:=j) ⟨dk.1,by dsimp only;omega⟩ ⟨cu.1,by dsimp only;omega⟩ ar.2 dh cn (by simp only[O];rfl) (by have:=h8.1;simp only[O,aW]at this|-;exact this) (by have:=h8.2;simp only[O,aW]at this|-;exact this) bg (by dsimp only;rw[hE,h9]);have ck:=ac.snoc cq;have dj:((Y++[(⟨U,tr,(G Sp.Call default (G (List Sp.Call) [] A U) x).station,mi⟩:Sp.QR)]).length:Int)<=waits:=by rw[bf,fq];omega
      have c8:((Y++[(⟨U,tr,(G Sp.Call default (G (List Sp.Call) [] A U) x).station,mi⟩:Sp.QR)]).any λq=>decide (q.feeder=U/\q.train=tr/\q.station=(G Sp.Call default (G (List Sp.Call) [] A U) x).station))=true:=by rw[fU];simp
      refine wS ?_;refine⟨(j+1,Y++[⟨U,tr,(G Sp.Call default (G (List Sp.Call) [] A U) x).station,mi⟩],()),⟨ck,dj,.inr c8⟩,by show(G (List Sp.Call) [] A tr).length-(j+1)+0<(G (List Sp.Call) [] A tr).length-j+0;omega,?_⟩;exact ZG
     refine wS ?_;refine⟨(j+1,Y,()),⟨ac,ai,aj⟩,by show(G (List Sp.Call) [] A tr).length-(j+1)+0<(G (List Sp.Call) [] A tr).length-j+0;omega,?_⟩;exact ZG
    subst h7;clear aa;refine wS ?_;refine Br.isF rfl ?_;refine wS ?_;refine⟨(j+1,Y,()),⟨ac,ai,aj⟩,by show(G (List Sp.Call) [] A tr).length-(j+1)+0<(G (List Sp.Call) [] A tr).length-j+0;omega,?_⟩;exact ZG
   refine wS ?_;obtain⟨k,rfl⟩:∃k,i=k+1:=⟨i-1,by omega⟩;refine⟨(k,s10,Y),⟨by omega,ac,ai⟩,by show k+0<k+1+0;omega,?_⟩;exact ZG
 refine wS ?_;obtain⟨D,hD⟩:∃D:Nat,(D:Int)=delays:=⟨delays.toNat,by omega⟩;refine Zjb false false [] [0,8,9,11,23] [.tok 3 λ_=>0] (λ(⟨i,s,J⟩:Nat×Int×List Sp.ZU)=>[(23,.int .i64 λ_=>i)])
  (λ⟨i,s,J⟩=>[(0,XI s),(3,.cells [.isl 2 (λ_=>1) (λe=>encZone (G Zone default [z] (e ()))) .none,.isl 3 (λ_=>(old.length:Int)) (λe=>encTrain (G Train default old (e ()))) .none,.isl 0 (λ_=>0) (λ_=>[]) .nil,.int .i64 λ_=>1,.int .i64 λ_=>0,.isl 2 (λ_=>(rs.length:Int)) (λe=>Zh (G Sp.Z3 default rs (e ()))) .none,.isl 4 (λ_=>(S.length:Int)) (λe=>QM (G Sp.QR default S (e ()))) (.own 4),.isl 3 (λ_=>(J.length:Int)) (λe=>Zt (G Sp.ZU default J (e ()))) (.own 5)]),(5,.tok 3 λ_=>(J.length:Int))])
  (λ⟨i,s,J⟩=>i<=D/\LOk (Qy A) J/\J.length+i<=D) (λi=>i.1+0) (D,s,[]) ⟨aJ _,.nil,by simp⟩ ?_ ?_
 ·(refine To.of [(3,false)] ?_;cbv;(try simp only[nc]);(repeat' first|exact xT|refine⟨?_,?_⟩|refine ZM.cells ?_|refine ZC.agg ?_|refine ZC.tup ?_);all_goals try exact XZ)
  exact .int hD.symm
 intro i s J hq;have dq:i<=D:=hq.1;have au:LOk (Qy A) J:=hq.2.1;have dn:J.length+i<=D:=hq.2.2;clear hq;refine wS ?_;refine⟨λbw=>?_,λbw=>?_⟩
 ·simp only[iR]at bw;refine wS ?_;refine cL3 [0] (c17 s ((A.length:Int)-1) (by omega)) λr I H=>?_;(try simp only[Ze,Zd,Zf,Zc,Zh,Zv,Za O]at H);obtain⟨r,s5,c9,rfl,rfl⟩:=H;have di:=ak r (by omega) (by omega);have Z:=di.len;refine wS ?_;refine cL3 [0] (c17 s5 (((G (List Sp.Call) [] A r).length:Int)-2) (by omega)) λr I H=>?_;(try simp only[Ze,Zd,Zf,Zc,Zh,Zv,Za O]at H);obtain⟨lg,s6,bu,rfl,rfl⟩:=H;refine wS ?_;refine cL3 [0] (c17 s6 10 (by omega)) λr I H=>?_;(try simp only[Ze,Zd,Zf,Zc,Zh,Zv,Za O]at H);obtain⟨n0,s7,dz,rfl,rfl⟩:=H;refine wS ?_;refine cL3 [0] (Zg9 s7 [0,0,n0] (by simp)) λr I H=>?_;(try simp only[Ze,Zd,Zf,Zc,Zh,Zv,Za O]at H);obtain⟨nn,s8,bm,rfl,rfl⟩:=H;have bm:0<=nn/\nn<=10:=by simp at bm;omega
  refine wS ?_;refine cL3 [0] (c22 s8 1 3 (by omega) (by omega)) λr I H=>?_;(try simp only[Ze,Zd,Zf,Zc,Zh,Zv,Za O]at H);obtain⟨kk,s9,dp,rfl,rfl⟩:=H;refine wS ?_;obtain⟨kk,rfl⟩:∃q:Nat,kk=q:=⟨kk.toNat,by omega⟩;refine Zve false false [] [0,8,9,11,23,24,25,26] [.tok 1 λ_=>0] (λ(⟨k,n,s,b⟩:Nat×Int×Int×List Int)=>[(25,.int .i64 λ_=>n),(26,.int .i64 λ_=>k)])
   (λ⟨k,n,s,b⟩=>[(0,XI s),(6,.cells [.int .i64 λ_=>r,.int .i64 λ_=>lg,.isl 1 (λ_=>(b.length:Int)) (λe=>Xd (G Int 0 b (e ()))) (.own 7)]),(7,.tok 1 λ_=>(b.length:Int))])
   (λ⟨k,n,s,b⟩=>b.length+k=kk/\ByL b n) (λq=>q.1+0) (kk,nn,s9,[]) ⟨by simp,.nil bm⟩ ?_ ?_
  ·(refine To.of [(1,false)] ?_;cbv;(try simp only[nc]);(repeat' first|exact xT|refine⟨?_,?_⟩|refine ZM.cells ?_|refine ZC.agg ?_|refine ZC.tup ?_);all_goals try exact XZ)
  intro k n s b aw;have aq:b.length+k=kk:=aw.1;have am:ByL b n:=aw.2;clear aw;refine wS ?_;refine⟨λbl=>?_,λbl=>?_⟩
  ·simp only[iR]at bl;have du:=am.bd;refine wS ?_;refine cL3 [0] (c22 s 1 60 (by omega) (by omega)) λr I H=>?_;(try simp only[Ze,Zd,Zf,Zc,Zh,Zv,Za O]at H);obtain⟨y,s10,hy,rfl,rfl⟩:=H;refine wS ?_;refine cL3 [0] (Zg9 s10 [5,10,20,y] (by simp)) λr I H=>?_;(try simp only[Ze,Zd,Zf,Zc,Zh,Zv,Za O]at H);obtain⟨y2,cy,ba,rfl,rfl⟩:=H;have ba:1<=y2/\y2<=60:=by simp at ba;omega
   refine wS ?_;obtain⟨k,rfl⟩:∃q,k=q+1:=⟨k-1,by omega⟩;refine⟨(k,n+y2,cy,b++[n]),⟨by simp only[bf,bF,cE];omega,am.snoc (by omega) ba⟩,by show k+0<k+1+0;omega,?_⟩;exact ZG
  simp only[iS]at bl;refine wS ?_;have aq:b.length=kk:=by omega
  refine Zjb false false [] [0,8,9,11,23,24,27,28] [] (λ(⟨k,M,u⟩:Nat×Bool×Unit)=>[(27,.bool λ_=>M),(28,.int .i64 λ_=>k)])
   (λ⟨k,M,u⟩=>[(6,.cells [.int .i64 λ_=>r,.int .i64 λ_=>lg,.isl 1 (λ_=>(b.length:Int)) (λe=>Xd (G Int 0 b (e ()))) .none])])
   (λ⟨k,M,u⟩=>k<=J.length/\M=(J.take k).any λq=>decide (q.run=r/\q.leg=lg)) (λq=>J.length-q.1+0) (0,false,()) ⟨aV _,rfl⟩ ?_ ?_
  ·(refine To.of [] ?_;cbv;(try simp only[nc]);(repeat' first|exact xT|refine⟨?_,?_⟩|refine ZM.cells ?_|refine ZC.agg ?_|refine ZC.tup ?_);all_goals try exact XZ)
   all_goals exact .none rfl λ_ _=>rfl
  intro k M u az;have d6:k<=J.length:=az.1;have hM:M=(J.take k).any λq=>decide (q.run=r/\q.leg=lg):=az.2;clear az;refine wS ?_;refine⟨λbk=>?_,λbk=>?_⟩
  ·simp only[iR]at bk;have ae:=Zop (p:=λq:Sp.ZU=>decide (q.run=r/\q.leg=lg)) (d:=default) (l:=J) (k:=k) (by omega);have bt:decide ((J.getD k default).run=r/\(J.getD k default).leg=lg)=(bif (J.getD k default).run==r then(J.getD k default).leg==lg else false):=ZtA _ _ _ _;have cr:J.getD k default=G Sp.ZU default J (k:Int):=by rw[O];rfl
   rw[cr]at bt ae;rw[<-hM]at ae;cases M
   ·refine wS ?_;refine⟨(k+1,(bif (G Sp.ZU default J (k:Int)).run==r then(G Sp.ZU default J (k:Int)).leg==lg else false),()),⟨by omega,by rw[ae];exact bt.symm⟩,by show J.length-(k+1)+0<J.length-k+0;omega,?_⟩;exact ZG
   refine wS ?_;refine⟨(k+1,true,()),⟨by omega,by rw[ae];rfl⟩,by show J.length-(k+1)+0<J.length-k+0;omega,?_⟩;exact ZG
  simp only[iS]at bk;have hM:M=J.any λq=>decide (q.run=r/\q.leg=lg):=by rw[hM,List.take_of_length_le (by omega)]
  refine wS ?_;obtain⟨i,rfl⟩:∃q,i=q+1:=⟨i-1,by omega⟩;refine⟨λao=>?_,λao=>?_⟩
  ·have ao:M=false:=by
    cases M
    ·rfl
    cases ao
   rw[ao]at hM;have ci:Qy A ⟨r,lg,b⟩ J=0:=Zq5 (d:=⟨r,lg,b⟩) ⟨c9.1,by dsimp only;omega⟩ ⟨bu.1,by have h1:=bu.2;have h2:=Z;simp only[O]at h1 h2;unfold Sp.Zm;dsimp only;omega⟩ ⟨by dsimp only;omega,by dsimp only;omega⟩ am.rng am.asc hM.symm;have bp:=au.snoc ci;have bz:(J++[(⟨r,lg,b⟩:Sp.ZU)]).length+i<=D:=by rw[bf,fq];omega
   refine wS ?_;refine⟨(i,s,J++[⟨r,lg,b⟩]),⟨by omega,bp,bz⟩,by show i+0<i+1+0;omega,?_⟩;refine toR ?_;exact .snoc O rfl (by simp) (by unfold Zt;rw[Za O];rfl)
  refine wS ?_;refine⟨(i,s,J),⟨by omega,au,by show J.length+i<=D;omega⟩,by show i+0<i+1+0;omega,?_⟩;exact ZG
 refine wS ?_;have da:Zq ⟨Zv z old,rs,S,J⟩=0:=ZkR V.check (V.err S J) (by show S.length<=4;omega) (by rw[V.calls];exact bq) (by show J.length<=6;omega) (by rw[V.calls];exact au);refine⟨Zf ⟨Zv z old,rs,S,J⟩,[XI s],?_,⟨Zv z old,rs,S,J⟩,s,⟨⟨da,by rw[V.calls];exact V.row,aq.1,aq.2⟩,dc,bx,by show(J.length:Int)<=delays;omega⟩,rfl,rfl⟩;unfold Zf Zv;simp only[Za O];(refine To.of [] ?_;cbv;(try simp only[nc]);(repeat' first|exact xT|refine⟨?_,?_⟩|refine ZM.cells ?_|refine ZC.agg ?_|refine ZC.tup ?_);all_goals try exact XZ);all_goals exact .none rfl λ_ _=>rfl
set_option maxHeartbeats 4000000
theorem Zml (st a d:Int):SC (λ_=>aB) 126 [.int .i64 λ_=>st,.int .i64 λ_=>a,.int .i64 λ_=>d] [] λv h=>v= .agg (Q5 (ZdV st a d))/\h=[]:=by
 unfold Q5 ZdV;refine SC.less (QO Tryz.func126 (body:=Zj Tryz.f126) rfl (by decide+kernel) ?_);refine wS ?_;refine⟨_,[],?_,rfl,rfl⟩;exact ZG
theorem Zvw (a b:Int):SC (λ_=>aB) 64 [.int .i64 λ_=>a,.int .i64 λ_=>b] [] λv h=>v= .agg (encSp ⟨a,b⟩)/\h=[]:=by
 unfold encSp;refine SC.less (QO Tryz.func64 (body:=Zj Tryz.f64) rfl (by decide+kernel) ?_);refine wS ?_;refine⟨_,[],?_,rfl,rfl⟩;exact ZG
theorem Zxb:SC (λ_=>aB) 70 [] [] λv h=>v=Qa Zkr/\h=[]:=by
 obtain⟨A,O⟩:=Zn;unfold Qa;simp only[Za O];refine SC.less (QO Tryz.func70 (body:=Zj Tryz.f70) rfl (by decide+kernel) ?_);refine wS ?_;refine⟨_,[],?_,rfl,rfl⟩;exact ZG
theorem Zyj:SC (λ_=>aB) 71 [] [] λv h=>v=Qa Zn3/\h=[]:=by
 obtain⟨H,O⟩:=Zn;have k:=Zxb;have U:Zn3.steps=Zkr.steps.take 2:=rfl;have e:Qa Zn3= .agg [.int .i64 λ_=>0,.int .i64 λ_=>0,.int .i64 λ_=>3,lst 3 QU default (Zkr.steps.take 2)]:=rfl;rw[e];unfold Qa at k;simp only[Za O]at k|-;have A:Zkr.steps.length=3:=rfl;generalize Zkr.steps=S at*;refine SC.less (QO Tryz.func71 (body:=Zj Tryz.f71) rfl (by decide+kernel) ?_);refine wS ?_;refine ZL (k) (by first|rfl|(simp only[Ze,Zd,Zf,Zc,Za O];rfl)) λr J G=>?_;(try simp only[Ze,Zd,Zf,Zc,Za O]at G);obtain⟨rfl,rfl⟩:=G;refine wS ?_;refine⟨_,[],?_,rfl,rfl⟩;refine toR ?_;refine .isl (by show(2:Int)=((S.take 2).length:Int);rw[bT,A];rfl) λi I=>?_;have I:(i:Int)<2:=I;show QU (H Sp.Step default S (i:Int))=QU (H Sp.Step default (S.take 2) (i:Int));rw[O,O,aW,aA,aA,cR,iQ (by omega)]
theorem Zvr (t:Zb) (hf:Zz t) (H J Y I U S V:Nat->Zi) (stop:Nat->Bool)
  (hs:∀i X,sel true [0,1,2,3,4,5,6] [H i,J i,Y i,I i,U i,S i,V i,X]=[H i,J i,Y i,I i,U i,S i,V i])
  (ah:∀i (f0 f1 f2 f3 f4 f5:Unit->Int),sel true [0,1,2,3,4,5,6,7] [H i,J i,Y i,I i,U i,S i,V i,.cells [.int .i64 f0,.int .i64 f1,.int .i64 f2,.int .i64 f3,.int .i64 f4,.int .i64 f5]]=[H i,J i,Y i,I i,U i,S i,V i,.cells [.int .i64 f0,.int .i64 f1,.int .i64 f2,.int .i64 f3,.int .i64 f4,.int .i64 f5]])
  (al:∀i X,sel false [0,1,2,3,4,5,6] [H i,J i,Y i,I i,U i,S i,V i,X]=[H i,J i,Y i,I i,U i,S i,V i])
  (ao:∀i j X,back [0,1,2,3,4,5,6] [H i,J i,Y i,I i,U i,S i,V i,X] [H j,J j,Y j,I j,U j,S j,V j]=[H j,J j,Y j,I j,U j,S j,V j,X])
  (hy:∀i,i<manyT t->(∀j,j<i->stop j=false)->YC (λ_=>aB) 6 [.agg (YB (Zk t i))] [H i,J i,Y i,I i,U i,S i,V i] λv h=>v= .bool (λ_=> !stop i)/\h=[H (i+1),J (i+1),Y (i+1),I (i+1),U (i+1),S (i+1),V (i+1)])
  (hB:zOk [H 0,J 0,Y 0,I 0,U 0,S 0,V 0]=true:=by rfl):
  SC (λ_=>aB) 176 [.yld 6,YA t] [H 0,J 0,Y 0,I 0,U 0,S 0,V 0] λv h=>∃m,EndAt stop (manyT t) m/\h=[H m,J m,Y m,I m,U m,S m,V m]:=by
 obtain⟨nt,O⟩:=Zn;have ae:=YT hf;have ai:=λn=> @Zdy t hf n;have au:=Zka hf;have a9:=hf.dlen;have aq:=Zdx hf;have ac:∀k,k<t.delays.length->lenAt t.delays k<=3:=λk h=>by
  unfold lenAt;rw[aA,aC h];exact(hf.d _ (bL h)).2.1
 have ap:∀k:Nat,(nt Sp.ZU default t.delays (k:Int)).by_.length=lenAt t.delays k:=λk=>by rw[O];rfl
 have ar:∀n k,0<=(Zk t n).getD k 0/\(Zk t n).getD k 0<=3:=λn k=>by
  by_cases h:k<t.delays.length
  ·have h1:=(ae n).d k h;have h2:=ac k h;unfold lenAt at h2;omega
  have:=Za7 (ds:=t.delays) t.delays.length n k (by omega);unfold Zk;omega
 generalize manyT t=N at*;generalize Zk t=TA at*;unfold YA Z1;simp only[Za O,Zc,Zt];refine QO Tryz.func176 (body:=Zj Tryz.f176) rfl (by decide+kernel) ?_ hB;refine wS ?_;refine ZJ false false [] [0,1,3] [] (λ(i:Nat)=>[]) (λi=>[(0,H i),(1,J i),(2,Y i),(3,I i),(4,U i),(5,S i),(6,V i),(7,.cells (YB (TA i)))]) (λi=>i<N/\∀j,j<i->stop j=false) (λi=>N-i+0) 0 ⟨by omega,λj h=>by omega⟩ ?_ ?_
 ·unfold YB;rw[aq];have A:=ah 0 (λ_=>0) (λ_=>0) (λ_=>0) (λ_=>0) (λ_=>0) (λ_=>0);cbv at A;simp only[cB,and_true]at A;obtain⟨e0,e1,e2,e3,e4,e5,e6⟩:=A;(refine To.of [] ?_;cbv;(try simp only[nc]);(repeat' first|exact xT|refine⟨?_,?_⟩|refine ZM.cells ?_|refine ZC.agg ?_|refine ZC.tup ?_);all_goals try exact XZ);all_goals first|(rw[e0];exact ZM.refl _)|(rw[e1];exact ZM.refl _)|(rw[e2];exact ZM.refl _)|(rw[e3];exact ZM.refl _)|(rw[e4];exact ZM.refl _)|(rw[e5];exact ZM.refl _)|(rw[e6];exact ZM.refl _)
 intro i hh;unfold YB at*;refine wS ?_;have hi:=hh.1;have ab:=hh.2;have G:=ai i hi;refine YC.frameB [0,1,2,3,4,5,6] (by decide) (by simp) rfl rfl (al i _) (hy i hi ab) (ao i (i+1) _) ?_;refine wS ?_;refine⟨λaa=>?_,λaa=>?_⟩
 ·have aa:stop i=true:=by simpa using aa
  have A:=λX=>hs (i+1) X;refine wS ?_;refine⟨i+1,.inr ⟨i,rfl,hi,aa,ab⟩,?_⟩;have A:=A (.cells [.int .i64 λ_=>(TA i).getD 0 0,.int .i64 λ_=>(TA i).getD 1 0,.int .i64 λ_=>(TA i).getD 2 0,.int .i64 λ_=>(TA i).getD 3 0,.int .i64 λ_=>(TA i).getD 4 0,.int .i64 λ_=>(TA i).getD 5 0]);cbv at A;simp only[cB,and_true]at A|-;exact A
 have aa:stop i=false:=by simpa using aa
 refine wS ?_;refine X3 λQ hQ=>?_;refine ZJ false false [] [0,1,3,4] [] (λp:Nat×List Int=>[(4,.int .i64 λ_=>(p.1:Int)-1)]) (λp=>[(7,.cells [.int .i64 λ_=>p.2.getD 0 0,.int .i64 λ_=>p.2.getD 1 0,.int .i64 λ_=>p.2.getD 2 0,.int .i64 λ_=>p.2.getD 3 0,.int .i64 λ_=>p.2.getD 4 0,.int .i64 λ_=>p.2.getD 5 0])])
  (λp=>p.1<=t.delays.length/\p.2.length=6/\(∀k,0<=p.2.getD k 0/\p.2.getD k 0<=3)/\Sp.stepT t.delays t.delays.length (TA i)=Sp.stepT t.delays p.1 p.2) (λp=>p.1+0) (t.delays.length,TA i) ⟨aJ _,(ae i).len,ar i,rfl⟩ ?_ ?_
 ·exact ZG
 intro p hp;refine vS ?_;have hm:=hp.1;have am:=hp.2.1;have ak:=hp.2.2.1;have Z:=hp.2.2.2;clear hp;by_cases h0:p.1=0
 ·rw[h0,Sp.stepT]at Z;rw[Z]at G;have aw:¬i+1<N:=λh=>by rw[iQ h]at G;cases G
  refine Chk.mk (ZH) ?_;refine Br.isF (by show(bif decide (0<=(p.1:Int)-1)then _ else false)=false;rw[iW (by omega)];rfl) ?_;refine wS ?_;refine hQ _ _ _ ?_;refine wS ?_;refine Br.isT (iX (by show(p.1:Int)-1<0;omega)) ?_;refine wS ?_;have A:=hs (i+1) (.cells [.int .i64 λ_=>p.2.getD 0 0,.int .i64 λ_=>p.2.getD 1 0,.int .i64 λ_=>p.2.getD 2 0,.int .i64 λ_=>p.2.getD 3 0,.int .i64 λ_=>p.2.getD 4 0,.int .i64 λ_=>p.2.getD 5 0]);cbv at A;simp only[cB,and_true]at A;refine⟨i+1,.inl ⟨by omega,λj hj=>?_⟩,?_⟩
  ·by_cases h:j=i
   ·rw[h];exact aa
   exact ab j (by omega)
  simp only[cB,and_true];exact A
 obtain⟨k,hk⟩:∃k,p.1=k+1:=⟨p.1-1,by omega⟩;have e1:=ZfH (x:=p.2) (e:=(p.1:Int)-1) (i:=k) (by omega) (by omega);have e2:(nt Sp.ZU default t.delays ((p.1:Int)-1)).by_.length=lenAt t.delays k:=by rw[show(p.1:Int)-1=(k:Int) by omega];exact ap k
 have ba:=ac k (by omega);have az:=ak k;refine Chk.mk (ZH) ?_;refine⟨λh1=>?_,λh1=>?_⟩
 ·have h1:p.2.getD k 0=(lenAt t.delays k:Int)-1:=by
   rw[iX (by omega),e1,e2]at h1;exact eq_of_beq h1
  rw[hk,Sp.stepT,iQ h1]at Z;refine wS ?_;refine⟨(k,p.2.set k 0),⟨by show k<=_;omega,by show(p.2.set k 0).length=6;rw[bW];exact am,λj=>?_,Z⟩,by show k+0<p.1+0;omega,?_⟩
  ·show 0<=(p.2.set k 0).getD j 0/\(p.2.set k 0).getD j 0<=3;rw[<-Z9 (e:=(k:Int)) rfl (by omega)];have:=ak j;cases decide ((k:Int)=j)
   ·exact this
   exact⟨bR _,by show(0:Int)<=3;decide⟩
  have g0:=Z9 (x:=p.2) (e:=(p.1:Int)-1) (k:=k) (j:=0) (v:=0) (by omega) (by omega);have g1:=Z9 (x:=p.2) (e:=(p.1:Int)-1) (k:=k) (j:=1) (v:=0) (by omega) (by omega);have g2:=Z9 (x:=p.2) (e:=(p.1:Int)-1) (k:=k) (j:=2) (v:=0) (by omega) (by omega);have g3:=Z9 (x:=p.2) (e:=(p.1:Int)-1) (k:=k) (j:=3) (v:=0) (by omega) (by omega);have g4:=Z9 (x:=p.2) (e:=(p.1:Int)-1) (k:=k) (j:=4) (v:=0) (by omega) (by omega);have g5:=Z9 (x:=p.2) (e:=(p.1:Int)-1) (k:=k) (j:=5) (v:=0) (by omega) (by omega);have A:=ah (i+1) (λ_=>bif decide ((p.1:Int)-1=((0:Nat):Int))then 0 else p.2.getD 0 0) (λ_=>bif decide ((p.1:Int)-1=((1:Nat):Int))then 0 else p.2.getD 1 0) (λ_=>bif decide ((p.1:Int)-1=((2:Nat):Int))then 0 else p.2.getD 2 0) (λ_=>bif decide ((p.1:Int)-1=((3:Nat):Int))then 0 else p.2.getD 3 0) (λ_=>bif decide ((p.1:Int)-1=((4:Nat):Int))then 0 else p.2.getD 4 0) (λ_=>bif decide ((p.1:Int)-1=((5:Nat):Int))then 0 else p.2.getD 5 0);cbv at A;simp only[cB,and_true]at A;obtain⟨e3,e4,e5,e6,e7,e8,e9⟩:=A;(refine To.of [] ?_;cbv;(try simp only[nc]);(repeat' first|exact xT|refine⟨?_,?_⟩|refine ZM.cells ?_|refine ZC.agg ?_|refine ZC.tup ?_);all_goals try exact XZ);all_goals first|(rw[e3];exact ZM.refl _)|(rw[e4];exact ZM.refl _)|(rw[e5];exact ZM.refl _)|(rw[e6];exact ZM.refl _)|(rw[e7];exact ZM.refl _)|(rw[e8];exact ZM.refl _)|(rw[e9];exact ZM.refl _)
 have h1:p.2.getD k 0≠(lenAt t.delays k:Int)-1:=by
  rw[iX (by omega),e1,e2]at h1;exact ne_of_beq_false h1
 rw[hk,Sp.stepT,iP h1]at Z;rw[Z]at G;have aj:i+1<N:=by
  by_cases h:i+1<N
  ·exact h
  rw[iP h]at G;cases G
 rw[iQ aj]at G;have G:=Option.some.inj G;refine wS ?_;refine hQ _ _ _ ?_;refine wS ?_;refine Br.isF (iW (by show¬(p.1:Int)-1<0;omega)) ?_;refine vS ?_;simp only[e1];refine Chk.mk (ZH) ?_;have A:=ah (i+1) (λ_=>bif decide ((p.1:Int)-1=((0:Nat):Int))then p.2.getD k 0+1 else p.2.getD 0 0) (λ_=>bif decide ((p.1:Int)-1=((1:Nat):Int))then p.2.getD k 0+1 else p.2.getD 1 0) (λ_=>bif decide ((p.1:Int)-1=((2:Nat):Int))then p.2.getD k 0+1 else p.2.getD 2 0) (λ_=>bif decide ((p.1:Int)-1=((3:Nat):Int))then p.2.getD k 0+1 else p.2.getD 3 0) (λ_=>bif decide ((p.1:Int)-1=((4:Nat):Int))then p.2.getD k 0+1 else p.2.getD 4 0) (λ_=>bif decide ((p.1:Int)-1=((5:Nat):Int))then p.2.getD k 0+1 else p.2.getD 5 0);cbv at A;simp only[cB,and_true]at A;obtain⟨e3,e4,e5,e6,e7,e8,e9⟩:=A;refine⟨i+1,⟨aj,λj hj=>?_⟩,by show N-(i+1)+0<N-i+0;omega,?_⟩
 ·by_cases h:j=i
  ·rw[h];exact aa
  exact ab j (by omega)
 rw[<-G];have g0:=Z9 (x:=p.2) (e:=(p.1:Int)-1) (k:=k) (j:=0) (v:=p.2.getD k 0+1) (by omega) (by omega);have g1:=Z9 (x:=p.2) (e:=(p.1:Int)-1) (k:=k) (j:=1) (v:=p.2.getD k 0+1) (by omega) (by omega);have g2:=Z9 (x:=p.2) (e:=(p.1:Int)-1) (k:=k) (j:=2) (v:=p.2.getD k 0+1) (by omega) (by omega);have g3:=Z9 (x:=p.2) (e:=(p.1:Int)-1) (k:=k) (j:=3) (v:=p.2.getD k 0+1) (by omega) (by omega);have g4:=Z9 (x:=p.2) (e:=(p.1:Int)-1) (k:=k) (j:=4) (v:=p.2.getD k 0+1) (by omega) (by omega);have g5:=Z9 (x:=p.2) (e:=(p.1:Int)-1) (k:=k) (j:=5) (v:=p.2.getD k 0+1) (by omega) (by omega);(refine To.of [] ?_;cbv;(try simp only[nc]);(repeat' first|exact xT|refine⟨?_,?_⟩|refine ZM.cells ?_|refine ZC.agg ?_|refine ZC.tup ?_);all_goals try exact XZ);all_goals first|(rw[e3];exact ZM.refl _)|(rw[e4];exact ZM.refl _)|(rw[e5];exact ZM.refl _)|(rw[e6];exact ZM.refl _)|(rw[e7];exact ZM.refl _)|(rw[e8];exact ZM.refl _)|(rw[e9];exact ZM.refl _)
theorem Ztl (t:Zb) (hf:Zz t) (G I V H S J U:Nat->Zi) (stop:Nat->Bool)
  (h0:∀i,QT 7 (G i)) (h1:∀i,QT 7 (I i)) (h2:∀i,QT 7 (V i)) (h3:∀i,QT 7 (H i)) (h4:∀i,QT 7 (S i)) (h5:∀i,QT 7 (J i)) (h6:∀i,QT 7 (U i))
  (hy:∀i,i<manyT t->(∀j,j<i->stop j=false)->YC (λ_=>aB) 6 [.agg (YB (Zk t i))] [G i,I i,V i,H i,S i,J i,U i] λv h=>v= .bool (λ_=> !stop i)/\h=[G (i+1),I (i+1),V (i+1),H (i+1),S (i+1),J (i+1),U (i+1)]):
  SC (λ_=>aB) 176 [.yld 6,YA t] [G 0,I 0,V 0,H 0,S 0,J 0,U 0] λv h=>∃m,EndAt stop (manyT t) m/\h=[G m,I m,V m,H m,S m,J m,U m]:=by
 have A:∀j,j<7->Qx j [0,1,2,3,4,5,6] 0=some j:=by decide
 have Y:∀j,j<7->Qx j [0,1,2,3,4,5,6,7] 0=some j:=by decide
 have Z:∀j,j<7->Jg [0,1,2,3,4,5,6] 8 j=j:=by decide
 refine Zvr t hf G I V H S J U stop (λi X=>?_) (λi f0 f1 f2 f3 f4 f5=>?_) (λi X=>?_) (λi j X=>?_) hy (Zed λb hb=>?_)
 ·show [ZT true _ _ (G i),ZT true _ _ (I i),ZT true _ _ (V i),ZT true _ _ (H i),ZT true _ _ (S i),ZT true _ _ (J i),ZT true _ _ (U i)]=_;rw[(h0 i).s _ _ _ A,(h1 i).s _ _ _ A,(h2 i).s _ _ _ A,(h3 i).s _ _ _ A,(h4 i).s _ _ _ A,(h5 i).s _ _ _ A,(h6 i).s _ _ _ A]
 ·show [ZT true _ _ (G i),ZT true _ _ (I i),ZT true _ _ (V i),ZT true _ _ (H i),ZT true _ _ (S i),ZT true _ _ (J i),ZT true _ _ (U i),_]=_;rw[(h0 i).s _ _ _ Y,(h1 i).s _ _ _ Y,(h2 i).s _ _ _ Y,(h3 i).s _ _ _ Y,(h4 i).s _ _ _ Y,(h5 i).s _ _ _ Y,(h6 i).s _ _ _ Y];rfl
 ·show [ZT false _ _ (G i),ZT false _ _ (I i),ZT false _ _ (V i),ZT false _ _ (H i),ZT false _ _ (S i),ZT false _ _ (J i),ZT false _ _ (U i)]=_;rw[(h0 i).s _ _ _ A,(h1 i).s _ _ _ A,(h2 i).s _ _ _ A,(h3 i).s _ _ _ A,(h4 i).s _ _ _ A,(h5 i).s _ _ _ A,(h6 i).s _ _ _ A]
 ·show [XE (Jg [0,1,2,3,4,5,6] 8) (G j),XE (Jg [0,1,2,3,4,5,6] 8) (I j),XE (Jg [0,1,2,3,4,5,6] 8) (V j),XE (Jg [0,1,2,3,4,5,6] 8) (H j),XE (Jg [0,1,2,3,4,5,6] 8) (S j),XE (Jg [0,1,2,3,4,5,6] 8) (J j),XE (Jg [0,1,2,3,4,5,6] 8) (U j),X]=_;rw[(h0 j).r _ Z,(h1 j).r _ Z,(h2 j).r _ Z,(h3 j).r _ Z,(h4 j).r _ Z,(h5 j).r _ Z,(h6 j).r _ Z]
 simp only[bG,dM,or_false]at hb;rcases hb with rfl|rfl|rfl|rfl|rfl|rfl|rfl
 ·exact(h0 0).z
 ·exact(h1 0).z
 ·exact(h2 0).z
 ·exact(h3 0).z
 ·exact(h4 0).z
 ·exact(h5 0).z
 exact(h6 0).z
theorem Zvs (t:Zb) (hf:Zz t) (A H J G I:Nat->Zi) (stop:Nat->Bool)
  (h0:∀i,QT 5 (A i)) (h1:∀i,QT 5 (H i)) (Z:∀i,QT 5 (J i)) (h3:∀i,QT 5 (G i)) (h4:∀i,QT 5 (I i))
  (hy:∀i,i<manyT t->(∀j,j<i->stop j=false)->YC (λ_=>aB) 4 [.agg (YB (Zk t i)),.imap 2 3 λ_=>Qu t (Zk t i)] [A i,H i,J i,G i,I i] λv h=>v= .bool (λ_=> !stop i)/\h=[A (i+1),H (i+1),J (i+1),G (i+1),I (i+1)]):
  SC (λ_=>aB) 135 [.yld 4,YA t] [A 0,H 0,J 0,G 0,I 0] λv h=>∃m,EndAt stop (manyT t) m/\h=[A m,H m,J m,G m,I m]:=by
 obtain⟨nt,O⟩:=Zn;have S:∀j,j<5->Qx j [0,1,2,3,4] 0=some j:=by decide
 have p5:∀j,j<5->Qx j [0,1,2,3,4,5] 0=some j:=by decide
 have p6:∀j,j<5->Qx j [0,1,2,3,4,5,6] 0=some j:=by decide
 have f7:∀j,j<5->Jg [0,1,2,3,4] 8 j=j:=by decide
 have ak:∀i X4 X5 X6,sel false [0,1,2,3,4] [A i,H i,J i,G i,I i,X4,X5,X6]=[A i,H i,J i,G i,I i]:=λi X4 X5 X6=>by
  show [ZT false _ _ (A i),ZT false _ _ (H i),ZT false _ _ (J i),ZT false _ _ (G i),ZT false _ _ (I i)]=_;rw[(h0 i).s _ _ _ S,(h1 i).s _ _ _ S,(Z i).s _ _ _ S,(h3 i).s _ _ _ S,(h4 i).s _ _ _ S]
 have am:∀i j X4 X5 X6,back [0,1,2,3,4] [A i,H i,J i,G i,I i,X4,X5,X6] [A j,H j,J j,G j,I j]=[A j,H j,J j,G j,I j,X4,X5,X6]:=λi j X4 X5 X6=>by
  show [XE (Jg [0,1,2,3,4] 8) (A j),XE (Jg [0,1,2,3,4] 8) (H j),XE (Jg [0,1,2,3,4] 8) (J j),XE (Jg [0,1,2,3,4] 8) (G j),XE (Jg [0,1,2,3,4] 8) (I j),X4,X5,X6]=_;rw[(h0 j).r _ f7,(h1 j).r _ f7,(Z j).r _ f7,(h3 j).r _ f7,(h4 j).r _ f7]
 have e5:∀m L,sel true (aT 6) [A m,H m,J m,G m,I m,.cells [.yld 4],L]=[A m,H m,J m,G m,I m,.cells [.yld 4]]:=λm L=>by
  show [ZT true [0,1,2,3,4,5] _ (A m),ZT true [0,1,2,3,4,5] _ (H m),ZT true [0,1,2,3,4,5] _ (J m),ZT true [0,1,2,3,4,5] _ (G m),ZT true [0,1,2,3,4,5] _ (I m),_]=_;rw[(h0 m).s _ _ _ p5,(h1 m).s _ _ _ p5,(Z m).s _ _ _ p5,(h3 m).s _ _ _ p5,(h4 m).s _ _ _ p5];rfl
 have hz:zOk [A 0,H 0,J 0,G 0,I 0]=true:=Zed λb U=>by
  simp only[bG,dM,or_false]at U;rcases U with rfl|rfl|rfl|rfl|rfl
  ·exact(h0 0).z
  ·exact(h1 0).z
  ·exact(Z 0).z
  ·exact(h3 0).z
  exact(h4 0).z
 have al:∀i a s d,zOk [A i,H i,J i,G i,I i,.cells a,.loop s d]=true:=λi a s d=>Zed λb U=>by
  simp only[bG,dM,or_false]at U;rcases U with rfl|rfl|rfl|rfl|rfl|rfl|rfl
  ·exact(h0 i).z
  ·exact(h1 i).z
  ·exact(Z i).z
  ·exact(h3 i).z
  ·exact(h4 i).z
  ·rfl
  rfl
 have aj:=Zw0 t;have ac:=λs ps a x g4 g5=>Ztl t hf A H J G I (λ_=>.cells [.yld 4]) (λm=>.loop s ⟨ps,a,x,bif QZ stop m then .done else .ready,bif QZ stop m then some .ret else none⟩) stop (λi=>(h0 i).mono (by decide)) (λi=>(h1 i).mono (by decide)) (λi=>(Z i).mono (by decide)) (λi=>(h3 i).mono (by decide)) (λi=>(h4 i).mono (by decide)) g4 g5;have ah:=λi=>ZwZ t (Zk t i) hf (YT hf i);generalize Zk t=TA at*;generalize Qu t=HL at*;generalize manyT t=N at*;unfold YA Z1 YB at*;simp only[Za O,Zc,Zt]at*;refine QO Tryz.func135 (body:=Zj Tryz.f135) rfl (by decide+kernel) ?_ hz;refine wS ?_;refine ZL (aj) (by first|rfl|(simp only[Ze,Zd,Zf,Zc,Za O];rfl)) λr ae V=>?_;(try simp only[Ze,Zd,Zf,Zc,Za O]at V);obtain⟨rfl,rfl⟩:=V;refine wS ?_;refine Zqn (fid:=176) (first:=[]) rfl Yp ?_;refine SC.mono (ac _ _ _ _ ?_ ?_ ?_) ?_
 ·exact λi=>⟨λfz ι h V=>by simp only[ZT,QE,eN,V 4 (by decide)],λφ V=>by simp only[XE,ren,eN,V 4 (by decide)],rfl⟩
 ·exact λi=>⟨λfz ι h V=>by simp only[ZT,QE,eN,V 4 (by decide),V 5 (by decide)],λφ V=>by simp only[XE,ren,eN,V 4 (by decide),V 5 (by decide)],rfl⟩
 ·intro i hi Y;have aa:QZ stop i=false:=by
   cases i with
   |zero=>rfl
   |succ j=>exact Y j (by omega)
  simp only[aa,cond_false];refine YC.less (Zdc false false [] rfl rfl ?_ (al i _ _ _));refine wS ?_;refine ZL (ah i) (by first|rfl|(simp only[Ze,Zd,Zf,Zc,Za O];rfl)) λr ae V=>?_;(try simp only[Ze,Zd,Zf,Zc,Za O]at V);obtain⟨rfl,rfl⟩:=V;refine wS ?_;refine YC.frameB [0,1,2,3,4] (by decide) (by simp) rfl rfl (ak i _ _ _) (hy i hi Y) (am i (i+1) _ _ _) ?_;refine wS ?_;refine⟨λU=>?_,λU=>?_⟩
  ·have U:stop i=true:=by simpa using U
   have ab:QZ stop (i+1)=true:=U;refine wS ?_;simp only[ab,cond_true];refine⟨.bool λ_=> !stop i,_,?_,rfl,rfl⟩;(refine To.of [] ?_;cbv;(try simp only[nc]);(repeat' first|exact xT|refine⟨?_,?_⟩|refine ZM.cells ?_|refine ZC.agg ?_|refine ZC.tup ?_);all_goals try exact XZ);all_goals first|exact .bool (by rw[U];rfl)|exact(h0 _).wk p6|exact(h1 _).wk p6|exact(Z _).wk p6|exact(h3 _).wk p6|exact(h4 _).wk p6
  have U:stop i=false:=by simpa using U
  have ab:QZ stop (i+1)=false:=U;refine wS ?_;simp only[ab,cond_false];refine⟨.bool λ_=> !stop i,_,?_,rfl,rfl⟩;(refine To.of [] ?_;cbv;(try simp only[nc]);(repeat' first|exact xT|refine⟨?_,?_⟩|refine ZM.cells ?_|refine ZC.agg ?_|refine ZC.tup ?_);all_goals try exact XZ);all_goals first|exact .bool (by rw[U];rfl)|exact(h0 _).wk p6|exact(h1 _).wk p6|exact(Z _).wk p6|exact(h3 _).wk p6|exact(h4 _).wk p6
 intro v h hh;obtain⟨m,hm,rfl⟩:=hh;rcases hm with⟨hm,Y⟩|⟨j,hm,hj,aa,Y⟩
 ·have aa:QZ stop m=false:=by
   cases m with
   |zero=>rfl
   |succ j=>exact Y j (by omega)
  simp only[aa,cond_false];refine Zh4 rfl rfl rfl (e5 m _) ?_;refine wS ?_;refine⟨m,.inl ⟨hm,Y⟩,?_⟩;show [ZT true [0,1,2,3,4] _ (A m),ZT true [0,1,2,3,4] _ (H m),ZT true [0,1,2,3,4] _ (J m),ZT true [0,1,2,3,4] _ (G m),ZT true [0,1,2,3,4] _ (I m)]=_;rw[(h0 m).s _ _ _ S,(h1 m).s _ _ _ S,(Z m).s _ _ _ S,(h3 m).s _ _ _ S,(h4 m).s _ _ _ S]
 have ai:QZ stop m=true:=by rw[hm];exact aa
 simp only[ai,cond_true];refine Zh3 rfl rfl rfl (e5 m _) ?_;refine wS ?_;refine⟨m,.inr ⟨j,hm,hj,aa,Y⟩,?_⟩;show [ZT true [0,1,2,3,4] _ (A m),ZT true [0,1,2,3,4] _ (H m),ZT true [0,1,2,3,4] _ (J m),ZT true [0,1,2,3,4] _ (G m),ZT true [0,1,2,3,4] _ (I m)]=_;rw[(h0 m).s _ _ _ S,(h1 m).s _ _ _ S,(Z m).s _ _ _ S,(h3 m).s _ _ _ S,(h4 m).s _ _ _ S]
theorem Zxy (M:Nat->Bool) {i:Nat} (hi:i<4):ZjS [λ_=>M 0,λ_=>M 1,λ_=>M 2,λ_=>M 3] (i:Int)=M i:=by
 match i,hi with
 |0,_=>rfl
 |1,_=>rfl
 |2,_=>rfl
 |3,_=>rfl
theorem Zyo (t:Zb) (d:Int) (hf:Qm t):SC (λ_=>aB) 41 [Zf t,.int .i64 λ_=>d] [] λv h=>
  v= .tup [lst 1 Xd 0 (ZbL t d).1,.int .i64 λ_=>(ZbL t d).2]/\h=[]:=by
 obtain⟨nt,O⟩:=Zn;have k:=Ztq t hf;have cn:=hf.delays;have k1:=Zdp d 0 ((t.delays.length:Int)-1);by_cases V:Zq t=0
 ·have hw:=XM V;have ai:=Ztp t;have k4:=λB0 B1 B2 B3 B4 stop=>Zvs t hw B0 B1 B2 B3 B4 stop;have k5:=λB0 B1 B2 B3 B4 B5 stop=>Ztm t hw B0 B1 B2 B3 B4 B5 stop;obtain⟨F,ar,au⟩:∃F:Nat->List (List Int×List (List Int×List Int)),F 0=[]/\∀i,F (i+1)=if(Zk t i).getD d.toNat 0=0 then Jz (F i) (Sp.keyT (Zk t i)) (Qu t (Zk t i))else F i:=⟨ZaJ t d.toNat,rfl,λ_=>rfl⟩
  have ck:=hw.dlen;have bc:=λi (h:d.toNat<6)=> @Zu4 (Zk t i) d.toNat (Yc _ _) h;have bz:=λi h r=> @Zly t d.toNat i h r;have bm:=λL W r=> @Ztf L W r;have bg:=λL W S e V hn r=> @Zq7 L W S e V hn r;have ap:=λx=> @Zko t x;have aq:=λx p hp=> @Zkp t hw x p hp;have cg:∀W p,ZlX W p=(p.2.headD 0 !=((W.lookup p.1).getD []).headD 0||p.2.tail.tail.headD 0 !=((W.lookup p.1).getD []).tail.tail.headD 0):=λ_ _=>rfl;have be:=λi h0 S hS r=> @Ztg t d.toNat i h0 S hS r;have U:∀i,(Zk t i).length=6:=λi=>Yc _ _;obtain⟨H,ak,am⟩:∃M:Nat->Nat->Bool,(∀r,M 0 r=false)/\∀i r,M (i+1) r=(M i r||Zbr t d.toNat i r):=⟨ZfK t d.toNat,λ_=>rfl,λ_ _=>rfl⟩;have az:Zgu t d.toNat=((aT 4).filter λr=>H (manyT t) r).map λ(r:Nat)=>(r:Int):=by
   have e:∀n r,H n r=ZfK t d.toNat n r:=λn=>by
    induction n with
    |zero=>intro r;rw[ak];rfl
    |succ n ih=>intro r;rw[am,ih];rfl
   unfold Zgu;simp only[e]
  have ca:∀i,d.toNat<t.delays.length->(F (manyT t)).lookup (Sp.keyT ((Zk t i).set d.toNat 0))=some (Qu t ((Zk t i).set d.toNat 0)):=λi hd=>by
   have e:∀n,F n=ZaJ t d.toNat n:=λn=>by
    induction n with
    |zero=>exact ar
    |succ n ih=>rw[au,ZaJ,ih]
   rw[e];exact Zn6 hw hd
  have hE:ZbL t d=if Qq d 0 ((t.delays.length:Int)-1)then([],3)else(Zgu t d.toNat,0):=by
   unfold ZbL;rw[iP (λh=>h V)]
  unfold Q8 at k;rw[iQ V,V]at k;generalize ZbL t d=BE at*;generalize cq:cvE=J at*;generalize cj:ZlX=bx at*;generalize Zbr t d.toNat=MI at*;generalize Zk t=A at*;generalize Qu t=G at*;unfold YA Z1 Zf YB Sp.keyT at*;simp only[Za O,Zc,Zt]at*;refine SC.less (QO Tryz.func41 (body:=Zj Tryz.f41) rfl (by decide+kernel) ?_);refine wS ?_;refine Zrk (k) ?_;refine wS ?_;refine Br.isF rfl ?_;refine wS ?_;refine Zrk (k1) ?_;refine wS ?_;refine⟨λh=>?_,λh=>?_⟩
  ·rw[iQ h]at hE;subst hE;refine wS ?_;refine⟨_,[],?_,rfl,rfl⟩;exact ZG
  have hb:=QK h;rw[iP (by rw[h];exact aO)]at hE;have bh:=λi=> @ZfH (A i) d d.toNat (by omega) (by omega);refine wS ?_;refine Zrk (ai) ?_;refine wS ?_;refine Zgi [3,6,8,37] [] [(2,.gob (.mapM 6 2 3 λ_=>F 0))] (fid:=135) (first:=[]) ?_ rfl ?_ ?_
  ·rw[ar];exact ZG
  ·exact Yp
  refine SC.mono (k4 (λ_=>_) (λ_=>_) (λi=>.gob (.mapM 6 2 3 λ_=>F i)) (λ_=>_) (λ_=>_) (λ_=>false) ?_ ?_ ?_ ?_ ?_ ?_) ?_;iterate 5 exact λi=>QT.of rfl
  ·intro i hi bp;have ae:=au i;have ac:=bh i;refine YC.less (Zdc false false [] rfl rfl ?_);refine vS ?_;simp only[ac];refine Chk.mk (ZH) ?_;refine⟨λI=>?_,λI=>?_⟩
   ·have I:=eq_of_beq I;rw[iQ I]at ae;refine wS ?_;refine⟨.bool λ_=>true,_,?_,rfl,rfl⟩;rw[ae];exact ZG
   have I:=ne_of_beq_false I;rw[iP I]at ae;refine wS ?_;refine⟨.bool λ_=>true,_,?_,rfl,rfl⟩;rw[ae];exact ZG
  intro v h Z;obtain⟨m,hm,rfl⟩:=Z;have ce:m=manyT t:=by
   rcases hm with h|⟨_,_,_,h,_⟩
   ·exact h.1
   cases h
  have al:=λi=>ca i;rw[<-ce]at al;refine wS ?_;refine Zrk (ai) ?_;refine wS ?_;refine Zgi [3,8,11,48] [] [(4,.cells [.bool λ_=>H 0 0,.bool λ_=>H 0 1,.bool λ_=>H 0 2,.bool λ_=>H 0 3])] (fid:=135) (first:=[]) ?_ rfl ?_ ?_
  ·(refine To.of [] ?_;cbv;(try simp only[nc]);(repeat' first|exact xT|refine⟨?_,?_⟩|refine ZM.cells ?_|refine ZC.agg ?_|refine ZC.tup ?_);all_goals try exact XZ)
   all_goals exact .bool (by rw[ak])
  ·exact Yp
  refine SC.mono (k5 (λ_=>_) (λ_=>_) (λ_=>_) (λ_=>_) (λi=>.cells [.bool λ_=>H i 0,.bool λ_=>H i 1,.bool λ_=>H i 2,.bool λ_=>H i 3]) (λ_=>_) (λ_=>false) ?_ ?_ ?_ ?_ ?_ ?_ ?_) ?_;iterate 6 exact λi=>QT.of rfl
  ·intro i hi bp;have ao:=am i;have g0:=Z9 (x:=A i) (e:=d) (k:=d.toNat) (j:=0) (v:=0) (by omega) (by rw[U];omega);have g1:=Z9 (x:=A i) (e:=d) (k:=d.toNat) (j:=1) (v:=0) (by omega) (by rw[U];omega);have g2:=Z9 (x:=A i) (e:=d) (k:=d.toNat) (j:=2) (v:=0) (by omega) (by rw[U];omega);have g3:=Z9 (x:=A i) (e:=d) (k:=d.toNat) (j:=3) (v:=0) (by omega) (by rw[U];omega);have g4:=Z9 (x:=A i) (e:=d) (k:=d.toNat) (j:=4) (v:=0) (by omega) (by rw[U];omega);have g5:=Z9 (x:=A i) (e:=d) (k:=d.toNat) (j:=5) (v:=0) (by omega) (by rw[U];omega);refine YC.less (Zdc false false [] rfl rfl ?_);refine vS ?_;simp only[g0,g1,g2,g3,g4,g5];refine Chk.mk (ZH) ?_;have ac:=bc i (by omega);refine⟨λI=>?_,λI=>?_⟩
   ·have I:(A i).getD d.toNat 0=0:=iU (ac.symm.trans I);have bt:=bz i I;simp only[bt,eO]at ao;refine wS ?_;refine⟨.bool λ_=>true,_,?_,rfl,rfl⟩;(refine To.of [] ?_;cbv;(try simp only[nc]);(repeat' first|exact xT|refine⟨?_,?_⟩|refine ZM.cells ?_|refine ZC.agg ?_|refine ZC.tup ?_);all_goals try exact XZ);all_goals exact .bool (by rw[ao])
   have I:(A i).getD d.toNat 0≠0:=iV (ac.symm.trans I);refine wS ?_;refine ZuC false false [] [3,8,11,14,49,50,58] [] (λ_:List (List Int)×List Int×List Int=>[]) (λp=>[(4,.cells [.bool λ_=>H i 0||J (G (A i)) (G ((A i).set d.toNat 0)) p.1 0,.bool λ_=>H i 1||J (G (A i)) (G ((A i).set d.toNat 0)) p.1 1,.bool λ_=>H i 2||J (G (A i)) (G ((A i).set d.toNat 0)) p.1 2,.bool λ_=>H i 3||J (G (A i)) (G ((A i).set d.toNat 0)) p.1 3]),(8,.gob (.mapIt 2 3 (λ_=>G (A i)) (λ_=>p.1) λ_=>p.2))])
    (λ_=>True) (λp=>((G (A i)).filter λq=> !p.1.contains q.1).length+0) ([],[],[]) trivial ?_ ?_
   ·(refine To.of [] ?_;cbv;(try simp only[nc]);(repeat' first|exact xT|refine⟨?_,?_⟩|refine ZM.cells ?_|refine ZC.agg ?_|refine ZC.tup ?_);all_goals try exact XZ)
    all_goals exact .bool (by rw[bm,eO])
   intro p _;refine wS ?_;have bo:=ap (A i);have cf:=al i (by omega);refine NC.next rfl (λbk=>?_) λe ab ba=>?_
   ·have hM:∀r,H (i+1) r=(H i r||J (G (A i)) (G ((A i).set d.toNat 0)) p.1 r):=λr=>by rw[ao r,be i I p.1 bk r]
    refine wS ?_;refine Br.isF rfl ?_;refine wS ?_;refine⟨.bool λ_=>true,_,?_,rfl,rfl⟩;(refine To.of [] ?_;cbv;(try simp only[nc]);(repeat' first|exact xT|refine⟨?_,?_⟩|refine ZM.cells ?_|refine ZC.agg ?_|refine ZC.tup ?_);all_goals try exact XZ);all_goals exact .bool (by rw[hM])
   have bw:=aq (A i) e ab;have aw:=bg (G (A i)) (G ((A i).set d.toNat 0)) p.1 e ab bo;refine wS ?_;refine Br.isT rfl ?_;refine vS ?_;simp only[g0,g1,g2,g3,g4,g5,cf,Option.getD_some,bw.1];refine Chk.mk (by(try simp only[nc,XD,XC,XS,XB,Cn.p,and_true,true_and,iR,imp_self,bF,cE]);(repeat' (first|apply And.intro|intro _))<;>first|omega|assumption|exact nb1 (by assumption)|exact nb2 (by assumption)|exact nb3 (by assumption)|exact nb4 (by assumption)|(simp;done)|rfl|exact Or.inl rfl|decide+kernel|(exfalso;rename_i hx;exact absurd hx (by simp))|skip) ?_;have aj:(bif e.2.headD 0 !=((eV e.1 (G ((A i).set d.toNat 0))).getD []).headD 0 then true else e.2.tail.tail.headD 0 !=((eV e.1 (G ((A i).set d.toNat 0))).getD []).tail.tail.headD 0)=bx (G ((A i).set d.toNat 0)) e:=by
    rw[cg];cases (e.2.headD 0 !=((eV e.1 (G ((A i).set d.toNat 0))).getD []).headD 0)<;>rfl
   refine⟨λY=>?_,λY=>?_⟩
   ·have Z:=aj.symm.trans Y;have aa:∀k:Nat,(bif decide (e.1.headD 0=(k:Int))then true else(H i k||J (G (A i)) (G ((A i).set d.toNat 0)) p.1 k))=(H i k||J (G (A i)) (G ((A i).set d.toNat 0)) (p.1++[e.1]) k):=λk=>by
     rw[aw k,Z];by_cases h:e.1.headD 0=(k:Int)
     ·rw[iX h,h];simp
     rw[iW h,show(e.1.headD 0==(k:Int))=false by simpa using h];show(H i k||J (G (A i)) (G ((A i).set d.toNat 0)) p.1 k)=(H i k||(J (G (A i)) (G ((A i).set d.toNat 0)) p.1 k||false));rw[eO]
    refine vS ?_;refine Chk.mk (ZH) ?_;refine⟨(p.1++[e.1],e),trivial,by show(gO _ _).length+0<(gO _ _).length+0;exact ZmI ab ba,?_⟩;(refine To.of [] ?_;cbv;(try simp only[nc]);(repeat' first|exact xT|refine⟨?_,?_⟩|refine ZM.cells ?_|refine ZC.agg ?_|refine ZC.tup ?_);all_goals try exact XZ);all_goals exact .bool (aa _)
   have Z:=aj.symm.trans Y;have aa:∀k:Nat,(H i k||J (G (A i)) (G ((A i).set d.toNat 0)) p.1 k)=(H i k||J (G (A i)) (G ((A i).set d.toNat 0)) (p.1++[e.1]) k):=λk=>by
    rw[aw k,Z,Bool.and_false,eO]
   refine wS ?_;refine⟨(p.1++[e.1],e),trivial,by show(gO _ _).length+0<(gO _ _).length+0;exact ZmI ab ba,?_⟩;(refine To.of [] ?_;cbv;(try simp only[nc]);(repeat' first|exact xT|refine⟨?_,?_⟩|refine ZM.cells ?_|refine ZC.agg ?_|refine ZC.tup ?_);all_goals try exact XZ);all_goals exact .bool (aa _)
  intro v h Z;obtain⟨m2,bu,rfl⟩:=Z;have bl:m2=manyT t:=by
   rcases bu with h|⟨_,_,_,h,_⟩
   ·exact h.1
   cases h
  rw[<-bl]at az;generalize Zgu t d.toNat=ML at*;refine wS ?_;refine ZJ false false [] [18,84,85] [.tok 1 λ_=>0] (λp:Nat×List Int=>[(85,.int .i64 λ_=>(p.1:Int)),(18,.isl 1 (λ_=>(p.2.length:Int)) (λe=>Xd (nt Int 0 p.2 (e ()))) (.own 5))]) (λp=>[(5,.tok 1 λ_=>(p.2.length:Int))])
   (λp=>p.1<=4/\p.2.length<=p.1/\p.2=((aT p.1).filter λr=>H m2 r).map λ(r:Nat)=>(r:Int)) (λp=>4-p.1+0) (0,[]) ⟨aV _,aJ _,rfl⟩ ?_ ?_
  ·(refine To.of [(1,false)] ?_;cbv;(try simp only[nc]);(repeat' first|exact xT|refine⟨?_,?_⟩|refine ZM.cells ?_|refine ZC.agg ?_|refine ZC.tup ?_);all_goals try exact XZ)
  intro p hp;refine wS ?_;refine⟨λh1=>?_,λh1=>?_⟩
  ·simp only[iR]at h1;have bq:p.1<4:=by omega
   have a9:=hp.2.2;have ah:= @eL p.1;have ci:=hp.2.1;have b9:=Zxy (λr=>H m2 r) (i:=p.1) bq;refine vS ?_;simp only[b9];try refine Chk.mk (ZH) ?_
   refine⟨λY=>?_,λY=>?_⟩
   ·refine wS ?_;refine⟨(p.1+1,p.2++[(p.1:Int)]),⟨by show p.1+1<=4;omega,by show(p.2++[(p.1:Int)]).length<=p.1+1;rw[bf];show p.2.length+1<=_;omega,?_⟩,by show 4-(p.1+1)+0<4-p.1+0;omega,?_⟩
    ·show p.2++[(p.1:Int)]=_;rw[ah,hZ,dD,<-a9];simp[Y]
    exact ZG
   refine wS ?_;refine⟨(p.1+1,p.2),⟨by show p.1+1<=4;omega,by show p.2.length<=p.1+1;omega,?_⟩,by show 4-(p.1+1)+0<4-p.1+0;omega,?_⟩
   ·show p.2=_;rw[ah,hZ,dD,<-a9];simp[Y]
   exact ZG
  simp only[iS]at h1;have h4:p.1=4:=by have:=hp.1;omega
  have hr:p.2=ML:=by rw[hp.2.2,h4,az]
  subst hE;refine wS ?_;rw[hr];refine⟨_,[],?_,rfl,rfl⟩;exact ZG
 have hE:ZbL t d=([],Zq t):=by
  unfold ZbL;rw[iQ V]
 rw[hE];unfold Q8 at k;rw[iP V]at k;generalize Zq t=e at*;unfold Zf at*;simp only[Za O,Zc,Zt]at*;refine SC.less (QO Tryz.func41 (body:=Zj Tryz.f41) rfl (by decide+kernel) ?_);refine wS ?_;refine Zrk (k) ?_;refine wS ?_;refine⟨λh=>?_,λh=>?_⟩
 ·refine wS ?_;refine⟨_,[],?_,rfl,rfl⟩;exact ZG
 exact absurd (by simpa only[iY]using h) V
theorem PR.nilw {w:World} {ok:Nat->Nat->Nat->Prop} {s s':Nat} {m m':Unit->Int} {f G:(Unit->Int)->List AV} {v:Value} (h:PR w ok (.isl s m f .nil) v) (hm:m' ()=0):PR w ok (.isl s' m' G .none) v:=by
 cases h with
 |isl0 _ _ _ _ H A=>exact .isl0 _ _ _ _ hm rfl
 |islE _ _ _ _ a H A=>exact .islE _ _ _ _ a hm (.inl rfl)
 |isl _ _ _ _ b o len I J U S A=>rcases A with h|h<;>cases h
theorem Zxc (m:Int):SC (λ_=>aB) 69 [.int .i64 λ_=>m] [] λv h=>v=Zf (Qh m)/\h=[]:=by
 obtain⟨H,O⟩:=Zn;have I:=Zml 0 0 60;have J:=Zml 1 100 110;have S:=Zml 2 160 0;have Y:=Zml 1 0 120;have V:=Zml 3 200 0;have U:=Zml 1 0 180;have Z:=Zml 3 260 0;refine SC.less (QO Tryz.func69 (body:=Zj Tryz.f69) rfl (by decide+kernel) ?_);refine wS ?_;refine Zrk (I) ?_;refine wS ?_;refine Zrk (J) ?_;refine wS ?_;refine Zrk (S) ?_;refine wS ?_;refine Zrk (Y) ?_;refine wS ?_;refine Zrk (V) ?_;refine wS ?_;refine Zrk (U) ?_;refine wS ?_;refine Zrk (Z) ?_;refine wS ?_;refine⟨Zf (Qh m),[],?_,rfl,rfl⟩;unfold Zf;simp only[Za O,encTrain,encZone,Zt];(refine To.of [] ?_;cbv;(try simp only[nc]);(repeat' first|exact xT|refine⟨?_,?_⟩|refine ZM.cells ?_|refine ZC.agg ?_|refine ZC.tup ?_);all_goals try exact XZ)
 ·refine ZgI O (λz:Sp.Zone=>[.int .i64 λ_=>z.base,.isl 2 (λ_=>(z.chs.length:Int)) (λe=>ZaL (H Chg default z.chs (e ()))) .none]) default [⟨0,[]⟩] _ ?_ λi G=>?_
  ·rfl
  match i,G with
  |0,_=>exact Yd.two λw ok v h=>h.nilw rfl
 ·refine ZgI O (λt:Sp.Train=>[.int .i64 λ_=>t.number,.int .i64 λ_=>t.days,.isl 4 (λ_=>(t.stops.length:Int)) (λe=>Q5 (H Stop default t.stops (e ()))) .none]) default (Qh m).book.old _ ?_ λi G=>?_
  ·rfl
  match i,G with
  |0,_=>
   refine Yd.three λw ok v h=>h.wk rfl (λj A=>?_) (.inl rfl);match j,A with
   |0,_=>(rw[O];rfl)
   |1,_=>(rw[O];rfl)
   |2,_=>(rw[O];rfl)
   |j+3,A=>exact absurd A (by show¬((j+3:Nat):Int)<3;omega)
  |1,_=>
   refine Yd.three λw ok v h=>h.wk rfl (λj A=>?_) (.inl rfl);match j,A with
   |0,_=>(rw[O];rfl)
   |1,_=>(rw[O];rfl)
   |j+2,A=>exact absurd A (by show¬((j+2:Nat):Int)<2;omega)
  |2,_=>
   refine Yd.three λw ok v h=>h.wk rfl (λj A=>?_) (.inl rfl);match j,A with
   |0,_=>(rw[O];rfl)
   |1,_=>(rw[O];rfl)
   |j+2,A=>exact absurd A (by show¬((j+2:Nat):Int)<2;omega)
 refine ZgI O (λt:Sp.ZU=>[.int .i64 λ_=>t.run,.int .i64 λ_=>t.leg,.isl 1 (λ_=>(t.by_.length:Int)) (λe=>Xd (H Int 0 t.by_ (e ()))) .none]) default (Qh m).delays _ ?_ λi G=>?_
 ·rfl
 match i,G with
 |0,_=>
  refine Yd.three λw ok v h=>h.wk rfl (λj A=>?_) (.inl rfl);match j,A with
  |0,_=>(rw[O];rfl)
  |1,_=>(rw[O];rfl)
  |2,_=>(rw[O];rfl)
  |j+3,A=>exact absurd A (by show¬((j+3:Nat):Int)<3;omega)
theorem Zyl (l:List Sp.ZbV) (G:l.length<=100000):SC (λ_=>aB) 26 [lst 2 encSp default l,lst 2 encSp default l] [] λv h=>v= .bool (λ_=>true)/\h=[]:=by
 obtain⟨H,O⟩:=Zn;refine QO Tryz.func26 (body:=Zj Tryz.f26) rfl (by decide+kernel) ?_;simp only[Za O];refine wS ?_;refine Br.isF (by simp) ?_;refine wS ?_;refine ZJ false false [] [0,1,5] [] (λ(i:Nat)=>[(5,.int .i64 λ_=>(i:Int))]) (λ_=>[]) (λi=>i<=l.length) (λi=>l.length-i+0) 0 (aV _) ?_ ?_
 ·exact ZG
 intro i I;refine wS ?_;refine⟨λA=>?_,λA=>?_⟩
 ·simp only[iR]at A;refine wS ?_;refine Br.isF (by simp) ?_;refine wS ?_;refine⟨i+1,by omega,by omega,?_⟩;exact ZG
 (cbv;(try simp only[nc]at*);(try refine Chk.mk (ZH) ?_))
 (try first|exact⟨rfl,trivial⟩|exact⟨trivial,trivial⟩)
theorem Zb2 (m:Int):Qm (Qh m):=⟨⟨by show 1<=1000000;decide,by show 3<=1000000;decide,by show 0<=1000000;decide,λz H=>by simp only[Qh,aN]at H;subst H;decide,λt A=>by simp only[Qh,bG,dM,or_false]at A;rcases A with rfl|rfl|rfl<;>decide,λt A=>by cases A⟩,by show 3<=1000000;decide,by show 1<=1000000;decide,by show 1<=1000000;decide,λd G=>by simp only[Qh,aN]at G;subst G;decide⟩
theorem Zvx:SC (λ_=>aB) 17 [] [.main] λv h=>v= .bool (λ_=>true)/\h=[.main]:=by
 obtain⟨nt,O⟩:=Zn;have I:=Zxc 30;have A:=Zxc 15;have hw:∀t,Zq t=0->Zz t:=λt h=>XM h;have J:=Zyw (Qh 30) 1 (Zb2 30) (hw _);have k2:=Zyn (Qh 15) 0 (Zb2 15) Zya;have U:=Zym (Qh 15) Zkr (Zb2 15) (by decide) (hw _);have k4:=Zyo (Qh 30) 0 (Zb2 30);have Y:=Zxd (Qh 15) Zn3 0 (Zb2 15) (by decide) (hw _);have V:J7 (Qh 30) 1=0:=by
  unfold J7;rw[iP (λh=>h Zvk.2)];rfl
 rw[V,iQ rfl,iQ rfl,ZqU]at J;rw[Zn7]at k2;rw[Zl3]at U;rw[ZqV.1]at k4;rw[Zta]at Y;have kh:=Zxb;have ki:=Zyj;have ks:=Zyl [⟨120,140⟩,⟨200,220⟩] (by decide);have kz:=c39 [0,1] [0,1] (by decide);have S:=Zvw 200 260;have Z:=Zvw 120 140;have aa:=Zvw 200 220;generalize Zjp (Qh 30) 1=C at*;generalize Qh 30=ac at*;generalize Qh 15=ab at*;generalize Zkr=H1 at*;generalize Zn3=H2 at*;unfold Zf Qa encSp at*;simp only[Za O,Zc,Zt,QU]at*;refine SC.less (QO Tryz.func17 (body:=Zj Tryz.f17) rfl (by decide+kernel) ?_);refine wS ?_;refine Zrk (I) ?_;refine wS ?_;refine Zrk (J) ?_;refine wS ?_;refine Zrk (A) ?_;refine wS ?_;refine cL1 [0] (k2) λr H G=>?_;(try simp only[Ze,Zd,Zf,Zc,Za O]at G);obtain⟨rfl,rfl⟩:=G;refine wS ?_;refine Zrk (A) ?_;refine wS ?_;refine Zrk (kh) ?_;refine wS ?_;refine Zrk (U) ?_;refine wS ?_;refine Zrk (I) ?_;refine wS ?_;refine Zrk (k4) ?_;refine wS ?_;refine Zrk (A) ?_;refine wS ?_;refine Zrk (ki) ?_;refine wS ?_;refine Zrk (Y) ?_;refine vS ?_;refine Chk.mk (by simp only[nc,XD,XC,XS,XB,Cn.p,beq_self_eq_true,cond_true,imp_self,and_true,true_and];(repeat' (first|apply And.intro|intro _))<;>first|rfl|trivial|exact Or.inl rfl|decide|decide+kernel|(simp;done)) ?_
 repeat (first
  |(with_reducible refine Br.isT rfl ?_;refine vS ?_)
  |(with_reducible refine Chk.mk (by simp only[nc,XD,XC,XS,XB,Cn.p,beq_self_eq_true,cond_true,imp_self,and_true,true_and];(repeat' (first|apply And.intro|intro _))<;>first|rfl|trivial|exact Or.inl rfl|decide|decide+kernel|(simp;done)) ?_))
 refine Zrk (S) ?_;refine vS ?_
 repeat (first
  |(with_reducible refine Br.isT rfl ?_;refine vS ?_)
  |(with_reducible refine Chk.mk (by simp only[nc,XD,XC,XS,XB,Cn.p,beq_self_eq_true,cond_true,imp_self,and_true,true_and];(repeat' (first|apply And.intro|intro _))<;>first|rfl|trivial|exact Or.inl rfl|decide|decide+kernel|(simp;done)) ?_))
 refine Zrk (Z) ?_;refine vS ?_
 repeat (first
  |(with_reducible refine Br.isT rfl ?_;refine vS ?_)
  |(with_reducible refine Chk.mk (by simp only[nc,XD,XC,XS,XB,Cn.p,beq_self_eq_true,cond_true,imp_self,and_true,true_and];(repeat' (first|apply And.intro|intro _))<;>first|rfl|trivial|exact Or.inl rfl|decide|decide+kernel|(simp;done)) ?_))
 refine Zrk (aa) ?_;refine vS ?_
 repeat (first
  |(with_reducible refine Br.isT rfl ?_;refine vS ?_)
  |(with_reducible refine Chk.mk (by simp only[nc,XD,XC,XS,XB,Cn.p,beq_self_eq_true,cond_true,imp_self,and_true,true_and];(repeat' (first|apply And.intro|intro _))<;>first|rfl|trivial|exact Or.inl rfl|decide|decide+kernel|(simp;done)) ?_))
 refine ZbH ks (by(refine To.of [] ?_;cbv;(try simp only[nc]);(repeat' first|exact xT|refine⟨?_,?_⟩|refine ZM.cells ?_|refine ZC.agg ?_|refine ZC.tup ?_);all_goals try exact XZ);all_goals exact lit_nt O encSp default _ _ rfl) (by first|rfl|(simp only[Ze,Zd,Zf,Zc,Za O];rfl)) λr H G=>?_;obtain⟨rfl,rfl⟩:=G;refine vS ?_
 repeat (first
  |(with_reducible refine Br.isT rfl ?_;refine vS ?_)
  |(with_reducible refine Chk.mk (by simp only[nc,XD,XC,XS,XB,Cn.p,beq_self_eq_true,cond_true,imp_self,and_true,true_and];(repeat' (first|apply And.intro|intro _))<;>first|rfl|trivial|exact Or.inl rfl|decide|decide+kernel|(simp;done)) ?_))
 refine ZbH (kz) (by(try simp only[Ze,Zd,Zf,Zc,Za O]);exact ZG) (by first|rfl|(simp only[Ze,Zd,Zf,Zc,Za O];rfl)) λr H G=>?_;(try simp only[Ze,Zd,Zf,Zc,Za O]at G);obtain⟨rfl,rfl⟩:=G;refine vS ?_
 repeat (first
  |(with_reducible refine Br.isT rfl ?_;refine vS ?_)
  |(with_reducible refine Chk.mk (by simp only[nc,XD,XC,XS,XB,Cn.p,beq_self_eq_true,cond_true,imp_self,and_true,true_and];(repeat' (first|apply And.intro|intro _))<;>first|rfl|trivial|exact Or.inl rfl|decide|decide+kernel|(simp;done)) ?_))
 refine⟨.bool λ_=>true,[.main],?_,rfl,rfl⟩;(refine To.of [] ?_;cbv;(try simp only[nc]);(repeat' first|exact xT|refine⟨?_,?_⟩|refine ZM.cells ?_|refine ZC.agg ?_|refine ZC.tup ?_);all_goals try exact XZ);all_goals exact .bool rfl
end Vm
namespace Vm
open Go Go.Proofs Sp
set_option maxRecDepth 100000
set_option maxHeartbeats 1600000
set_option maxHeartbeats 8000000
theorem Zr5 {t:Zb} (h:Zq t=0):Qm t:=by
 have hw:=XM h;obtain⟨I,V,h3,Y,Z,S⟩:=Yo h;have A:=ZcO I;have hr:=hw.calls.len;have U:(callsOf t).length=t.runs.length:=by unfold callsOf;rw[bA]
 exact⟨⟨by have:=A.zlen;omega,by have:=A.olen;omega,by have:=A.nlen;omega,λz J=>by have:=(Zcv (A.zones z J)).2.2.1;omega,⟨λt G=>by have:=(A.old t G).len;omega,λt G=>by have:=(A.new t G).len;omega⟩⟩,by omega,by omega,by omega,λd H=>by have:=(hw.d d H).2.1;omega⟩
end Vm
namespace Sp
open Vm
theorem count_bd (p:Nat->Bool):∀n:Nat,0<=Qw p n/\Qw p n<=n
 |0=>⟨bR _,bR _⟩
 |n+1=>by
  have h:=count_bd p n;unfold Qw;split<;>omega
end Sp
namespace Vm
attribute [local irreducible] Dn
open Go Go.Proofs Sp
set_option maxRecDepth 100000
set_option maxHeartbeats 4000000
end Vm
namespace Sp
open Vm
theorem LOk.map {α G:Type} [Inhabited α] [Inhabited G] {e:α->List α->Int} {I:G->List G->Int} {f:α->G} {l:List α} (h:LOk e l) (hm:∀a∈l,∀p,(∀b∈p,b∈l)->e a p=0->I (f a) (p.map f)=0):LOk I (l.map f):=⟨λi A=>by
 rw[bA]at A;have H:=h.ok i A;rw[aA,aC A]at H;rw[aA,aP,aC A,<-List.map_take]
 exact hm _ (bL A) _ (λb J=>List.mem_of_mem_take J) H⟩
theorem ZjI {t:Zb} {w n:Int} {k:Nat}:(Zw t w n).waits.getD k default=if k=w.toNat/\k<t.waits.length then {t.waits.getD k default with minutes:=n}else t.waits.getD k default:=by
 show(t.waits.set w.toNat _).getD k default=_;rw[aA,bQ];by_cases h:w.toNat=k
 ·subst h;rw[iQ rfl];by_cases hl:w.toNat<t.waits.length
  ·rw[iQ hl,iQ ⟨rfl,hl⟩];rfl
  rw[iP hl,iP (λh=>hl h.2),aA,cD (by omega)]
 rw[iP h,iP (λA=>h A.1.symm),<-aA]
theorem ZfW {t:Zb} (he:Zq t=0) {w n:Int} (U:0<=n/\n<=60):Zq (Zw t w n)=0:=by
 obtain⟨h1,V,h3,Z,h5,h6⟩:=Yo he;have A:∀k,((Zw t w n).waits.getD k default).feeder=(t.waits.getD k default).feeder/\((Zw t w n).waits.getD k default).train=(t.waits.getD k default).train/\((Zw t w n).waits.getD k default).station=(t.waits.getD k default).station:=λk=>by
  rw[ZjI];split<;>exact⟨rfl,rfl,rfl⟩
 have aa:(Zw t w n).waits.length=t.waits.length:=by show(t.waits.set _ _).length=_;rw[bW]
 refine ZkR h1 V (by omega) ⟨λi hi=>?_⟩ h5 h6;have h:=Z.ok i (by omega);have J:=A i;have S:((Zw t w n).waits.take i).any (λx=>decide (x.feeder=(t.waits.getD i default).feeder/\x.train=(t.waits.getD i default).train/\x.station=(t.waits.getD i default).station))=(t.waits.take i).any (λx=>decide (x.feeder=(t.waits.getD i default).feeder/\x.train=(t.waits.getD i default).train/\x.station=(t.waits.getD i default).station)):=by
  rw[Bool.eq_iff_iff,dY,dY];constructor
  ·rintro⟨x,hx,hq⟩;obtain⟨k,H,rfl⟩:=dH.1 hx;have G:k<i/\k<t.waits.length:=by rw[bT]at H;omega
   refine⟨t.waits.getD k default,?_,?_⟩
   ·rw[en];exact⟨k,by rw[cR,iQ G.1,aA,aC G.2];rfl⟩
   have e:((Zw t w n).waits.take i)[k]=(Zw t w n).waits.getD k default:=by
    rw[fL,aA,aC (by omega)];rfl
   rw[e,(A k).1,(A k).2.1,(A k).2.2]at hq;exact hq
  rintro⟨x,hx,hq⟩;obtain⟨k,H,rfl⟩:=dH.1 hx;have G:k<i/\k<t.waits.length:=by rw[bT]at H;omega
  refine⟨(Zw t w n).waits.getD k default,?_,?_⟩
  ·rw[en];exact⟨k,by rw[cR,iQ G.1,aA,aC (by omega)];rfl⟩
  have e:(t.waits.take i)[k]=t.waits.getD k default:=by
   rw[fL,aA,aC (by omega)];rfl
  rw[e]at hq;rw[(A k).1,(A k).2.1,(A k).2.2];exact hq
 unfold Qf at h|-;show(if(Qq ((Zw t w n).waits.getD i default).feeder 0 ((callsOf t).length-1)||Qq ((Zw t w n).waits.getD i default).train 0 ((callsOf t).length-1))=true then(3:Int)else if((Zw t w n).waits.getD i default).feeder=((Zw t w n).waits.getD i default).train then 4 else if ZD ((callsOf t).getD ((Zw t w n).waits.getD i default).feeder.toNat []) ((Zw t w n).waits.getD i default).station<0\/ZQ ((callsOf t).getD ((Zw t w n).waits.getD i default).train.toNat []) ((Zw t w n).waits.getD i default).station<0 then 3 else if Qq ((Zw t w n).waits.getD i default).minutes 0 60=true then 1 else if(((callsOf t).getD ((Zw t w n).waits.getD i default).train.toNat []).getD (ZQ ((callsOf t).getD ((Zw t w n).waits.getD i default).train.toNat []) ((Zw t w n).waits.getD i default).station).toNat default).depart<(((callsOf t).getD ((Zw t w n).waits.getD i default).feeder.toNat []).getD (ZD ((callsOf t).getD ((Zw t w n).waits.getD i default).feeder.toNat []) ((Zw t w n).waits.getD i default).station).toNat default).arrive then 5 else if((Zw t w n).waits.take i).any (λx=>decide (x.feeder=((Zw t w n).waits.getD i default).feeder/\x.train=((Zw t w n).waits.getD i default).train/\x.station=((Zw t w n).waits.getD i default).station))=true then 4 else 0)=0;rw[J.1,J.2.1,J.2.2,S];have I:Qq ((Zw t w n).waits.getD i default).minutes 0 60=false:=by
  rw[ZjI];split
  ·exact Zab U.1 U.2
  rename_i ab;split at h
  ·cases h
  split at h
  ·cases h
  split at h
  ·cases h
  split at h
  ·cases h
  rename_i g;simpa using g
 rw[I];split at h
 ·cases h
 rename_i g1;rw[iP g1];split at h
 ·cases h
 rename_i Y;rw[iP Y];split at h
 ·cases h
 rename_i g3;rw[iP g3,iP aO];split at h
 ·cases h
 exact h
theorem Zh9 {α:Type} {q:α->Bool} {d:α}:∀ {l:List α} {i:Int},0<=i->0<=Zr q i l->q (l.getD (Zr q i l-i).toNat d)=true
 |[],i,_,h=>by unfold Zr at h;omega
 |a::l,i,h0,h=>by
  unfold Zr at h|-;split
  ·rename_i A;rw[show(i-i).toNat=0 by omega];exact A
  rename_i A;rw[iP A]at h;have G:=Zh9 (d:=d) (l:=l) (i:=i+1) (by omega) h;have:=(Xi (q:=q) (l:=l) (i:=i+1) (by omega)).2;rw[show(Zr q (i+1) l-i).toNat=(Zr q (i+1) l-(i+1)).toNat+1 by omega];exact G
theorem Zqe {b:Xv} {n d:Int} (h:(J1 b n d).2=0):(J1 b n d).1=calls b.zones ((QS b d).getD (place (QS b d) n).toNat default) d/\0<=place (QS b d) n:=by
 have A:=h;unfold J1 at A|-;split at A
 ·rename_i g;exact absurd A g
 split at A
 ·cases A
 split at A
 ·cases A
 split at A
 ·cases A
 rename_i I H J G;rw[iP I,iP H,iP J,iP G];exact⟨rfl,by omega⟩
theorem Zei {t:Zb} (G:Zq t=0) {k:Nat} (H:k<t.runs.length):(J1 t.book (t.runs.getD k default).number (t.runs.getD k default).day).2=0:=by
 have h:=(Yo G).2.1;unfold QJ at h;split at h
 ·cases h
 split at h
 ·cases h
 have A:=ZZ h k (aV _) (by omega);unfold Y9 at A;split at A
 ·rename_i g;exact absurd A g
 rename_i g;exact bO g
theorem Zlq {t:Zb} {k:Nat} (A:k<t.runs.length):(callsOf t).getD k []=(J1 t.book (t.runs.getD k default).number (t.runs.getD k default).day).1:=by
 unfold callsOf;rw[aA,aP,aC A,aA,aC A];rfl
end Sp
namespace Vm
attribute [local irreducible] Dn
open Go Go.Proofs Sp
set_option maxRecDepth 100000
set_option maxHeartbeats 4000000
end Vm
namespace Sp
open Vm
def JF (t:Zb) (a:Zl) (w n:Int):Int×Int×Int:=
 if ZX t a w≠0 then(0,0,ZX t a w)else if Qq n 0 60=true then(0,0,1)
 else if Qk t a=true/\Qk (Zw t w n) a=true then((Ql t a).to_,(Ql (Zw t w n) a).to_,0)else(0,0,11)
end Sp
namespace Vm
attribute [local irreducible] Dn
open Go Go.Proofs Sp
set_option maxRecDepth 100000
set_option maxHeartbeats 4000000
theorem Zys (t:Zb) (a:Zl) (w n:Int) (hf:Qm t) (ha:a.steps.length<=1000000) (hw:Zq t=0->Zz t):SC (λ_=>aB) 33 [Zf t,Qa a,.int .i64 λ_=>w,.int .i64 λ_=>n] [] λv h=>
  v= .tup [.int .i64 λ_=>(JF t a w n).1,.int .i64 λ_=>(JF t a w n).2.1,.int .i64 λ_=>(JF t a w n).2.2]/\h=[]:=by
 obtain⟨nt,O⟩:=Zn;have k:=Zw5 t a w hf ha;by_cases he:ZX t a w=0
 ·have H:=ZcM he;have hw:=hw H.1;have U:=Zdp n 0 60;have I:=Zvu t w n hf H.2.2;have Y:=Ztn t a hw H.2.1;have A:=λh=>Ztn (Zw t w n) a (Zee hw (n:=n) h) H.2.1;have G:JF t a w n=if Qq n 0 60=true then(0,0,1)else if Qk t a=true/\Qk (Zw t w n) a=true then((Ql t a).to_,(Ql (Zw t w n) a).to_,0)else(0,0,11):=by
   unfold JF;rw[iP (λh=>h he)]
  have aa:Qq n 0 60=false->0<=n/\n<=60:=λh=>QK h;have ab:(Zw t w n).book=t.book:=rfl;have Z:(Zw t w n).runs=t.runs:=rfl;have ac:(Zw t w n).delays=t.delays:=rfl;have ae:callsOf (Zw t w n)=callsOf t:=rfl;unfold Q8 at k;rw[iQ H.1,he]at k;unfold Z1 Zf Qa encSp at*;simp only[ab,Z,ac,ae]at I A;simp only[Za O,Zc,QU,Zt]at*;generalize JF t a w n=BE at*;generalize Qq n 0 60=B at*;generalize Qk (Zw t w n) a=CB at*;generalize Ql (Zw t w n) a=SB at*;generalize Zw t w n=WT at*;generalize Qk t a=CA at*;generalize Ql t a=SA at*;refine SC.less (QO Tryz.func33 (body:=Zj Tryz.f33) rfl (by decide+kernel) ?_);refine wS ?_;refine Zrk (k) ?_;refine wS ?_;refine Br.isF rfl ?_;refine wS ?_;refine Zrk (U) ?_;refine wS ?_;cases B;case true=>
   rw[iQ rfl]at G;subst G;refine Br.isT rfl ?_;refine wS ?_;refine⟨_,[],?_,rfl,rfl⟩;exact ZG
  rw[iP aO]at G;have A:=A (aa rfl);refine Br.isF rfl ?_;refine wS ?_;refine Zrk (Y) ?_;refine wS ?_;repeat' (first|(with_reducible refine Zho.mk ?_ ?_)|((with_reducible refine Chk.mk ?_ ?_);(focus exact ZH))|((with_reducible refine ZL I ?_ ?_);(focus (first|rfl|(simp only[Za O];rfl)));(intro r S V;obtain⟨rfl,rfl⟩:=V;cbv;(try simp only[nc]at*)))|((with_reducible refine SC.lend0 A ?_ ?_);(focus (first|rfl|(simp only[Za O];rfl)));(intro r S V;obtain⟨rfl,rfl⟩:=V;refine⟨rfl,rfl,?_⟩;cbv;(try simp only[nc]at*))))
  all_goals
   refine⟨λJ=>?_,λJ=>?_⟩
   ·rw[iP (by rintro⟨rfl,rfl⟩;cases J)]at G;subst G;refine wS ?_;refine⟨_,[],?_,rfl,rfl⟩;exact ZG
   rw[iQ (by cases CA<;>cases CB<;>first|exact⟨rfl,rfl⟩|cases J)]at G;subst G;refine wS ?_;refine⟨_,[],?_,rfl,rfl⟩;exact ZG
 have G:JF t a w n=(0,0,ZX t a w):=by
  unfold JF;rw[iQ he]
 rw[G];generalize ZX t a w=e at*;refine SC.less (QO Tryz.func33 (body:=Zj Tryz.f33) rfl (by decide+kernel) ?_);unfold Zf Qa at*;by_cases hb:Zq t=0
 ·unfold Q8 at k;rw[iQ hb]at k;unfold Z1 at k;simp only[Za O,Zc,QU,Zt]at*;refine wS ?_;refine Zrk (k) ?_;refine wS ?_;refine⟨λh=>?_,λh=>?_⟩
  ·refine wS ?_;refine⟨_,[],?_,rfl,rfl⟩;exact ZG
  exact absurd (by simpa only[iY]using h) he
 unfold Q8 at k;rw[iP hb]at k;simp only[Za O,Zc,QU,Zt]at*;refine wS ?_;refine Zrk (k) ?_;refine wS ?_;refine⟨λh=>?_,λh=>?_⟩
 ·refine wS ?_;refine⟨_,[],?_,rfl,rfl⟩;exact ZG
 exact absurd (by simpa only[iY]using h) he
end Vm
namespace Sp
open Vm
theorem ZmV {α:Type} [Inhabited α] {f:α->Int} {l:List α} (h:∀i,i<l.length->(l.take i).any (λx=>decide (f x=f (l.getD i default)))=false):l.Pairwise (λa c=>f a≠f c):=by
 rw[List.pairwise_iff_getElem];intro i j H A G e;have:=h j A;rw[List.any_eq_false]at this;refine this l[i] (dH.2 ⟨i,by rw[bT];omega,by simp⟩) ?_;simp[aA,aC A,e]
theorem Zp4 {zones:Int} {l:List Stop} {i:Nat} (h:Xb zones l i=0):(l.take i).any (λx=>decide (x.station=(l.getD i default).station))=false:=by
 unfold Xb Y4 at h;split at h
 ·cases h
 split at h
 ·cases h
 rename_i A;simpa using A
theorem Zlk {zones:Int} {l:List Stop} (h:Ym zones l=0):l.Pairwise (λa c=>a.station≠c.station):=
 ZmV (f:=Stop.station) λi A=>Zp4 (ZZ h i (by omega) (by omega))
theorem ZhP {zones:Int} {l:List Train} {i:Nat} (h:QP zones l i=0):(l.take i).any (λx=>decide (x.number=(l.getD i default).number))=false/\Ym zones (l.getD i default).stops=0:=by
 unfold QP at h;split at h
 ·cases h
 split at h
 ·cases h
 rename_i A;split at h
 ·cases h
 split at h
 ·rename_i G;exact absurd h G
 exact⟨by simpa using A,h⟩
theorem ZfZ {zones:Int} {l:List Train} (h:Qe zones l=0):l.Pairwise (λa c=>a.number≠c.number)/\∀t∈l,t.stops.Pairwise (λa c=>a.station≠c.station):=by
 unfold Qe at h;split at h
 ·rename_i A;exact absurd h A
 refine⟨ZmV (f:=Train.number) λi G=>(ZhP (ZZ h i (by omega) (by omega))).1,λt H=>?_⟩;obtain⟨i,G,rfl⟩:=JB (d:=default) H;exact Zlk (ZhP (ZZ h i (by omega) (by omega))).2
theorem Zog {b:Xv} (h:Yq b=0) (d:Int):(QS b d).Pairwise (λa c=>a.number≠c.number)/\∀t∈QS b d,t.stops.Pairwise (λa c=>a.station≠c.station):=by
 unfold Yq at h;split at h
 ·rename_i A;exact absurd h A
 split at h
 ·rename_i A;exact absurd h A
 split at h
 ·rename_i A;exact absurd h A
 rename_i H;split at h
 ·rename_i A;exact absurd h A
 rename_i G;unfold QS;split
 ·exact ZfZ (bO H)
 exact ZfZ (bO G)
theorem ZnG {t:Zb} (G:Zq t=0) {r:Int} (h:0<=r/\r<(callsOf t).length):(Zm (callsOf t) r).Pairwise λa b=>a.station≠b.station:=by
 have A:r.toNat<t.runs.length:=by have:=calls_len t;omega
 have hr:=Zei G A;have I:=(Zqe hr).1;have e:Zm (callsOf t) r=_:=Zlq A;rw[e,I];have S:=(Zog (Yo G).1 (t.runs.getD r.toNat default).day).2;have H:(((QS t.book (t.runs.getD r.toNat default).day).getD (place (QS t.book (t.runs.getD r.toNat default).day) (t.runs.getD r.toNat default).number).toNat default).stops).Pairwise λa b=>a.station≠b.station:=by
  generalize QS t.book (t.runs.getD r.toNat default).day=T at*;generalize (place T (t.runs.getD r.toNat default).number).toNat=j;by_cases hj:j<T.length
  ·refine S _ ?_;rw[aA,aC hj];exact bL _
  rw[aA,cD (by omega)];exact List.Pairwise.nil
 unfold calls;have J:=Zct t.book.zones (t.runs.getD r.toNat default).day;rw[show(λa b:Call=>a.station≠b.station)=λa b:Call=>(λx y:Int=>x≠y) a.station b.station from rfl,<-fM,J,fM];exact H
theorem ZqR {l:List Call} {f st:Int} (H:0<=f) (h:0<=Zx l f st):(l.getD (Zx l f st).toNat default).station=st:=by
 obtain⟨m,rfl⟩:∃m:Nat,f=(m:Int):=⟨f.toNat,by omega⟩;have G:=XK l m st;have e:Zx l m st=Zr (λc=>decide (c.station=st)) m (l.drop m):=by
  unfold Zx;rw[show max 0 (m:Int)=m by omega,aW]
 rw[e]at h G|-;have A:=Zh9 (q:=λc:Call=>decide (c.station=st)) (d:=default) (l:=l.drop m) (i:=m) (by omega) (by omega);rw[aA,List.getElem?_drop,show m+(Zr (λc:Call=>decide (c.station=st)) m (l.drop m)-m).toNat=(Zr (λc:Call=>decide (c.station=st)) m (l.drop m)).toNat by omega,<-aA]at A;exact iU A
theorem Zn5 {l:List Call} (G:l.Pairwise λa b=>a.station≠b.station) {f st:Int} (H:0<=f) (h:0<=Zx l f st):Zx l 0 st=Zx l f st:=by
 have A:=ZqR H h;have I:=(XK l f st).1;have e:=ZdB G (f:=0) (i:=(Zx l f st).toNat) (aV _) (by omega);rw[A]at e;rw[show((0:Nat):Int)=0 from rfl]at e;omega
theorem Zr6 {t:Zb} (G:Zq t=0) {s:Step} (A:StopIn (callsOf t) s.run (Yy t s)) (H:StopIn (callsOf t) s.run (Zf0 t s)):Zx (Zm (callsOf t) s.run) 0 s.to_=Zf0 t s:=
 Zn5 (ZnG G ⟨A.1,A.2.1⟩) (by have:=A.2.2.1;omega) H.2.2.1
theorem Zde (l:List Call) (st f:Int):Zbk l st f ((l.length:Int)-1)=Zx l f st:=by
 unfold Zbk;have:=(XK l f st).1;rw[iQ (by omega)]
def Zc3 (p:Nat->Bool) (f:Nat->Int):Nat->ZbV
 |0=>⟨0,0⟩
 |n+1=>if p n then Zef (Zc3 p f n) (f n) (Qw p n==0)else Zc3 p f n
theorem ZeL {p:Nat->Bool}:∀n:Nat,Qw p n=n↔(aT n).all p=true
 |0=>⟨λ_=>rfl,λ_=>rfl⟩
 |n+1=>by
  have A:=ZeL (p:=p) n;have G:=count_bd p n;have e:Qw p (n+1)=if p n=true then Qw p n+1 else Qw p n:=rfl
  rw[eL,iy,aS,<-A,e];generalize Qw p n=c at*;cases h:p n with
  |true=>rw[iQ rfl];simp[h]<;>omega
  |false=>rw[iP aO];simp[h]<;>omega
theorem ZjO {p:Nat->Bool} {f:Nat->Int}:∀n:Nat,(aT n).all p=true->Zc3 p f n=ZrL f n
 |0,_=>rfl
 |n+1,h=>by
  rw[eL,iy,aS]at h;have H:=ZjO (f:=f) n h.1;have A:p n=true:=by simpa using h.2
  have G:=(ZeL n).2 h.1;rw[Zc3,iQ A,H,G,ZoF];congr 1;cases n with
  |zero=>rfl
  |succ n=>simp;omega
def JO (t:Zb) (a:Zl):Int:=Qw (Xo t a) (manyT t)
def ZbN (t:Zb) (a:Zl):ZbV:=Zc3 (Xo t a) (YQ t a) (manyT t)
theorem Zg4 (t:Zb) (a:Zl):JO t a=manyT t↔Qk t a=true:=ZeL (p:=Xo t a) (manyT t)
theorem ZdD {t:Zb} {a:Zl} (h:Qk t a=true):ZbN t a=Ql t a:=by
 unfold ZbN Ql;rw[iQ h];exact ZjO _ h
theorem ZkH (t:Zb) (a:Zl):0<=JO t a/\JO t a<=manyT t:=count_bd _ _
theorem ZkQ {t:Zb} {a:Zl} {w:Int}:∀n:Nat,(Qp t a w n).2.2=true->0<=(Qp t a w n).1/\(Qp t a w n).1<n
 |0,h=>by cases h
 |n+1,h=>by
  have G:=ZkQ (t:=t) (a:=a) (w:=w) n;unfold Qp at h|-;split at h
  ·rename_i A;rw[iQ A];show 0<=(n:Int)/\(n:Int)<_;omega
  rename_i A;rw[iP A];have:=G h;omega
theorem Zrm (t:Zb) (a:Zl) (w:Int) (Y:ZX t a w=0):∃G I:Nat->Int,G 0=-1/\I 0=0/\(∀n,-1<=G n/\G n<=n)/\
  (∀n:Nat,JO (Zw t w n) a=manyT t/\(G n<0\/(ZbN (Zw t w n) a).to_<I n)->G (n+1)=n/\I (n+1)=(ZbN (Zw t w n) a).to_)/\
  (∀n:Nat,¬(JO (Zw t w n) a=manyT t/\(G n<0\/(ZbN (Zw t w n) a).to_<I n))->G (n+1)=G n/\I (n+1)=I n)/\
  ZbW t a w=if G 61<0 then(0,0,11)else(G 61,I 61,0):=by
 have U:∀n:Nat,Qp t a w (n+1)=if Qk (Zw t w n) a&&(!(Qp t a w n).2.2||decide ((Ql (Zw t w n) a).to_<(Qp t a w n).2.1))then((n:Int),(Ql (Zw t w n) a).to_,true)else Qp t a w n:=λ_=>rfl
 have H:= @ZkQ t a w;have S:∀n,(if(Qp t a w n).2.2=true then(Qp t a w n).1 else-1)<0↔(Qp t a w n).2.2=false:=λn=>by
  cases hb:(Qp t a w n).2.2 with
  |true=>have:=H n hb;simp;omega
  |false=>simp
 have J:∀n:Nat,(JO (Zw t w n) a=manyT t/\((if(Qp t a w n).2.2=true then(Qp t a w n).1 else-1)<0\/(ZbN (Zw t w n) a).to_<(Qp t a w n).2.1))↔(Qk (Zw t w n) a&&(!(Qp t a w n).2.2||decide ((Ql (Zw t w n) a).to_<(Qp t a w n).2.1)))=true:=λn=>by
  have V:=Zg4 (Zw t w n) a;rw[show manyT (Zw t w n)=manyT t from rfl]at V;rw[S,V,aS,Bool.or_eq_true,Bool.not_eq_true',iR];constructor
  ·rintro⟨h1,A⟩;rw[ZdD h1]at A;exact⟨h1,A⟩
  rintro⟨h1,A⟩;rw[ZdD h1];exact⟨h1,A⟩
 refine⟨λn=>if(Qp t a w n).2.2=true then(Qp t a w n).1 else-1,λn=>(Qp t a w n).2.1,rfl,rfl,λn=>?_,λn h=>?_,λn h=>?_,?_⟩
 ·show-1<=(if _ then _ else _)/\(if _ then _ else _)<=(n:Int);have:=H n;split
  ·rename_i g;have:=this g;omega
  omega
 ·have A:=(J n).1 h;have Z:Qk (Zw t w n) a=true:=by rw[aS]at A;exact A.1
  rw[ZdD Z];show(if(Qp t a w (n+1)).2.2=true then(Qp t a w (n+1)).1 else-1)=_/\(Qp t a w (n+1)).2.1=_;rw[U n,iQ A];exact⟨rfl,rfl⟩
 ·have A:¬_:=λg=>h ((J n).2 g);show(if(Qp t a w (n+1)).2.2=true then(Qp t a w (n+1)).1 else-1)=(if(Qp t a w n).2.2=true then(Qp t a w n).1 else-1)/\(Qp t a w (n+1)).2.1=(Qp t a w n).2.1;rw[U n,iP A];exact⟨rfl,rfl⟩
 unfold ZbW;rw[iP (λh=>h Y)];show _=if(if(Qp t a w 61).2.2=true then(Qp t a w 61).1 else-1)<0 then _ else((if(Qp t a w 61).2.2=true then(Qp t a w 61).1 else-1),_,_)
 cases hb:(Qp t a w 61).2.2 with
 |true=>
  have:=H 61 hb;rw[iQ rfl,iQ rfl,iP (by omega)]
 |false=>rfl
end Sp
namespace Vm
open Go Go.Proofs
attribute [local irreducible] Dn
open Go Go.Proofs Sp
set_option maxRecDepth 100000
set_option maxHeartbeats 4000000
end Vm
namespace Sp
open Vm
end Sp
namespace Vm
attribute [local irreducible] Dn
open Go Go.Proofs Sp
set_option maxRecDepth 100000
set_option maxHeartbeats 4000000
theorem Zw3 (t:Zb) (w n:Int) (V:Qm t) (hw:0<=w/\w<t.waits.length):SC (λ_=>aB) 103 [Zf t,.int .i64 λ_=>w,.int .i64 λ_=>n] [] λv h=>v=Zf (Zw t w n)/\h=[]:=by
 obtain⟨H,O⟩:=Zn;have Z:=V.waits;obtain⟨G,A⟩:∃G,G=Zw t w n:=⟨_,rfl⟩;have S:G.waits.length=t.waits.length:=by rw[A];unfold Zw;simp
 have J:∀i:Nat,i<t.waits.length->[AV.int .i64 λ_=>(H Sp.QR default t.waits (i:Int)).feeder,.int .i64 λ_=>(H Sp.QR default t.waits (i:Int)).train,.int .i64 λ_=>(H Sp.QR default t.waits (i:Int)).station,.int .i64 λ_=>bif decide ((i:Int)=w)then n else(H Sp.QR default t.waits (i:Int)).minutes]=QM (H Sp.QR default G.waits (i:Int)):=λi I=>by
  have e:H Sp.QR default G.waits (i:Int)=if(i:Int)=w then {H Sp.QR default t.waits (i:Int)with minutes:=n}else H Sp.QR default t.waits (i:Int):=by
   rw[O,O,aW,A];show(t.waits.set w.toNat _).getD i default=_;by_cases h:(i:Int)=w
   ·subst h;rw[iQ rfl,aW,Vm.Zck _ _ _ _ I]
   rw[iP h,Vm.Zat _ _ _ _ _ (by omega)]
  rw[e];by_cases h:(i:Int)=w
  ·rw[iQ h,iX h];rfl
  rw[iP h,iW h];rfl
 have Y:G.book=t.book:=by rw[A];rfl
 have hr:G.runs=t.runs:=by rw[A];rfl
 have U:G.delays=t.delays:=by rw[A];rfl
 rw[<-A];unfold Zf;rw[Y,hr,U];simp only[Za O];refine SC.less (Zvo false false [] Tryz.func103 (body:=Zj Tryz.f103) rfl (by decide+kernel) ?_);refine wS ?_;refine⟨_,[],?_,rfl,rfl⟩;refine toR ?_
 exact .gd (by simp) (.none (by show(([]:List Sp.QR).length:Int)+(t.waits.length:Int)=G.waits.length;rw[S];simp) λi I=>by
  have I:(i:Int)<(([]:List Sp.QR).length:Int)+(t.waits.length:Int):=I;rw[QG (len:=0) rfl (aV _)]
  exact J i (by simp at I;omega))
end Vm
end Go.Proofs.YtjgpiclllehgmaaGreat
