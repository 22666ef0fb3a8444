/- Lemmas. -/
open Nat renaming add_zero->dS
namespace Go.Proofs.YtjgpiclllehgmaaGreat

namespace Conc1
universe u
section
variable {C:Type u} {Q:Type} (T:C->C->Prop) (Stop:C->Prop) (re:C->(Nat->Q->Nat)->Nat->C) (tp:C->Nat->Q->Nat) (dr:C->Nat)
inductive ZcZ:C->Prop
 |stop {a:C}:Stop a->ZcZ a
 |step {a:C} (f:Nat->C):(∀d,T (re a (tp a) d) (f d))->(∀d,ZcZ (f d))->ZcZ a
inductive Zd6:C->C->Prop
 |refl (a:C):Zd6 a a
 |head {a b c:C}:T a b->Zd6 b c->Zd6 a c
structure ZuG:Prop where
 det:∀ {a b b'},T a b->T a b'->b=b'
 re_re:∀a t d t' d',re (re a t d) t' d'=re a t' d'
 re_self:∀a,re a (tp a) (dr a)=a
 tp_re:∀a t d,tp (re a t d)=t
 dr_re:∀a t d,dr (re a t d)=d
 tape:∀ {a b},T a b->tp b=tp a
 mono:∀ {a b},T a b->dr a<=dr b
 loc:∀ {a b},T a b->∀t d,(∀i,i<dr b-dr a->t (d+i)=tp a (dr a+i))->T (re a t d) (re b t (d+(dr b-dr a)))
 stop:∀a t d,Stop (re a t d)->Stop a
variable {T Stop re tp dr}
structure Pos (C:Type u)where
 a:C
 d:Nat
 e:Nat
 st:Bool
variable (T re tp dr)in
open Classical in
noncomputable def nxt (ch:C->Nat) (p:Pos C):Pos C:=
 if h:p.st=false/\∃b,T (re p.a (tp p.a) p.d) b then⟨h.2.choose,ch h.2.choose,p.e+(dr h.2.choose-p.d),false⟩else⟨p.a,p.d+1,p.e+1,true⟩
variable (T re tp dr)in
noncomputable def Zwx (ch:C->Nat) (a:C):Nat->Pos C
 |0=>⟨a,ch a,0,false⟩
 |n+1=>nxt T re tp dr ch (Zwx ch a n)
theorem ZiV (L:ZuG T Stop re tp dr) {a:C} (h:∀t d,∃b,Zd6 T (re a t d) b/\Stop b):ZcZ T Stop re tp a:=by
 classical
 refine Classical.byContradiction λai=>?_;have step:∀a,¬ZcZ T Stop re tp a->¬Stop a/\∃d,∀b,T (re a (tp a) d) b->¬ZcZ T Stop re tp b:=λa ha=>by
  refine⟨λJ=>ha (.stop J),Classical.byContradiction λA=>ha ?_⟩;have A:∀d,∃b,T (re a (tp a) d) b/\ZcZ T Stop re tp b:=λd=>Classical.byContradiction λhd=>A ⟨d,λb I hm=>hd ⟨b,I,hm⟩⟩;exact .step (λd=>(A d).choose) (λd=>(A d).choose_spec.1) λd=>(A d).choose_spec.2
 let Y:C->Nat:=λa=>if h:¬ZcZ T Stop re tp a then(step a h).2.choose else 0
 have al:∀a,¬ZcZ T Stop re tp a->∀b,T (re a (tp a) (Y a)) b->¬ZcZ T Stop re tp b:=λa ha=>by
  show∀b,T (re a (tp a) (if h:¬ZcZ T Stop re tp a then(step a h).2.choose else 0)) b->_;rw[dif_pos ha];exact(step a ha).2.choose_spec
 obtain⟨p,hp⟩:∃p,p=Zwx T re tp dr Y a:=⟨_,rfl⟩;have p0:p 0=⟨a,Y a,0,false⟩:=by rw[hp];rfl
 have pS:∀n,p (n+1)=nxt T re tp dr Y (p n):=λn=>by rw[hp];rfl
 clear hp;have pM:∀n,(p n).st=false->(∃b,T (re (p n).a (tp (p n).a) (p n).d) b)->∃b,T (re (p n).a (tp (p n).a) (p n).d) b/\p (n+1)=⟨b,Y b,(p n).e+(dr b-(p n).d),false⟩:=λn h1 H=>
  ⟨H.choose,H.choose_spec,by rw[pS];unfold nxt;rw[dif_pos ⟨h1,H⟩]⟩
 have pN:∀n,((p n).st=true\/¬∃b,T (re (p n).a (tp (p n).a) (p n).d) b)->p (n+1)=⟨(p n).a,(p n).d+1,(p n).e+1,true⟩:=λn h=>by
  rw[pS];unfold nxt;rw[dif_neg];rintro⟨h1,H⟩;rcases h with h|h
  ·rw[h1]at h;cases h
  exact h H
 have ac:∀n,(p n).e<=(p (n+1)).e:=λn=>by
  rw[pS];unfold nxt;split<;>simp
 have U:∀n k,(p n).e<=(p (n+k)).e:=λn k=>by
  induction k with
  |zero=>exact Nat.le_refl _
  |succ k S=>exact Nat.le_trans S (ac _)
 obtain⟨t,Z⟩:∃t:Nat->Q->Nat,t=λi=>if h:∃n,(p n).e<=i/\i<(p (n+1)).e then tp a ((p h.choose).d+(i-(p h.choose).e))else tp a 0:=⟨_,rfl⟩
 have ht:∀n i,i<(p (n+1)).e-(p n).e->t ((p n).e+i)=tp a ((p n).d+i):=λn i hi=>by
  have V:∃m,(p m).e<=(p n).e+i/\(p n).e+i<(p (m+1)).e:=⟨n,by omega,by omega⟩;have ae:V.choose=n:=by
   obtain⟨h1,H⟩:=V.choose_spec;generalize V.choose=m at*;rcases Nat.lt_trichotomy m n with am|aj|ao
   ·have:=U (m+1) (n-(m+1));rw[show m+1+(n-(m+1))=n by omega]at this;omega
   ·exact aj
   have:=U (n+1) (m-(n+1));rw[show n+1+(m-(n+1))=m by omega]at this;omega
  rw[Z];show(if h:∃m,(p m).e<=(p n).e+i/\(p n).e+i<(p (m+1)).e then tp a ((p h.choose).d+((p n).e+i-(p h.choose).e))else tp a 0)=_;rw[dif_pos V,ae];congr 1;omega
 clear Z;have aa:∀n,(p n).st=true->∀k,(p (n+k)).st=true/\(p (n+k)).d=(p n).d+k/\(p (n+k)).e=(p n).e+k:=λn A k=>by
  induction k with
  |zero=>exact⟨A,rfl,rfl⟩
  |succ k S=>
   rw[show n+(k+1)=n+k+1 from rfl,pN _ (.inl S.1)];exact⟨rfl,by show(p (n+k)).d+1=_;omega,by show(p (n+k)).e+1=_;omega⟩
 have ah:∀n,(p n).st=false->(¬∃b,T (re (p n).a (tp (p n).a) (p n).d) b)->∀i,t ((p n).e+i)=tp a ((p n).d+i):=λn h1 H i=>by
  have h3:=pN n (.inr H);have h4:=aa (n+1) (by rw[h3]);rw[h3]at h4;have e1:(p (n+i)).e=(p n).e+i/\(p (n+i)).d=(p n).d+i:=by
   cases i with
   |zero=>exact⟨rfl,rfl⟩
   |succ i=>
    have h5:=h4 i;rw[show n+(i+1)=n+1+i by omega];exact⟨by rw[h5.2.2];show(p n).e+1+i=_;omega,by rw[h5.2.1];show(p n).d+1+i=_;omega⟩
  have e2:(p (n+i+1)).e=(p n).e+i+1:=by
   have h5:=h4 i;rw[show n+i+1=n+1+i by omega,h5.2.2];show(p n).e+1+i=_;omega
  have:=ht (n+i) 0 (by omega);rw[dS,dS,e1.1,e1.2]at this;exact this
 have inv:∀n,(p n).st=false->(¬ZcZ T Stop re tp (p n).a)/\tp (p n).a=tp a/\(p n).d=Y (p n).a:=λn=>by
  induction n with
  |zero=>intro _;rw[p0];exact⟨ai,rfl,rfl⟩
  |succ n S=>
   intro A;by_cases J:(p n).st=false
   ·by_cases hm:∃b,T (re (p n).a (tp (p n).a) (p n).d) b
    ·obtain⟨i1,i2,i3⟩:=S J;obtain⟨b,I,G⟩:=pM n J hm;rw[G];refine⟨al _ i1 b (by rw[<-i3];exact I),?_,rfl⟩;show tp b=tp a;rw[L.tape I,L.tp_re,i2]
    rw[pN n (.inr hm)]at A;cases A
   rw[pN n (.inl (by simpa using J))]at A;cases A
 have ab:∀x b,Zd6 T x b->∀m,(p m).st=false->x=re (p m).a t (p m).e->∃k,(p k).st=false/\b=re (p k).a t (p k).e:=λx b J=>by
  induction J with
  |refl=>exact λm hm hx=>⟨m,hm,hx⟩
  | @head x y c hxy _ S=>
   intro m hm hx;subst hx;obtain⟨i1,i2,i3⟩:=inv m hm;by_cases hmv:∃b,T (re (p m).a (tp (p m).a) (p m).d) b
   ·obtain⟨b,I,G⟩:=pM m hm hmv
    have hl:=L.loc I t (p m).e (by
     intro i hi;rw[L.dr_re]at hi|-;rw[L.tp_re,i2];refine ht m i ?_;rw[G];show i<(p m).e+(dr b-(p m).d)-(p m).e
     omega)
    rw[L.re_re,L.dr_re]at hl;obtain rfl:=L.det hxy hl;exact S (m+1) (by rw[G]) (by rw[G])
   exfalso
   have hl:=L.loc hxy (tp (p m).a) (p m).d (by
    intro i hi
    rw[L.dr_re,L.tp_re,ah m hm hmv i,i2])
   rw[L.re_re]at hl;exact hmv ⟨_,hl⟩
 obtain⟨b,I,ak⟩:=h t 0;obtain⟨k,hk,rfl⟩:=ab _ _ I 0 (by rw[p0]) (by rw[p0]);exact(inv k hk).1 (.stop (L.stop _ _ _ ak))
end
end Conc1
end Go.Proofs.YtjgpiclllehgmaaGreat
