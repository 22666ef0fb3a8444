/- Deterministic runs that end from every tape: every play of the game in which someone else chooses where the tape goes on ends too. -/

namespace Go.Proofs.YtjgpiclllehgmaaGreat.Conc1
universe u
section
variable {C:Type u} {Q:Type} (T:C→C→Prop) (Stop:C→Prop) (re:C→(Nat→Q→Nat)→Nat→C) (tp:C→Nat→Q→Nat) (dr:C→Nat)
inductive Zb9:C→Prop
 |stop {a:C}:Stop a→Zb9 a
 |step {a:C} (f:Nat→C):(∀d,T (re a (tp a) d) (f d))→(∀d,Zb9 (f d))→Zb9 a
inductive Zc5:C→C→Prop
 |refl (a:C):Zc5 a a
 |head {a b c:C}:T a b→Zc5 b c→Zc5 a c
structure ZrX:Prop where
 det:∀ {a b b'},T a b→T a b'→b=b'
 re_re:∀a t d t' d',re (re a t d) t' d'=re a t' d'
 re_self:∀a,re a (tp a) (dr a)=a
 tp_re:∀a t d,tp (re a t d)=t
 dr_re:∀a t d,dr (re a t d)=d
 tape:∀ {a b},T a b→tp b=tp a
 mono:∀ {a b},T a b→dr a≤dr b
 loc:∀ {a b},T a b→∀t d,(∀i,i<dr b-dr a→t (d+i)=tp a (dr a+i))→T (re a t d) (re b t (d+(dr b-dr a)))
 stop:∀a t d,Stop (re a t d)→Stop a
variable {T Stop re tp dr}
structure Pos (C:Type u)where
 a:C
 d:Nat
 e:Nat
 st:Bool
variable (T re tp dr)in
open Classical in
noncomputable def nxt (ch:C→Nat) (p:Pos C):Pos C:=
 if h:p.st=false∧∃b,T (re p.a (tp p.a) p.d) b then⟨h.2.choose,ch h.2.choose,p.e+(dr h.2.choose-p.d),false⟩else⟨p.a,p.d+1,p.e+1,true⟩
variable (T re tp dr)in
noncomputable def Zts (ch:C→Nat) (a:C):Nat→Pos C
 |0=>⟨a,ch a,0,false⟩
 |n+1=>nxt T re tp dr ch (Zts ch a n)
theorem Zhn (L:ZrX T Stop re tp dr) {a:C} (h:∀t d,∃b,Zc5 T (re a t d) b∧Stop b):Zb9 T Stop re tp a:=by
 classical
 refine Classical.byContradiction fun hbad=>?_
 have step:∀a,¬Zb9 T Stop re tp a→¬Stop a∧∃d,∀b,T (re a (tp a) d) b→¬Zb9 T Stop re tp b:=fun a ha=>by
  refine⟨fun hs=>ha (.stop hs),Classical.byContradiction fun hn=>ha ?_⟩
  have hn:∀d,∃b,T (re a (tp a) d) b∧Zb9 T Stop re tp b:=fun d=>Classical.byContradiction fun hd=>hn ⟨d,fun b hb hm=>hd ⟨b,hb,hm⟩⟩
  exact .step (fun d=>(hn d).choose) (fun d=>(hn d).choose_spec.1) fun d=>(hn d).choose_spec.2
 let ch:C→Nat:=fun a=>if h:¬Zb9 T Stop re tp a then(step a h).2.choose else 0
 have hch:∀a,¬Zb9 T Stop re tp a→∀b,T (re a (tp a) (ch a)) b→¬Zb9 T Stop re tp b:=fun a ha=>by
  show∀b,T (re a (tp a) (if h:¬Zb9 T Stop re tp a then(step a h).2.choose else 0)) b→_
  rw[dif_pos ha]
  exact(step a ha).2.choose_spec
 obtain⟨p,hp⟩:∃p,p=Zts T re tp dr ch a:=⟨_,rfl⟩
 have p0:p 0=⟨a,ch a,0,false⟩:=by rw[hp];rfl
 have pS:∀n,p (n+1)=nxt T re tp dr ch (p n):=fun n=>by rw[hp];rfl
 clear hp
 have pM:∀n,(p n).st=false→(∃b,T (re (p n).a (tp (p n).a) (p n).d) b)→∃b,T (re (p n).a (tp (p n).a) (p n).d) b∧p (n+1)=⟨b,ch b,(p n).e+(dr b-(p n).d),false⟩:=fun n h1 h2=>
  ⟨h2.choose,h2.choose_spec,by rw[pS];unfold nxt;rw[dif_pos ⟨h1,h2⟩]⟩
 have pN:∀n,((p n).st=true∨¬∃b,T (re (p n).a (tp (p n).a) (p n).d) b)→p (n+1)=⟨(p n).a,(p n).d+1,(p n).e+1,true⟩:=fun n h=>by
  rw[pS];unfold nxt
  rw[dif_neg]
  rintro⟨h1,h2⟩
  rcases h with h|h
  ·rw[h1]at h;cases h
  ·exact h h2
 have emono1:∀n,(p n).e≤(p (n+1)).e:=fun n=>by
  rw[pS];unfold nxt;split<;>simp
 have emono:∀n k,(p n).e≤(p (n+k)).e:=fun n k=>by
  induction k with
  |zero=>exact Nat.le_refl _
  |succ k ih=>exact Nat.le_trans ih (emono1 _)
 obtain⟨t,hteq⟩:∃t:Nat→Q→Nat,t=fun i=>if h:∃n,(p n).e≤i∧i<(p (n+1)).e then tp a ((p h.choose).d+(i-(p h.choose).e))else tp a 0:=⟨_,rfl⟩
 have ht:∀n i,i<(p (n+1)).e-(p n).e→t ((p n).e+i)=tp a ((p n).d+i):=fun n i hi=>by
  have hex:∃m,(p m).e≤(p n).e+i∧(p n).e+i<(p (m+1)).e:=⟨n,by omega,by omega⟩
  have huniq:hex.choose=n:=by
   obtain⟨h1,h2⟩:=hex.choose_spec
   generalize hex.choose=m at*
   rcases Nat.lt_trichotomy m n with hlt|heq|hgt
   ·have:=emono (m+1) (n-(m+1))
    rw[show m+1+(n-(m+1))=n by omega]at this
    omega
   ·exact heq
   ·have:=emono (n+1) (m-(n+1))
    rw[show n+1+(m-(n+1))=m by omega]at this
    omega
  rw[hteq]
  show(if h:∃m,(p m).e≤(p n).e+i∧(p n).e+i<(p (m+1)).e then tp a ((p h.choose).d+((p n).e+i-(p h.choose).e))else tp a 0)=_
  rw[dif_pos hex,huniq]
  congr 1
  omega
 clear hteq
 have hstuck:∀n,(p n).st=true→∀k,(p (n+k)).st=true∧(p (n+k)).d=(p n).d+k∧(p (n+k)).e=(p n).e+k:=fun n hn k=>by
  induction k with
  |zero=>exact⟨hn,rfl,rfl⟩
  |succ k ih=>
   rw[show n+(k+1)=n+k+1 from rfl,pN _ (.inl ih.1)]
   exact⟨rfl,by show(p (n+k)).d+1=_;omega,by show(p (n+k)).e+1=_;omega⟩
 have hown:∀n,(p n).st=false→(¬∃b,T (re (p n).a (tp (p n).a) (p n).d) b)→∀i,t ((p n).e+i)=tp a ((p n).d+i):=fun n h1 h2 i=>by
  have h3:=pN n (.inr h2)
  have h4:=hstuck (n+1) (by rw[h3])
  rw[h3]at h4
  have e1:(p (n+i)).e=(p n).e+i∧(p (n+i)).d=(p n).d+i:=by
   cases i with
   |zero=>exact⟨rfl,rfl⟩
   |succ i=>
    have h5:=h4 i
    rw[show n+(i+1)=n+1+i by omega]
    exact⟨by rw[h5.2.2];show(p n).e+1+i=_;omega,by rw[h5.2.1];show(p n).d+1+i=_;omega⟩
  have e2:(p (n+i+1)).e=(p n).e+i+1:=by
   have h5:=h4 i
   rw[show n+i+1=n+1+i by omega,h5.2.2]
   show(p n).e+1+i=_
   omega
  have:=ht (n+i) 0 (by omega)
  rw[Nat.add_zero,Nat.add_zero,e1.1,e1.2]at this
  exact this
 have inv:∀n,(p n).st=false→(¬Zb9 T Stop re tp (p n).a)∧tp (p n).a=tp a∧(p n).d=ch (p n).a:=fun n=>by
  induction n with
  |zero=>intro _;rw[p0];exact⟨hbad,rfl,rfl⟩
  |succ n ih=>
   intro hn
   by_cases hs:(p n).st=false
   ·by_cases hm:∃b,T (re (p n).a (tp (p n).a) (p n).d) b
    ·obtain⟨i1,i2,i3⟩:=ih hs
     obtain⟨b,hb,hpb⟩:=pM n hs hm
     rw[hpb]
     refine⟨hch _ i1 b (by rw[←i3];exact hb),?_,rfl⟩
     show tp b=tp a
     rw[L.tape hb,L.tp_re,i2]
    ·rw[pN n (.inr hm)]at hn;cases hn
   ·rw[pN n (.inl (by simpa using hs))]at hn;cases hn
 have follow:∀x b,Zc5 T x b→∀m,(p m).st=false→x=re (p m).a t (p m).e→∃k,(p k).st=false∧b=re (p k).a t (p k).e:=fun x b hs=>by
  induction hs with
  |refl=>exact fun m hm hx=>⟨m,hm,hx⟩
  | @head x y c hxy _ ih=>
   intro m hm hx
   subst hx
   obtain⟨i1,i2,i3⟩:=inv m hm
   by_cases hmv:∃b,T (re (p m).a (tp (p m).a) (p m).d) b
   ·obtain⟨b,hb,hpb⟩:=pM m hm hmv
    have hl:=L.loc hb t (p m).e (by
     intro i hi
     rw[L.dr_re]at hi⊢
     rw[L.tp_re,i2]
     refine ht m i ?_
     rw[hpb]
     show i<(p m).e+(dr b-(p m).d)-(p m).e
     omega)
    rw[L.re_re,L.dr_re]at hl
    obtain rfl:=L.det hxy hl
    exact ih (m+1) (by rw[hpb]) (by rw[hpb])
   ·exfalso
    have hl:=L.loc hxy (tp (p m).a) (p m).d (by
     intro i hi
     rw[L.dr_re,L.tp_re,hown m hm hmv i,i2])
    rw[L.re_re]at hl
    exact hmv ⟨_,hl⟩
 obtain⟨b,hb,hsb⟩:=h t 0
 obtain⟨k,hk,rfl⟩:=follow _ _ hb 0 (by rw[p0]) (by rw[p0])
 exact(inv k hk).1 (.stop (L.stop _ _ _ hsb))
end
end Go.Proofs.YtjgpiclllehgmaaGreat.Conc1
