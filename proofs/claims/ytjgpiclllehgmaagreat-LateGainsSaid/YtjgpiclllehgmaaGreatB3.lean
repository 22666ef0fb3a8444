/- Lemmas. -/
import Derived.Test.YtjgpiclllehgmaaGreatB2
set_option linter.all false
open Bool renaming false_eq_true->aX,false_ne_true->aO,false_or->cC,not_false->ez,not_true->d9,true_or->cO
open Int renaming le_of_lt->gA,pow_pos->gN,toNat_natCast->aW
open List renaming any_cons->eM,any_eq_true->dY,any_nil->fF,countP_cons->fP,drop_eq_nil_of_le->bB,getD_eq_getElem?_getD->aA,getElem?_eq_getElem->aC,getElem?_set_ne->cQ,getElem?_set_self->cS,getElem?_take_of_lt->gC,getElem_map->fw,getElem_mem->bL,length->fA,length_append->bf,length_cons->bF,length_map->bA,length_nil->cE,length_range->cZ,length_take->bT,map_append->dD,mem_cons_of_mem->aR,mem_cons_self->aU,mem_flatMap->gB,mem_map->bE,mem_range->bZ,range->aT,set_set->iI,take_of_length_le->dT,take_sublist_take_left->gl
open Nat renaming add_mul->dI,eq_zero_or_pos->cJ,le_refl->aJ,mod_lt->eE,mul_comm->ea,mul_le_mul->fH,mul_le_mul_right->aL,zero_le->aV
open Go.Proofs.Tryz renaming prog->aB
namespace Go.Proofs.YtjgpiclllehgmaaGreat
namespace Sp
open Vm
structure W3 where
 co:Nat->Nat->Int
 re:Nat->Nat->Int
 go:Nat->Nat->Int
def JH (f:Nat->Nat->Int) (r i:Nat) (v:Int):Nat->Nat->Int:=λa b=>bif a==r&&b==i then v else f a b
theorem Zbg (f:Nat->Nat->Int) (r i:Nat) (v:Int):JH f r i v r i=v:=by simp[JH]
theorem Zeh {f:Nat->Nat->Int} {r i a b:Nat} {v:Int} (h:¬(a=r/\b=i)):JH f r i v a b=f a b:=by
 unfold JH;by_cases h1:a=r
 ·by_cases h2:b=i
  ·exact absurd ⟨h1,h2⟩ h
  rw[show(b==i)=false by simp[h2],Bool.and_false];rfl
 rw[show(a==r)=false by simp[h1],Bool.false_and];rfl
def Zag (t:Zb) (x:List Int) (w:W3) (r i:Nat):Zix:=
 Zai t (λf a=>w.co f.toNat a.toNat) r i (if 0<i then w.go r (i-1)+(Zu (callsOf t) r i).arrive-(Zu (callsOf t) r (i-1:Nat)).depart+Zdq t x r (i-1:Nat)else 0)
def Za2 (t:Zb) (x:List Int) (w:W3) (r i:Nat):W3:=
 ⟨JH w.co r i (Zag t x w r i).comes,JH w.re r i (Zag t x w r i).ready,JH w.go r i (Zag t x w r i).goes⟩
def ZnH (t:Zb) (x:List Int) (w:W3) (r:Nat):Nat->W3
 |0=>w
 |i+1=>Za2 t x (ZnH t x w r i) r i
def ZaE (t:Zb) (r:Nat):Nat:=(Zm (callsOf t) r).length
def Zgn (t:Zb) (x:List Int) (w:W3):Nat->W3
 |0=>w
 |r+1=>ZnH t x (Zgn t x w r) r (ZaE t r)
def Zel (t:Zb) (x:List Int) (w:W3):Nat->W3
 |0=>w
 |k+1=>Zgn t x (Zel t x w k) (callsOf t).length
theorem Zij {α:Type} {p q:α->Bool} {a:α}:∀ {l:List α},(∀b∈l,p b=true->q b=true)->a∈l->p a=false->q a=true->l.countP p<l.countP q
 |b::l,h,hm,hp,hq=>by
  have H:l.countP p<=l.countP q:=List.countP_mono_left λc A=>h c (aR _ A);rw[fP,fP];rcases List.mem_cons.mp hm with rfl|hm
  ·simp only[hp,hq];simp;omega
  have:=Zij (λc A=>h c (aR _ A)) hm hp hq;have G:=h b (aU ..);cases hpb:p b
  ·simp;omega
  simp only[G hpb];simp;omega
def Xp (t:Zb):List (Nat×Nat):=(aT (callsOf t).length).flatMap λr=>(aT (ZaE t r)).map λi=>(r,i)
def Q7 (t:Zb) (r i:Nat):Int:=(Zu (callsOf t) r i).depart
def Zb8 (t:Zb) (r i:Nat):Nat:=(Xp t).countP λp=>decide (Q7 t p.1 p.2<Q7 t r i)
theorem Zjx {t:Zb} {r i:Nat} (h:StopIn (callsOf t) r i):(r,i)∈Xp t:=by
 unfold Xp;rw[gB];refine⟨r,bZ.mpr (by have:=h.2.1;omega),bE.mpr ⟨i,bZ.mpr ?_,rfl⟩⟩;have:=h.2.2.2;unfold ZaE;omega
theorem ZmN {t:Zb} {r i a b:Nat} (h:StopIn (callsOf t) r i) (A:Q7 t r i<Q7 t a b):Zb8 t r i<Zb8 t a b:=by
 unfold Zb8;refine Zij (a:=(r,i)) (λp _ G=>?_) (Zjx h) (by simp) (by simp[A]);simp only[iR]at G|-;omega
theorem ZmO (t:Zb) (r i:Nat):Zb8 t r i<=(Xp t).length:=List.countP_le_length
def Zdj (t:Zb) (r i:Nat):Bool:=decide ((i:Int)=((Zm (callsOf t) r).length:Int)-1)
def Zod (t:Zb) (r i:Nat):Nat:=bif Zdj t r i then Zb8 t r (i-1)else Zb8 t r i
def ZvO (t:Zb) (x:List Int) (w:W3) (r i:Nat):Prop:=w.co r i=Xn t x (goes t x) r i
def ZuM (t:Zb) (x:List Int) (w:W3) (r i:Nat):Prop:=w.co r i=(ZR t x r i).comes/\w.re r i=(ZR t x r i).ready/\w.go r i=(ZR t x r i).goes
def J3 (t:Zb) (x:List Int) (k a b:Nat) (w:W3):Prop:=∀r i:Nat,StopIn (callsOf t) r i->
 (0<i->Zb8 t r (i-1)<(if r<a\/r=a/\i<b then k+1 else k)->ZvO t x w r i)/\
 (Zod t r i<(if r<a\/r=a/\i<b then k+1 else k)->ZuM t x w r i)
theorem ZlZ {t:Zb} (J:Zz t) {cm A:Int->Int->Int} {r i:Int} (h:∀w∈t.waits,w.train=r->w.station=(Zu (callsOf t) r i).station->cm w.feeder (ZD (Zm (callsOf t) w.feeder) w.station)=A w.feeder (ZD (Zm (callsOf t) w.feeder) w.station)) (g:Int):
  t.waits.foldl (JR (callsOf t) cm r (Zu (callsOf t) r i)) g=t.waits.foldl (JR (callsOf t) A r (Zu (callsOf t) r i)) g:=by
 refine Zau _ _ λw hw b=>?_;unfold JR;split
 ·rfl
 rename_i H;have G:w.train=r:=by
  by_cases he:w.train=r
  ·exact he
  exact absurd (.inl he) H
 have I:w.station=(Zu (callsOf t) r i).station:=by
  by_cases he:w.station=(Zu (callsOf t) r i).station
  ·exact he
  exact absurd (.inr he) H
 rw[h w hw G I]
theorem Zmj (t:Zb) (cm:Int->Int->Int) (r a c:Int) (h:0<a):(Zai t cm r a c).comes=c:=by
 unfold Zai;simp only[iP (show¬a=0 by omega)]
theorem ZsZ {t:Zb} (H:Zz t) (x:List Int) {k a b:Nat} {w:W3} (J:StopIn (callsOf t) a b) (hw:J3 t x k a b w):
  (0<b->Zb8 t a (b-1)<k+1->(Zag t x w a b).comes=Xn t x (goes t x) a b)/\(Zod t a b<k+1->Zag t x w a b=ZR t x a b):=by
 have hc:0<b->Zb8 t a (b-1)<k+1->w.go a (b-1)+(Zu (callsOf t) a b).arrive-(Zu (callsOf t) a (b-1:Nat)).depart+Zdq t x a (b-1:Nat)=Xn t x (goes t x) a b:=λG hr=>by
  have V:StopIn (callsOf t) a ((b-1:Nat):Int):=by
   have h:=J.prev (by omega);rwa [show(b:Int)-1=((b-1:Nat):Int) by omega]at h
  have I:Zdj t a (b-1)=false:=by
   unfold Zdj;rw[iS];have:=J.2.2.2;omega
  have h:=(hw a (b-1) V).2 (by
   unfold Zod;rw[I,iQ (.inr ⟨rfl,by omega⟩)]
   exact hr)
  unfold Xn;rw[h.2.2,show(b:Int)-1=((b-1:Nat):Int) by omega];rfl
 have aa:0<b->Zb8 t a (b-1)<k+1->(Zag t x w a b).comes=Xn t x (goes t x) a b:=λG hr=>by
  unfold Zag;rw[Zmj _ _ _ _ _ (by omega),iQ G];exact hc G hr
 refine⟨aa,λA=>?_⟩;rw[ZgR H x J];unfold Zag ZbB;have hn:=H.nn a b J;have h1:(if 0<b then w.go a (b-1)+(Zu (callsOf t) a b).arrive-(Zu (callsOf t) a (b-1:Nat)).depart+Zdq t x a (b-1:Nat)else 0)=(if(0:Int)<b then Xn t x (goes t x) a b else 0):=by
  by_cases G:0<b
  ·rw[iQ G,iQ (by omega)];refine hc G ?_;unfold Zod at A;cases I:Zdj t a b
   ·rw[I]at A;have V:StopIn (callsOf t) a ((b-1:Nat):Int):=by
     have h:=J.prev (by omega);rwa [show(b:Int)-1=((b-1:Nat):Int) by omega]at h
    have:=H.asc a b J (by omega);have Z:=ZmN (a:=a) (b:=b) V (by unfold Q7;rw[show((b-1:Nat):Int)=(b:Int)-1 by omega];omega);simp only[cond_false]at A;omega
   rw[I]at A;exact A
  rw[iP G,iP (by omega)]
 rw[h1];generalize (if(0:Int)<b then Xn t x (goes t x) a b else 0)=c;unfold Zai;have Z:∀q,Za5 t (λf a=>w.co f.toNat a.toNat) a b q=Za5 t (Xn t x (goes t x)) a b q:=λq=>by
  unfold Za5;split
  ·rfl
  rename_i I;refine ZlZ H (λv hv Y e2=>?_) q;have U:=H.w v hv;have S:=YP H hv;generalize hq:ZD (Zm (callsOf t) v.feeder) v.station=q at*;have h3:=U.2.2.2.2.2 b (by rw[Y];exact J) (by rw[Y];exact I) (by rw[Y];exact e2.symm);rw[Y]at h3;have ah:=U.2.2.1;have ai:=U.1;have ha:=H.asc v.feeder q S (by omega);obtain⟨f,ac⟩:∃f:Nat,v.feeder=(f:Int):=⟨v.feeder.toNat,by omega⟩;obtain⟨m,ab⟩:∃m:Nat,q=(m:Int)+1:=⟨(q-1).toNat,by omega⟩;rw[ac,ab]at S ha h3|-;have V:StopIn (callsOf t) f (m:Int):=by
   have h:=S.prev (by omega);rwa [show(m:Int)+1-1=(m:Int) by omega]at h
  have ae:Zdj t a b=false:=by
   unfold Zdj;rw[iS];exact I
  rw[show(m:Int)+1-1=(m:Int) by omega]at ha;have h4:=ZmN (a:=a) (b:=b) V (by unfold Q7;omega);unfold Zod at A;rw[ae]at A;simp only[cond_false]at A
  have h5:=(hw f (m+1) (by rw[Int.natCast_succ];exact S)).1 (by omega) (by
   show Zb8 t f m<_
   split<;>omega)
  show w.co (f:Int).toNat ((m:Int)+1).toNat=_;rw[aW,show((m:Int)+1).toNat=m+1 by omega,h5];rfl
 simp only[Z]
theorem ZnU {t:Zb} (S:Zz t) (x:List Int) {k a b:Nat} {w:W3} (U:StopIn (callsOf t) a b) (hw:J3 t x k a b w):J3 t x k a (b+1) (Za2 t x w a b):=by
 have H:=ZsZ S x U hw;intro r i J;by_cases he:r=a/\i=b
 ·obtain⟨rfl,rfl⟩:=he;rw[iQ (.inr ⟨rfl,by omega⟩)];refine⟨λG hr=>?_,λA=>?_⟩
  ·show JH _ _ _ _ _ _=_;rw[Zbg];exact H.1 G hr
  have h:=H.2 A;show JH _ _ _ _ _ _=_/\JH _ _ _ _ _ _=_/\JH _ _ _ _ _ _=_;rw[Zbg,Zbg,Zbg,h];exact⟨rfl,rfl,rfl⟩
 have h:=hw r i J;have I:(if r<a\/r=a/\i<b+1 then k+1 else k)=(if r<a\/r=a/\i<b then k+1 else k):=by
  by_cases h1:r<a\/r=a/\i<b
  ·rw[iQ h1,iQ (by omega)]
  rw[iP h1,iP (by omega)]
 rw[I];refine⟨λG hr=>?_,λA=>?_⟩
 ·show JH _ _ _ _ _ _=_;rw[Zeh he];exact h.1 G hr
 show JH _ _ _ _ _ _=_/\JH _ _ _ _ _ _=_/\JH _ _ _ _ _ _=_;rw[Zeh he,Zeh he,Zeh he];exact h.2 A
theorem Zp5 {t:Zb} {r i:Nat} (hr:r<(callsOf t).length) (hi:i<ZaE t r):StopIn (callsOf t) r i:=⟨by omega,by omega,by omega,by unfold ZaE at hi;omega⟩
theorem Zuz {t:Zb} (G:Zz t) (x:List Int) {k a:Nat} {w:W3} (A:a<(callsOf t).length) (hw:J3 t x k a 0 w):∀b,b<=ZaE t a->J3 t x k a b (ZnH t x w a b)
 |0,_=>hw
 |b+1,h=>ZnU G x (Zp5 A (by omega)) (Zuz G x A hw b (by omega))
theorem Zqs {t:Zb} (G:Zz t) (x:List Int) {k:Nat} {w:W3} (hw:J3 t x k 0 0 w):∀a,a<=(callsOf t).length->J3 t x k a 0 (Zgn t x w a)
 |0,_=>hw
 |a+1,h=>λr i A=>by
  have I:=Zuz G x (by omega) (Zqs G x hw a (by omega)) (ZaE t a) (aJ _) r i A;have H:(if r<a+1\/r=a+1/\i<0 then k+1 else k)=(if r<a\/r=a/\i<ZaE t a then k+1 else k):=by
   by_cases h2:r<a
   ·rw[iQ (by omega),iQ (by omega)]
   by_cases h3:r=a
   ·subst h3;have:=A.2.2.2;rw[iQ (by omega),iQ (by unfold ZaE;omega)]
   rw[iP (by omega),iP (by omega)]
  rw[H];exact I
theorem ZmM {t:Zb} (G:Zz t) (x:List Int) (w:W3):∀k,J3 t x k 0 0 (Zel t x w k)
 |0=>λr i _=>by
  rw[iP (by omega)];exact⟨λ_ h=>absurd h (by omega),λh=>absurd h (by omega)⟩
 |k+1=>λr i A=>by
  have h:=Zqs G x (ZmM G x w k) (callsOf t).length (aJ _) r i A;have:=A.2.1;rw[iQ (by omega)]at h;rw[iP (by omega)];exact h
theorem Zns (t:Zb):(Xp t).length=((aT (callsOf t).length).map (ZaE t)).sum:=by
 unfold Xp;rw[List.length_flatMap];simp only[bA,cZ]
theorem ZiO {t:Zb} (G:Zz t) (x:List Int) (w:W3) {k:Nat} (H:(Xp t).length<k) {r i:Nat} (A:StopIn (callsOf t) r i):ZuM t x (Zel t x w k) r i:=by
 refine(ZmM G x w k r i A).2 ?_;rw[iP (by omega)];unfold Zod;cases Zdj t r i
 ·have:=ZmO t r i;simp only[cond_false];omega
 have:=ZmO t r (i-1);simp only[cond_true];omega
end Sp
namespace Vm
attribute [local irreducible] Dn
open Go Go.Proofs Sp
set_option maxRecDepth 100000
set_option maxHeartbeats 4000000
def Zbk (l:List Sp.Call) (st f t:Int):Int:=if Zx l f st<=t then Zx l f st else-1
theorem ZdY (n a b:Int):SC (λ_=>aB) 84 [.int .i64 λ_=>n,.int .i64 λ_=>a,.int .i64 λ_=>b] [] λr h=>r= .bool (λ_=> !Qq n a b)/\h=[]:=by
 refine QO Tryz.func84 (body:=Zj Tryz.f84) rfl (by decide+kernel) ?_;refine wS ?_;refine⟨?_,trivial⟩;congr 1;funext _;unfold Qq Y6;rw[Bool.not_not];cases decide (a<=n)<;>rfl
theorem Zmk (l:List Sp.Call) (st f t:Int) (hl:l.length<=1000000) (U:0<=f) (hf:f<=1000000) (ht:-1<=t) (aa:t<=1000000):SC (λ_=>aB) 153 [lst 3 X2 default l,.int .i64 λ_=>st,.int .i64 λ_=>f,.int .i64 λ_=>t] [] λr h=>r= .int .i64 (λ_=>Zbk l st f t)/\h=[]:=by
 obtain⟨Y,O⟩:=Zn;rw[Za O];generalize H:Zbk l st f t=E;unfold Zbk Zx at H;obtain⟨A,U⟩:∃A:Nat,f=(A:Int):=⟨f.toNat,by omega⟩;subst U;rw[show max 0 (A:Int)=A by omega,aW]at H;refine QO Tryz.func153 (body:=Zj Tryz.f153) rfl (by decide+kernel) ?_;refine wS ?_;refine ZJ false false [] [0,1,3,9] [] (λ(i:Nat)=>[(9,.int .i64 λ_=>i)]) (λ_=>[]) (λi=>A<=i/\i<=max A l.length/\Zr (λc=>decide (c.station=st)) (A:Int) (l.drop A)=Zr (λc=>decide (c.station=st)) i (l.drop i)) (λi=>max A l.length-i+0) A ⟨aJ _,by omega,rfl⟩ ?_ ?_
 ·exact ZG
 rintro i ⟨ab,hi,S⟩;rw[S]at H;refine wS ?_;refine⟨λI=>?_,λI=>?_⟩
 ·have J:(i:Int)<=t:=by
   cases ha:decide ((i:Int)<=t)with
   |true=>exact iU ha
   |false=>rw[ha]at I;cases I
  have Z:(i:Int)<l.length:=by
   rw[iX J]at I;exact iU I
  have hd:=Qs (d:=default) O (l:=l) (i:=i) (by omega);have V:Zr (λc:Sp.Call=>decide (c.station=st)) (i:Int) (l.drop i)=if decide ((Y Sp.Call default l i).station=st)=true then(i:Int)else Zr (λc:Sp.Call=>decide (c.station=st)) ((i:Int)+1) (l.drop (i+1)):=by rw[hd,Zr]
  rw[V]at H S;refine wS ?_;refine⟨λG=>?_,λG=>?_⟩
  ·have G:=eq_of_beq G;rw[iQ (c:=decide ((Y Sp.Call default l i).station=st)=true) (by simpa using G),iQ J]at H;subst H;exact zW
  have G:=ne_of_beq_false G;rw[iP (by simpa using G)]at S;refine wS ?_;refine⟨i+1,⟨by omega,by omega,S⟩,by show max A l.length-(i+1)+0<max A l.length-i+0;omega,?_⟩;exact ZG
 have he:E=-1:=by
  by_cases J:(i:Int)<=t
  ·rw[iX J]at I;have Z:=iV I;rw[show l.drop i=[]from bB (by omega)]at H;unfold Zr at H;rw[<-H];split<;>rfl
  have:=Xi (q:=λc:Sp.Call=>decide (c.station=st)) (l:=l.drop i) (i:=(i:Int)) (by omega);rw[<-H];split
  ·omega
  rfl
 subst he;exact zW
theorem ZdC (l:List Sp.Call) (st:Int):Zbk l st 1 (l.length-1)=ZD l st:=by
 unfold Zbk ZD;have:=XK l 1 st;rw[iQ (by omega)]
theorem ZjM (l:List Sp.Call) (st:Int):Zbk l st 0 (l.length-2)=ZQ l st:=by
 unfold Zbk ZQ;by_cases h:Zx l 0 st<(l.length:Int)-1
 ·rw[iQ h,iQ (by omega)]
 rw[iP h,iP (by omega)]
def ZgC (c:List (List Sp.Call)) (f t st:Int):Int×Int×Bool:=
 if(Qq f 0 (c.length-1)||Qq t 0 (c.length-1))=true then(0,0,false)
 else(ZD (c.getD f.toNat []) st,ZQ (c.getD t.toNat []) st,bif decide (0<=ZD (c.getD f.toNat []) st)then decide (0<=ZQ (c.getD t.toNat []) st)else false)
theorem Ztt {f:FuncId} {xs I:List AV} {h:List Zi} {A Q:AV->List Zi->Prop} {B:Prop} (H:SC (λ_=>aB) f I [] Q) (k:B) (t:SC (λ_=>aB) f I [] Q->HdW B->SC (λ_=>aB) f xs h A:=by intro S hW;refine ZL S (by first|rfl|(simp only[Ze,Zd,Zf,Zc,Zt,encSp,Za O];rfl)) λr J G=>?_;(try simp only[Ze,Zd,Zf,Zc,Zt,encSp,Za O]at G);obtain⟨rfl,rfl⟩:=G;exact hW.out):SC (λ_=>aB) f xs h A:=t H ⟨k⟩
theorem Zx9 (c:List (List Sp.Call)) (f t st:Int) (V:YJ c):SC (λ_=>aB) 104 [lst 1 Zc [] c,.int .i64 λ_=>f,.int .i64 λ_=>t,.int .i64 λ_=>st] [] λv h=>v= .tup [.int .i64 λ_=>(ZgC c f t st).1,.int .i64 λ_=>(ZgC c f t st).2.1,.bool λ_=>(ZgC c f t st).2.2]/\h=[]:=by
 obtain⟨S,O⟩:=Zn;rw[JK O];refine SC.less (QO Tryz.func104 (body:=Zj Tryz.f104) rfl (by decide+kernel) ?_);have aa:=V.len;have k1:=ZdY f 0 (c.length-1);have k2:=ZdY t 0 (c.length-1);have G:∀i:Int,0<=i->i<=(c.length:Int)-1->S (List Sp.Call) [] c i∈c:=λi h0 H=>by
  have:i.toNat<c.length:=by omega
  rw[O,aA,aC this];exact bL _
 generalize A:ZgC c f t st=E;unfold ZgC at A;rw[<-O (List Sp.Call) [] c f,<-O (List Sp.Call) [] c t]at A;refine wS ?_;refine Ztt (k1) ?_;cases H:Qq f 0 ((c.length:Int)-1)with
 |true=>
  rw[H,cO,iQ rfl]at A;subst A;refine wS ?_;refine Br.isF rfl ?_;refine wS ?_;refine Br.isT rfl ?_;refine wS ?_;refine⟨_,[],?_,rfl,rfl⟩;exact ZG
 |false=>
  rw[H,cC]at A;refine wS ?_;refine Br.isT rfl ?_;refine wS ?_;refine Ztt (k2) ?_;cases h2:Qq t 0 ((c.length:Int)-1)with
  |true=>
   rw[h2,iQ rfl]at A;subst A;refine wS ?_;refine Br.isT rfl ?_;refine wS ?_;refine⟨_,[],?_,rfl,rfl⟩;exact ZG
  |false=>
   rw[h2,iP aO]at A;refine wS ?_;refine Br.isF rfl ?_;have Z:=QK H;have b2:=QK h2;have m1:=G _ Z.1 Z.2;have m2:=G _ b2.1 b2.2;refine vS ?_;generalize J:S (List Sp.Call) [] c f=F at*;generalize hT:S (List Sp.Call) [] c t=U at*;have r1:=V.row _ m1;have r2:=V.row _ m2;have I:=Zmk F st 1 (F.length-1) (by omega) (by omega) (by omega) (by omega) (by omega);have Y:=Zmk U st 0 (U.length-2) (by omega) (by omega) (by omega) (by omega) (by omega);rw[ZdC]at I;rw[ZjM]at Y;simp only[Za O]at I Y;try simp only[J,hT]
   try refine Chk.mk (ZH) ?_
   refine Ztt (I) ?_;refine vS ?_;try simp only[J,hT]
   try refine Chk.mk (ZH) ?_
   refine Ztt (Y) ?_;subst A;refine vS ?_;try simp only[J,hT]
   try refine Chk.mk (ZH) ?_
   refine⟨_,[],?_,rfl,rfl⟩;exact ZG
def byV (y:List Int) (run leg:Int):Nat->List ZU->Int
 |_,[]=>0
 |i,d::r=>if d.run=run/\d.leg=leg then y.getD i 0 else byV y run leg (i+1) r
theorem ZxP (t:Zb) (y:List Int) (run leg:Int) (Y:t.delays.length<=1000000) (Z:y.length=t.delays.length):SC (λ_=>aB) 193 [Zf t,lst 1 Xd 0 y,.int .i64 λ_=>run,.int .i64 λ_=>leg] [] λv h=>v= .int .i64 (λ_=>byV y run leg 0 t.delays)/\h=[]:=by
 obtain⟨U,O⟩:=Zn;refine QO Tryz.func193 (body:=Zj Tryz.f193) rfl (by decide+kernel) ?_;generalize S:byV y run leg 0 t.delays=E;unfold Zf;simp only[Za O];refine wS ?_;refine ZJ false false [] [1,2,3,4,9] [] (λ(i:Nat)=>[(9,.int .i64 λ_=>i)]) (λ_=>[]) (λi=>i<=t.delays.length/\byV y run leg i (t.delays.drop i)=E) (λi=>t.delays.length-i+0) 0 ⟨aV _,S⟩ ?_ ?_
 ·exact ZG
 rintro i ⟨hi,A⟩;refine wS ?_;refine⟨λH=>?_,λH=>?_⟩
 ·have H:=iU H;have I:=Qs (d:=default) O (l:=t.delays) (i:=i) (by omega);rw[I]at A;unfold byV at A;simp only[Zt,Za O];generalize V:U ZU default t.delays i=x at*;refine vS ?_;try simp only[V]
  try refine Chk.mk (ZH) ?_
  have J:(bif x.run==run then x.leg==leg else false)=decide (x.run=run/\x.leg=leg):=by
   by_cases e1:x.run=run<;>by_cases e2:x.leg=leg<;>simp[e1,e2]
  refine⟨λG=>?_,λG=>?_⟩
  ·rw[J]at G;rw[iQ (iU G),XH O]at A;subst A;exact zW
  rw[J]at G;rw[iP (iV G)]at A;refine wS ?_;refine⟨i+1,⟨by omega,A⟩,by show t.delays.length-(i+1)+0<t.delays.length-i+0;omega,?_⟩;exact ZG
 have H:=iV H;rw[bB (by omega)]at A;unfold byV at A;subst A;exact zW
end Vm
namespace Sp
open Vm
def lenAt (ds:List ZU) (m:Nat):Nat:=(ds.getD m default).by_.length
def stepT (ds:List ZU):Nat->List Int->Option (List Int)
 |0,_=>none
 |m+1,x=>if x.getD m 0=(lenAt ds m:Int)-1 then stepT ds m (x.set m 0)else some (x.set m (x.getD m 0+1))
def Zmy:List Int:=[0,0,0,0,0,0]
def Ye (ds:List ZU):Nat->Nat->List Int
 |0,_=>Zmy
 |m+1,n=>(Ye ds m (n/lenAt ds m)).set m ((n%lenAt ds m:Nat):Int)
def Yw (ds:List ZU):Nat->Nat
 |0=>1
 |m+1=>Yw ds m*lenAt ds m
def manyT (t:Zb):Nat:=Yw t.delays t.delays.length
def Zk (t:Zb) (n:Nat):List Int:=Ye t.delays t.delays.length n
theorem Yc {ds:List ZU}:∀(m n:Nat),(Ye ds m n).length=6
 |0,_=>rfl
 |m+1,n=>by unfold Ye;rw[List.length_set];exact Yc m _
theorem Za7 {ds:List ZU}:∀(m n k:Nat),m<=k->(Ye ds m n).getD k 0=0
 |0,_,k,_=>by
  unfold Ye Zmy;match k with
  |0|1|2|3|4|5=>rfl
  |k+6=>rfl
 |m+1,n,k,h=>by
  unfold Ye;rw[aA,cQ (by omega),<-aA];exact Za7 m _ k (by omega)
theorem Zjn {ds:List ZU} (m n:Nat) (hm:m<6):(Ye ds m n).set m 0=Ye ds m n:=by
 refine List.ext_getElem? λi=>?_;by_cases h:m=i
 ·subst h;rw[cS (by rw[Yc];exact hm)];have A:=Za7 (ds:=ds) m n m (aJ _);rw[aA,aC (by rw[Yc];exact hm)]at A;rw[aC (by rw[Yc];exact hm)];exact congrArg some A.symm
 rw[cQ h]
theorem ZkG {ds:List ZU} (I:∀m,m<ds.length->1<=lenAt ds m) (V:ds.length<=6):∀(m n:Nat),m<=ds.length->n<Yw ds m->stepT ds m (Ye ds m n)=if n+1<Yw ds m then some (Ye ds m (n+1))else none
 |0,n,_,h=>by
  unfold Yw at*;rw[iP (by omega)];rfl
 |m+1,n,hm,h=>by
  have hl:=I m (by omega);unfold Yw at h|-;have Y:n/lenAt ds m<Yw ds m:=Nat.div_lt_of_lt_mul (by rw[ea];exact h);have Z:=ZkG I V m (n/lenAt ds m) (by omega) Y;have hx:(Ye ds (m+1) n).getD m 0=((n%lenAt ds m:Nat):Int):=by
   show((Ye ds m (n/lenAt ds m)).set m _).getD m 0=_;rw[aA,cS (by rw[Yc];omega)];rfl
  have aa:=Nat.div_add_mod n (lenAt ds m);have ab:=eE n (show lenAt ds m>0 by omega);unfold stepT;rw[hx];by_cases he:n%lenAt ds m+1=lenAt ds m
  ·rw[iQ (by omega)];have U:(Ye ds (m+1) n).set m 0=Ye ds m (n/lenAt ds m):=by
    show((Ye ds m (n/lenAt ds m)).set m _).set m 0=_;rw[iI,Zjn m _ (by omega)]
   have G:n+1=lenAt ds m*(n/lenAt ds m+1):=by rw[Nat.mul_add];omega
   rw[U,Z];by_cases A:n/lenAt ds m+1<Yw ds m
   ·have H:n+1<Yw ds m*lenAt ds m:=by rw[G,ea (lenAt ds m)];exact Nat.mul_lt_mul_of_pos_right A (by omega)
    rw[iQ A,iQ H];congr 1;show _=(Ye ds m ((n+1)/lenAt ds m)).set m (((n+1)%lenAt ds m:Nat):Int);rw[G,Nat.mul_div_cancel_left _ (by omega),Nat.mul_mod_right];exact(Zjn m _ (by omega)).symm
   rw[iP A,iP];rw[G,ea (lenAt ds m)];have:=aL (lenAt ds m) (show Yw ds m<=n/lenAt ds m+1 by omega);omega
  rw[iP (by omega)];have A:n%lenAt ds m+1<lenAt ds m:=by omega
  have G:n+1=lenAt ds m*(n/lenAt ds m)+(n%lenAt ds m+1):=by omega
  have S:(n+1)/lenAt ds m=n/lenAt ds m:=by
   rw[G,Nat.mul_add_div (by omega),Nat.div_eq_of_lt A];omega
  have J:(n+1)%lenAt ds m=n%lenAt ds m+1:=by
   rw[G,Nat.mul_add_mod,Nat.mod_eq_of_lt A]
  have H:n+1<Yw ds m*lenAt ds m:=by
   have h3:=aL (lenAt ds m) (show n/lenAt ds m+1<=Yw ds m by omega);rw[dI,Nat.one_mul,ea (n/lenAt ds m)]at h3;omega
  rw[iQ H];congr 1;show((Ye ds m (n/lenAt ds m)).set m _).set m _=(Ye ds m ((n+1)/lenAt ds m)).set m (((n+1)%lenAt ds m:Nat):Int);rw[iI,S,J];rfl
theorem Zq3 {ds:List ZU} (A:∀m,m<ds.length->1<=lenAt ds m) (G:ds.length<=6):∀(m n:Nat),m<=ds.length->∀k,k<m->0<=(Ye ds m n).getD k 0/\(Ye ds m n).getD k 0<lenAt ds k
 |0,_,_,k,h=>by omega
 |m+1,n,hm,k,h=>by
  by_cases he:m=k
  ·subst he;have H:=A m (by omega);have:(Ye ds (m+1) n).getD m 0=((n%lenAt ds m:Nat):Int):=by
    show((Ye ds m (n/lenAt ds m)).set m _).getD m 0=_;rw[aA,cS (by rw[Yc];omega)];rfl
   rw[this];have:=eE n (show lenAt ds m>0 by omega);omega
  have:(Ye ds (m+1) n).getD k 0=(Ye ds m (n/lenAt ds m)).getD k 0:=by
   show((Ye ds m (n/lenAt ds m)).set m _).getD k 0=_;rw[aA,cQ he,<-aA]
  rw[this];exact Zq3 A G m _ (by omega) k (by omega)
theorem Zvg {t:Zb} (A:Zz t):∀m,m<t.delays.length->1<=lenAt t.delays m:=λm h=>by
 unfold lenAt;rw[aA,aC h];exact(A.d _ (bL h)).1
theorem YT {t:Zb} (A:Zz t) (n:Nat):JE t (Zk t n):=⟨Yc _ _,λi G=>Zq3 (Zvg A) A.dlen _ n (aJ _) i G⟩
theorem Zdy {t:Zb} (A:Zz t) {n:Nat} (G:n<manyT t):stepT t.delays t.delays.length (Zk t n)=if n+1<manyT t then some (Zk t (n+1))else none:=ZkG (Zvg A) A.dlen _ n (aJ _) G
theorem Zj3 {ds:List ZU} (A:∀m,m<ds.length->1<=lenAt ds m):∀m,m<=ds.length->1<=Yw ds m
 |0,_=>aJ _
 |m+1,h=>fH (Zj3 A m (by omega)) (A m (by omega))
theorem Zka {t:Zb} (A:Zz t):1<=manyT t:=Zj3 (Zvg A) _ (aJ _)
theorem Zih {ds:List ZU}:∀m,m<=6->Ye ds m 0=Zmy
 |0,_=>rfl
 |m+1,h=>by
  unfold Ye;rw[Nat.zero_div,Nat.zero_mod];show(Ye ds m 0).set m 0=_;rw[Zjn m 0 (by omega)];exact Zih m (by omega)
theorem Zdx {t:Zb} (A:Zz t):Zk t 0=Zmy:=Zih _ A.dlen
def EndAt (stop:Nat->Bool) (n m:Nat):Prop:=(m=n/\∀j,j<n->stop j=false)\/∃j,m=j+1/\j<n/\stop j=true/\∀i,i<j->stop i=false
def Y8 (t:Zb) (x:List Int):List Int:=(aT t.delays.length).map λi=>(t.delays.getD i default).by_.getD (x.getD i 0).toNat 0
theorem ZoJ (t:Zb) (x:List Int):(Y8 t x).length=t.delays.length:=by unfold Y8;rw[bA,cZ]
theorem Zrl (t:Zb) (x:List Int) (run leg:Int):∀(l:List ZU) (i:Nat),t.delays.drop i=l->byV (Y8 t x) run leg i l=Zha x run leg i l
 |[],_,_=>rfl
 |d::l,i,h=>by
  have H:i<t.delays.length:=by
   refine Nat.lt_of_not_le λI=>?_;rw[bB I]at h;cases h
  have G:t.delays.getD i default=d:=by
   have A:(t.delays.drop i)[0]? =some d:=by rw[h];rfl
   rw[List.getElem?_drop]at A;rw[aA,show i=i+0 by omega,A];rfl
  have hv:(Y8 t x).getD i 0=d.by_.getD (x.getD i 0).toNat 0:=by
   unfold Y8;rw[aA,List.getElem?_map,List.getElem?_range H];show(t.delays.getD i default).by_.getD _ 0=_;rw[G]
  unfold byV Zha;rw[hv,Zrl t x run leg l (i+1) (by rw[<-List.tail_drop,h];rfl)]
theorem ZvH (t:Zb) (x:List Int) (run leg:Int):byV (Y8 t x) run leg 0 t.delays=Zdq t x run leg:=Zrl t x run leg _ 0 rfl
def BdW (t:Zb) (w:W3):Prop:=∀r i:Nat,StopIn (callsOf t) r i->(0<=w.co r i/\w.co r i<=Q7 t r i+60+240*i)/\(0<=w.re r i/\w.re r i<=Q7 t r i+60+240*i)/\(0<=w.go r i/\w.go r i<=Q7 t r i+60+240*i)
theorem ZhX {t:Zb} {r i:Nat} (h:StopIn (callsOf t) r i) (hi:0<i):StopIn (callsOf t) r (i-1:Nat):=by
 have h:=h.prev (by omega);rwa [show(i:Int)-1=((i-1:Nat):Int) by omega]at h
def YH (t:Zb) (x:List Int) (w:W3) (r i:Nat):Int:=w.go r (i-1)+(Zu (callsOf t) r i).arrive-(Zu (callsOf t) r (i-1:Nat)).depart+Zdq t x r (i-1:Nat)
theorem Zne {t:Zb} (A:Zz t) (x:List Int) {w:W3} (hw:BdW t w) {r i:Nat} (G:StopIn (callsOf t) r i) (hi:0<i):0<=YH t x w r i/\YH t x w r i<=Q7 t r i+60+240*i:=by
 have J:=(hw r (i-1) (ZhX G hi)).2.2;have H:=A.asc r i G (by omega);rw[show(i:Int)-1=((i-1:Nat):Int) by omega]at H;have S:=A.nn r i G;have I:=ZdZ A x r (i-1:Nat);unfold YH;unfold Q7 at*;have:((i-1:Nat):Int)=(i:Int)-1:=by omega
 omega
theorem ZlR {t:Zb} (x:List Int) {w:W3} {r i:Nat}:Zag t x w r i=Zai t (λf a=>w.co f.toNat a.toNat) r i (if 0<i then YH t x w r i else 0):=rfl
theorem Zs0 {t:Zb} (A:Zz t) (x:List Int) {w:W3} (hw:BdW t w) {r i:Nat} (H:StopIn (callsOf t) r i):BdW t (Za2 t x w r i):=by
 have U:=A.nn r i H;have I:(0<=(Zag t x w r i).comes/\(Zag t x w r i).comes<=Q7 t r i+60+240*i)/\(0<=(Zag t x w r i).ready/\(Zag t x w r i).ready<=Q7 t r i+60+240*i)/\(0<=(Zag t x w r i).goes/\(Zag t x w r i).goes<=Q7 t r i+60+240*i):=by
  have S:0<=(if 0<i then YH t x w r i else 0)/\(if 0<i then YH t x w r i else 0)<=Q7 t r i+60+240*i:=by
   split
   ·exact Zne A x hw H (by assumption)
   unfold Q7;omega
  rw[ZlR];generalize (if 0<i then YH t x w r i else 0)=c at*;unfold Zai Zdg Za5;unfold Q7 at*;by_cases hl:(i:Int)=((Zm (callsOf t) r).length:Int)-1
  ·simp only[iQ hl];split<;>omega
  simp only[iP hl];have J:=Zdv A (cm:=λf a=>w.co f.toNat a.toNat) (r:=r) (call:=Zu (callsOf t) r i) (M:=(Zu (callsOf t) r i).depart+60+240*i) (by omega) t.waits (max (Zu (callsOf t) r i).depart c) (λw hw=>hw) (by omega);split<;>omega
 intro a b G;by_cases he:a=r/\b=i
 ·obtain⟨rfl,rfl⟩:=he;unfold Za2;simp only[Zbg];exact I
 unfold Za2;simp only[Zeh he];exact hw a b G
theorem ZnV {t:Zb} (x:List Int) (w:W3) {r i:Nat} (A:(i:Int)=((Zm (callsOf t) r).length:Int)-1) (G:0<i):Za2 t x w r i=⟨JH w.co r i (YH t x w r i),JH w.re r i (YH t x w r i),JH w.go r i (YH t x w r i)⟩:=by
 unfold Za2;rw[ZlR,iQ G];generalize YH t x w r i=c;unfold Zai Zdg Za5;simp only[iQ A,iP (show¬(i:Int)=0 by omega)]
def goW (t:Zb) (w:W3) (r i:Nat) (rd:Int):Int:=t.waits.foldl (JR (callsOf t) (λf a=>w.co f.toNat a.toNat) r (Zu (callsOf t) r i)) rd
theorem ZqC {t:Zb} (x:List Int) (w:W3) {r i:Nat} (A:¬(i:Int)=((Zm (callsOf t) r).length:Int)-1) (G:0<=Q7 t r i):
  Za2 t x w r i=⟨JH w.co r i (bif decide (0<i)then YH t x w r i else goW t w r i (Q7 t r i)),JH w.re r i (bif decide (0<i)then max (Q7 t r i) (YH t x w r i)else Q7 t r i),JH w.go r i (goW t w r i (bif decide (0<i)then max (Q7 t r i) (YH t x w r i)else Q7 t r i))⟩:=by
 unfold Za2;rw[ZlR];unfold Zai Zdg Za5;simp only[iP A];by_cases h0:0<i
 ·rw[iQ h0,iX h0];simp only[iP (show¬(i:Int)=0 by omega),cond_true];rfl
 rw[iP h0,iW h0];simp only[iQ (show(i:Int)=0 by omega),cond_false];rw[show max (Zu (callsOf t) r i).depart 0=Q7 t r i by unfold Q7 at*;omega];rfl
def W0:W3:=⟨λ_ _=>0,λ_ _=>0,λ_ _=>0⟩
theorem ZrK {t:Zb} (G:Zz t):BdW t W0:=λr i A=>by
 have:=G.nn r i A;unfold W0 Q7;simp only;omega
theorem ZhQ (t:Zb):(Xp t).length=((callsOf t).map fA).sum:=by
 rw[Zns];congr 1;refine List.ext_getElem (by simp) λi H G=>?_;have A:i<(callsOf t).length:=by simpa using G
 rw[fw,fw,List.getElem_range];unfold ZaE Zm;rw[aW,aA,aC A];rfl
theorem ZmA:∀(c:List (List Call)),(∀l∈c,l.length<=4)->(c.map fA).sum<=4*c.length
 |[],_=>aJ _
 |l::c,h=>by
  have G:=h l (aU ..);have H:=ZmA c λx A=>h x (aR _ A);rw[List.map_cons,List.sum_cons,bF];omega
theorem Zp3 {t:Zb} (A:Zz t):(Xp t).length<=16:=by
 rw[ZhQ];have I:=ZmA (callsOf t) λl G=>(A.calls.row l G).2;have H:=A.calls.len;omega
end Sp
namespace Vm
attribute [local irreducible] Dn
open Go Go.Proofs Sp
set_option maxRecDepth 100000
set_option maxHeartbeats 1600000
theorem ZkX {α:Type} [Inhabited α] {A:(α:Type)->α->List α->Int->α} (O:∀(α:Type) (d:α) (l:List α) (i:Int),A α d l i=l.getD i.toNat d) {q:α->Bool} {l:List α} {k:Nat} (G:k<l.length):(l.take (k+1)).any q=((l.take k).any q||q (A α default l (k:Int))):=by
 rw[Yb (d:=default) O G,List.any_append];simp
theorem ZkP {A:(α:Type)->α->List α->Int->α} (O:∀(α:Type) (d:α) (l:List α) (i:Int),A α d l i=l.getD i.toNat d) (b:Xv):Zd b= .agg [.isl 2 (λ_=>(b.zones.length:Int)) (λe=>encZone (A Zone default b.zones (e ()))) .none,.isl 3 (λ_=>(b.old.length:Int)) (λe=>encTrain (A Train default b.old (e ()))) .none,.isl 3 (λ_=>(b.new.length:Int)) (λe=>encTrain (A Train default b.new (e ()))) .none,.int .i64 λ_=>b.night,.int .i64 λ_=>b.last]:=by
 unfold Zd;simp only[Za O]
theorem ZyL (b:Xv) (l:List Stop) (hz:b.zones.length<=1000000) (hl:l.length<=1000000):SC (λ_=>aB) 181 [Zd b,lst 4 Q5 default l] [] λv h=>v= .int .i64 (λ_=>if ZS l.length 2 4≠0 then ZS l.length 2 4 else Ym b.zones.length l)/\h=[]:=by
 obtain⟨nt,O⟩:=Zn;generalize S:(if ZS l.length 2 4≠0 then ZS l.length 2 4 else Ym b.zones.length l)=E;unfold Zd;simp only[Za O];refine QO Tryz.func181 (body:=Zj Tryz.f181) rfl (by decide+kernel) ?_;refine wS ?_;refine⟨λh1=>?_,λh1=>?_⟩
 ·simp only[iR]at h1;rw[show ZS l.length 2 4=7 by unfold ZS;rw[iQ (by omega)],iQ (by decide)]at S;subst S;exact zW
 simp only[iS]at h1;refine wS ?_;refine⟨λV=>?_,λV=>?_⟩
 ·simp only[iR]at V;rw[show ZS l.length 2 4=6 by unfold ZS;rw[iP (by omega),iQ (by omega)],iQ (by decide)]at S;subst S;exact zW
 simp only[iS]at V;rw[show ZS l.length 2 4=0 by unfold ZS;rw[iP (by omega),iP (by omega)],iP (by decide)]at S;refine wS ?_;refine ZJ false false [] [1,2,5] [] (λ(i:Nat)=>[(5,.int .i64 λ_=>(i:Int))]) (λ_=>[]) (λi=>i<=l.length/\Zo (Xb b.zones.length l) i (l.length-i)=E) (λi=>l.length-i+0) 0 ⟨aV _,by simpa [Ym]using S⟩ ?_ ?_
 ·exact ZG
 rintro i ⟨hi,A⟩;refine wS ?_;refine⟨λI=>?_,λI=>?_⟩
 ·simp only[iR]at I;obtain⟨q,hq⟩:∃q,l.length-i=q+1:=⟨l.length-i-1,by omega⟩;rw[hq,Zo]at A;have ab:Xb b.zones.length l i=Y4 (l.take i) (nt Stop default l i) (decide (0<i)&&decide ((i:Int)<l.length-1)) b.zones.length:=by unfold Xb;rw[O];rfl
  rw[ab]at A;unfold Y4 at A;refine wS ?_;generalize nt Stop default l i=s at*;refine ZcX (c72 s.station 0 9) ?_;refine vS ?_;refine⟨λh3=>?_,λh3=>?_⟩
  ·simp only[iQ h3]at A;rw[iQ (by decide)]at A;subst A;exact zW
  simp only[iP (show¬(!Y6 s.station 0 9)=true by rw[h3];exact aO)]at A;refine wS ?_;refine X3 λQ Y=>?_;refine ZJ false false [] [1,2,5,6,7] [] (λ(k:Nat)=>[(7,.int .i64 λ_=>(k:Int))]) (λ_=>[]) (λk=>k<=i/\(l.take k).any (λx=>decide (x.station=s.station))=false) (λk=>i-k+0) 0 ⟨aV _,by simp⟩ ?_ ?_
  ·exact ZG
  rintro k ⟨hk,U⟩;refine wS ?_;refine⟨λI=>?_,λI=>?_⟩
  ·simp only[iR]at I;have aa:k<l.length:=by omega
   have H:=ZkX O (q:=λx:Stop=>decide (x.station=s.station)) aa;rw[U,cC]at H;refine wS ?_;simp only[ZbI];refine⟨λZ=>?_,λZ=>?_⟩
   ·rw[Z]at H;have:(l.take i).any (λx=>decide (x.station=s.station))=true:=by
     rw[dY]at H|-;obtain⟨x,hx,h⟩:=H;exact⟨x,List.Sublist.subset (gl (by omega)) hx,h⟩
    simp only[iQ this]at A;rw[iQ (by decide)]at A;subst A;refine wS ?_;refine Y _ _ _ ?_;exact zW
   rw[Z]at H;refine wS ?_;refine⟨k+1,⟨by omega,H⟩,by show i-(k+1)+0<i-k+0;omega,?_⟩;exact ZG
  simp only[iS]at I;obtain rfl:k=i:=by omega
  simp only[U,aX,if_false]at A;refine wS ?_;refine Y _ _ _ ?_;clear Y;refine wS ?_;refine ZcX (c72 s.zone 0 ((b.zones.length:Int)-1)) ?_;refine vS ?_;refine⟨λh5=>?_,λh5=>?_⟩
  ·simp only[iQ h5]at A;rw[iQ (by decide)]at A;subst A;exact zW
  simp only[iP (show¬(!Y6 s.zone 0 ((b.zones.length:Int)-1))=true by rw[h5];exact aO)]at A;refine wS ?_;refine ZcX (c72 s.arrive 0 4319) ?_;refine wS ?_;refine⟨λG=>?_,λG=>?_⟩
  ·have G:Y6 s.arrive 0 4319=true:=by simpa using G
   refine wS ?_;refine ZcX (c72 s.depart 0 4319) ?_;refine wS ?_;refine⟨λJ=>?_,λJ=>?_⟩
   ·have J:Y6 s.depart 0 4319=false:=by simpa [G]using J
    simp only[G,J,ez,d9,cC,if_true]at A;rw[iQ (by decide)]at A;subst A;exact zW
   have J:Y6 s.depart 0 4319=true:=by simpa [G]using J
   simp only[G,J,d9,cC,aX,if_false]at A;have he:(decide (0<k)&&decide ((k:Int)<l.length-1)&&decide (s.depart<s.arrive))=(bif bif decide (0<(k:Int))then decide ((k:Int)<(l.length:Int)-1)else false then decide (s.depart<s.arrive)else false):=by
    rw[show decide (0<k)=decide (0<(k:Int))from by rw[Bool.eq_iff_iff];simp];cases decide (0<(k:Int))<;>cases decide ((k:Int)<(l.length:Int)-1)<;>rfl
   rw[he]at A;refine wS ?_;refine⟨λh8=>?_,λh8=>?_⟩
   ·rw[iQ h8,iQ (by decide)]at A;subst A;exact zW
   simp only[h8,aX,if_false,ne_eq,not_true_eq_false]at A;refine wS ?_;refine⟨k+1,⟨by omega,by rw[<-A];congr 1;omega⟩,by show l.length-(k+1)+0<l.length-k+0;omega,?_⟩;exact ZG
  have G:Y6 s.arrive 0 4319=false:=by simpa using G
  simp only[G,ez,cO,if_true]at A;rw[iQ (by decide)]at A;subst A;refine wS ?_;refine Br.isT (by rfl) ?_;exact zW
 simp only[iS]at I;rw[show l.length-i=0 by omega,Zo]at A;subst A;exact zW
theorem c71 (b:Xv) (l:List Train) (hz:b.zones.length<=1000000) (hl:l.length<=1000000) (hs:∀t∈l,t.stops.length<=1000000):SC (λ_=>aB) 140 [Zd b,lst 3 encTrain default l] [] λv h=>v= .int .i64 (λ_=>Qe b.zones.length l)/\h=[]:=by
 obtain⟨H,O⟩:=Zn;unfold Qe;generalize Y:(if ZS l.length 0 4≠0 then ZS l.length 0 4 else Zo (QP b.zones.length l) 0 l.length)=E;unfold Zd;simp only[Za O];refine QO Tryz.func140 (body:=Zj Tryz.f140) rfl (by decide+kernel) ?_;refine wS ?_;refine⟨λh2=>?_,λh2=>?_⟩
 ·simp only[iR]at h2;rw[show ZS l.length 0 4=6 by unfold ZS;rw[iP (by omega),iQ (by omega)],iQ (by decide)]at Y;subst Y;exact zW
 simp only[iS]at h2;rw[show ZS l.length 0 4=0 by unfold ZS;rw[iP (by omega),iP (by omega)],iP (by decide)]at Y;refine wS ?_;refine ZJ false false [] [1,2,5] [] (λ(i:Nat)=>[(5,.int .i64 λ_=>(i:Int))]) (λ_=>[]) (λi=>i<=l.length/\Zo (QP b.zones.length l) i (l.length-i)=E) (λi=>l.length-i+0) 0 ⟨aV _,by simpa using Y⟩ ?_ ?_
 ·exact ZG
 rintro i ⟨hi,G⟩;refine wS ?_;refine⟨λJ=>?_,λJ=>?_⟩
 ·simp only[iR]at J;have ac:i<l.length:=by omega
  obtain⟨q,hq⟩:∃q,l.length-i=q+1:=⟨l.length-i-1,by omega⟩;rw[hq,Zo]at G;have ab:=hs _ (QC (d:=default) O (l:=l) (i:=i) ac);have A:QP b.zones.length l i=if !Y6 (H Train default l i).number 1 999 then 1 else if(l.take i).any (λx=>decide (x.number=(H Train default l i).number))then 4 else if !Y6 (H Train default l i).days 1 127 then 1
   else if ZS (H Train default l i).stops.length 2 4≠0 then ZS (H Train default l i).stops.length 2 4 else Ym b.zones.length (H Train default l i).stops:=by unfold QP;rw[O];rfl
  refine wS ?_;refine ZcX (c72 (H Train default l i).number 1 999) ?_;refine vS ?_;refine⟨λS=>?_,λS=>?_⟩
  ·rw[iQ S]at A;rw[A,iQ (by decide)]at G;subst G;exact zW
  rw[iP (by rw[S];exact aO)]at A;refine wS ?_;refine X3 λQ hQ=>?_;refine ZJ false false [] [1,2,5,6] [] (λ(k:Nat)=>[(6,.int .i64 λ_=>(k:Int))]) (λ_=>[]) (λk=>k<=i/\(l.take k).any (λx=>decide (x.number=(H Train default l i).number))=false) (λk=>i-k+0) 0 ⟨aV _,by simp⟩ ?_ ?_
  ·exact ZG
  rintro k ⟨hk,Z⟩;refine wS ?_;refine⟨λJ=>?_,λJ=>?_⟩
  ·simp only[iR]at J;have aa:k<l.length:=by omega
   have I:=ZkX O (q:=λx:Train=>decide (x.number=(H Train default l i).number)) aa;rw[Z,cC]at I;refine wS ?_;simp only[ZbI];refine⟨λh4=>?_,λh4=>?_⟩
   ·rw[h4]at I;have:(l.take i).any (λx=>decide (x.number=(H Train default l i).number))=true:=by
     rw[dY]at I|-;obtain⟨x,hx,h⟩:=I;exact⟨x,List.Sublist.subset (gl (by omega)) hx,h⟩
    rw[iQ this]at A;rw[A,iQ (by decide)]at G;subst G;refine wS ?_;refine hQ _ _ _ ?_;exact zW
   rw[h4]at I;refine wS ?_;refine⟨k+1,⟨by omega,I⟩,by show i-(k+1)+0<i-k+0;omega,?_⟩;exact ZG
  simp only[iS]at J;obtain rfl:k=i:=by omega
  rw[Z,iP (by exact aO)]at A;refine wS ?_;refine hQ _ _ _ ?_;clear hQ;refine wS ?_;refine ZcX (c72 (H Train default l (k:Int)).days 1 127) ?_;refine vS ?_;refine⟨λS=>?_,λS=>?_⟩
  ·rw[iQ S]at A;rw[A,iQ (by decide)]at G;subst G;exact zW
  rw[iP (by rw[S];exact aO)]at A;refine wS ?_;have U:=ZyL b (H Train default l (k:Int)).stops hz ab;rw[ZkP O]at U;refine ZL U rfl λr ae G=>?_;obtain⟨rfl,rfl⟩:=G;rw[<-A];generalize QP b.zones.length l k=e at*;refine vS ?_;refine⟨λV=>?_,λV=>?_⟩
  ·simp only[bne_iff_ne,ne_eq]at V;rw[iQ V]at G;subst G;exact zW
  simp only[iY]at V;rw[iP (λh=>h V)]at G;refine wS ?_;refine⟨k+1,⟨by omega,by rw[<-G];congr 1;omega⟩,by show l.length-(k+1)+0<l.length-k+0;omega,?_⟩;exact ZG
 simp only[iS]at J;rw[show l.length-i=0 by omega,Zo]at G;subst G;exact zW
theorem c25 (b:Xv) (I:Xt b):SC (λ_=>aB) 87 [Zd b] [] λv h=>v= .int .i64 (λ_=>Yq b)/\h=[]:=by
 obtain⟨nt,O⟩:=Zn;have hz:=I.zones;have hc:=I.chs;unfold Yq;generalize A:(if ZS b.zones.length 1 3≠0 then _ else _:Int)=E;have Y:=c71 b b.old hz I.old I.stops.1;have k2:=c71 b b.new hz I.new I.stops.2;unfold Zd at Y k2|-;simp only[Za O]at Y k2|-;refine QO Tryz.func87 (body:=Zj Tryz.f87) rfl (by decide+kernel) ?_;refine wS ?_;refine⟨λV=>?_,λV=>?_⟩
 ·have V:b.zones.length=0:=by simpa using V
  rw[show ZS b.zones.length 1 3=7 by unfold ZS;rw[iQ (by omega)],iQ (by decide)]at A;subst A;exact zW
 have V:¬b.zones.length=0:=by simpa using V
 refine wS ?_;refine⟨λZ=>?_,λZ=>?_⟩
 ·simp only[iR]at Z;rw[show ZS b.zones.length 1 3=6 by unfold ZS;rw[iP (by omega),iQ (by omega)],iQ (by decide)]at A;subst A;exact zW
 simp only[iS]at Z;rw[show ZS b.zones.length 1 3=0 by unfold ZS;rw[iP (by omega),iP (by omega)],iP (by decide)]at A;generalize hF:Zo (λi=>ZB (b.zones.getD i default)) 0 b.zones.length=F at*;refine wS ?_;refine X3 λQ hQ=>?_;refine ZJ false false [] [1,3] [] (λ(i:Nat)=>[(3,.int .i64 λ_=>(i:Int))]) (λ_=>[]) (λi=>i<=b.zones.length/\Zo (λi=>ZB (b.zones.getD i default)) i (b.zones.length-i)=F) (λi=>b.zones.length-i+0) 0 ⟨aV _,by simpa using hF⟩ ?_ ?_
 ·exact ZG
 rintro i ⟨hi,J⟩;refine wS ?_;refine⟨λI=>?_,λI=>?_⟩
 ·simp only[iR]at I;obtain⟨q,hq⟩:∃q,b.zones.length-i=q+1:=⟨b.zones.length-i-1,by omega⟩;rw[hq,Zo]at J;have ab:=hc _ (QC (d:=default) O (l:=b.zones) (i:=i) (by omega));have aa:b.zones.getD i default=nt Zone default b.zones i:=by rw[O];rfl
  rw[aa]at J;refine wS ?_;generalize nt Zone default b.zones i=z at*;refine ZcX (c70 z ab) ?_;generalize ZB z=e at*;refine vS ?_;refine⟨λG=>?_,λG=>?_⟩
  ·simp only[bne_iff_ne,ne_eq]at G;rw[iQ G]at J;subst J;rw[iQ G]at A;subst A;refine wS ?_;refine hQ _ _ _ ?_;exact zW
  simp only[iY]at G;rw[iP (λh=>h G)]at J;refine wS ?_;refine⟨i+1,⟨by omega,by rw[<-J];congr 1;omega⟩,by show b.zones.length-(i+1)+0<b.zones.length-i+0;omega,?_⟩;exact ZG
 simp only[iS]at I;rw[show b.zones.length-i=0 by omega,Zo]at J;subst J;rw[iP (λh=>h rfl)]at A;refine wS ?_;refine hQ _ _ _ ?_;clear hQ;generalize Qe b.zones.length b.old=e1 at*;generalize Qe b.zones.length b.new=e2 at*;refine wS ?_;refine ZcX (Y) ?_;refine wS ?_;refine⟨λG=>?_,λG=>?_⟩
 ·simp only[bne_iff_ne,ne_eq]at G;rw[iQ G]at A;subst A;exact zW
 simp only[iY]at G;rw[iP (λh=>h G)]at A;refine wS ?_;refine ZcX (k2) ?_;refine wS ?_;refine⟨λU=>?_,λU=>?_⟩
 ·simp only[bne_iff_ne,ne_eq]at U;rw[iQ U]at A;subst A;exact zW
 simp only[iY]at U;rw[iP (λh=>h U)]at A;refine wS ?_;have S:=c72 b.last 0 13;rcases hI:Y6 b.last 0 13 with _|_
 ·rw[hI]at S A;simp only[ez,cO,if_true]at A;subst A;refine ZcX (S) ?_;refine vS ?_;refine Chk.mk (by simp[XD,XB,XC,Cn.p]) ?_;refine Br.isF (by rfl) ?_;refine wS ?_;refine Br.isT (by rfl) ?_;exact zW
 have ac:0<=b.last/\b.last<=13:=by simpa [Y6]using hI
 rw[hI]at S A;simp only[d9,cC]at A;refine ZcX (S) ?_;refine wS ?_;refine Br.isT (by rfl) ?_;refine wS ?_;refine ZcX (c72 b.night 0 (b.last+1)) ?_;refine wS ?_;refine⟨λH=>?_,λH=>?_⟩
 ·have H:Y6 b.night 0 (b.last+1)=false:=by simpa using H
  rw[iQ (by simp[H])]at A;subst A;exact zW
 have H:Y6 b.night 0 (b.last+1)=true:=by simpa using H
 rw[iP (by simp[H])]at A;subst A;exact zW
theorem ZyE (b:Xv) (day:Int):SC (λ_=>aB) 168 [Zd b,.int .i64 λ_=>day] [] λv h=>v=lst 3 encTrain default (QS b day)/\h=[]:=by
 refine QO Tryz.func168 (body:=Zj Tryz.f168) rfl (by decide+kernel) ?_;unfold Zd QS;refine wS ?_;refine⟨λA=>?_,λA=>?_⟩
 ·simp only[iR]at A;rw[iQ A];exact zW
 simp only[iS]at A;rw[iP A];exact zW
theorem ZyC (t:Train) (day:Int) (G:0<=day/\day<=1000000) (A:0<=t.days/\t.days<=1000000):SC (λ_=>aB) 170 [.agg (encTrain t),.int .i64 λ_=>day] [] λv h=>v= .bool (λ_=>Zb4 t day)/\h=[]:=by
 refine QO Tryz.func170 (body:=Zj Tryz.f170) rfl (by decide+kernel) ?_;have e:=(ZtF day 7).1 G.1;refine vS ?_;rw[e];refine Chk.mk (ZH) ?_;refine vS ?_;refine⟨?_,trivial⟩;congr 1;funext _;rw[Nat.min_eq_left (show(day%7).toNat<=IntKind.i64.bits by show _<=64;omega),Int.fdiv_eq_ediv_of_nonneg _ (gA (gN (by omega)))];have H:0<=t.days/2^(day%7).toNat:=Int.ediv_nonneg A.1 (gA (gN (by omega)));have I:t.days/2^(day%7).toNat<=t.days:=Int.ediv_le_self _ A.1;unfold Zb4;generalize t.days/2^(day%7).toNat=q at*;rw[Zni q H (by omega),ZbI]
theorem ZyD (l:List Train) (n:Int) (J:l.length<=1000000):SC (λ_=>aB) 169 [lst 3 encTrain default l,.int .i64 λ_=>n] [] λv h=>v= .int .i64 (λ_=>place l n)/\h=[]:=by
 obtain⟨S,O⟩:=Zn;unfold place;generalize I:Zr (λt:Train=>decide (t.number=n)) 0 l=E;rw[Za O];refine QO Tryz.func169 (body:=Zj Tryz.f169) rfl (by decide+kernel) ?_;refine wS ?_;refine ZJ false false [] [0,1,5] [] (λ(i:Nat)=>[(5,.int .i64 λ_=>(i:Int))]) (λ_=>[]) (λi=>i<=l.length/\Zr (λt:Train=>decide (t.number=n)) i (l.drop i)=E) (λi=>l.length-i+0) 0 ⟨aV _,by simpa using I⟩ ?_ ?_
 ·exact ZG
 rintro i ⟨U,A⟩;refine wS ?_;refine⟨λH=>?_,λH=>?_⟩
 ·simp only[iR]at H;rw[Qs (d:=default) O (l:=l) (i:=i) (by omega),Zr]at A;refine wS ?_;simp only[ZbI];refine⟨λG=>?_,λG=>?_⟩
  ·rw[iQ G]at A;subst A;exact zW
  rw[iP (by rw[G];exact aO)]at A;refine wS ?_;refine⟨i+1,⟨by omega,by rw[<-A];rfl⟩,by show l.length-(i+1)+0<l.length-i+0;omega,?_⟩;exact ZG
 simp only[iS]at H;rw[bB (by omega),Zr]at A;subst A;exact zW
theorem Zjg:∀(l:List Chg) (fr a r t:Int),(∀p∈Xa fr a l,p.fr<XO/\r-p.ahd<XO)->t<XO->Xl (Xa fr a l) r t<XO
 |[],fr,a,r,t,h,ht=>by
  have:=h ⟨fr,XO,a⟩ (by simp[Xa]);simp only[Xa,Xl]at*;rw[iQ (by omega)];omega
 |c::l,fr,a,r,t,h,ht=>by
  unfold Xa at h|-;split
  ·rename_i A;rw[iQ A]at h;unfold Xl;split
   ·have:=h ⟨fr,c.at_,a⟩ (aU ..);simp only at this|-;omega
   exact Zjg l _ _ _ _ (λp G=>h p (aR _ G)) ht
  rename_i A;rw[iP A]at h;exact Zjg l _ _ _ _ h ht
theorem Zm5:∀(l:List Pc) (r t:Int),0<=t->0<=Xl l r t
 |[],_,_,_=>by unfold Xl XO;omega
 |p::l,r,t,h=>by
  unfold Xl;split
  ·omega
  exact Zm5 l r t h
theorem Zkq {z:Zone} (H:ZB z=0) {r t:Int} (hr:r<=1000000) (A:0<=t/\t<XO):0<=Xl (ZW z) r t/\Xl (ZW z) r t<XO:=by
 refine⟨Zm5 _ _ _ A.1,Zjg _ _ _ _ _ (λp G=>?_) A.2⟩;have:=(Zeo H).2 p G;unfold XO;omega
theorem ZyB (b:Xv) (t:Train) (day:Int) (ab:∀z∈b.zones,ZB z=0) (ht:∀s∈t.stops,(0<=s.zone/\s.zone<b.zones.length)/\(0<=s.arrive/\s.arrive<=10000)/\0<=s.depart/\s.depart<=10000) (ac:2<=t.stops.length/\t.stops.length<=1000) (hd:0<=day/\day<=100):
  SC (λ_=>aB) 171 [Zd b,.agg (encTrain t),.int .i64 λ_=>day] [] λv h=>v=lst 3 X2 default (calls b.zones t day)/\h=[]:=by
 obtain⟨G,O⟩:=Zn;refine SC.less (Zg3 false false [] Tryz.func171 (body:=Zj Tryz.f171) rfl (by decide+kernel) ?_);rw[ZkP O];rw[show AV.agg (encTrain t)= .agg [.int .i64 λ_=>t.number,.int .i64 λ_=>t.days,.isl 4 (λ_=>(t.stops.length:Int)) (λe=>Q5 (G Stop default t.stops (e ()))) .none] by unfold encTrain;rw[Za O]];refine wS ?_;refine ZJ false false [] [2,3,4,7,8,9] [.tok 3 λ_=>0] (λ(⟨i,now,out⟩:Nat×Int×List Sp.Call)=>[(7,.isl 3 (λ_=>(out.length:Int)) (λe=>X2 (G Sp.Call default out (e ()))) (.own 2)),(8,.int .i64 λ_=>now),(9,.int .i64 λ_=>(i:Int))])
  (λ⟨i,now,out⟩=>[(2,.tok 3 λ_=>(out.length:Int))])
  (λ⟨i,now,out⟩=>(i<=t.stops.length/\out.length=i/\calls b.zones t day=out++Xj b.zones day t.stops.length i now (t.stops.drop i))/\0<=now/\now<XO) (λi=>t.stops.length-i.1+0) (0,0,[]) ⟨⟨aV _,rfl,rfl⟩,by decide,by decide⟩ ?_ ?_
 ·(refine To.of [(3,false)] ?_;cbv;(try simp only[nc]);(repeat' first|exact xT|refine⟨?_,?_⟩|refine ZM.cells ?_|refine ZC.agg ?_|refine ZC.tup ?_);all_goals try exact XZ)
 rintro⟨i,now,out⟩ ⟨⟨hi,ho,hp⟩,A⟩
 have aa:∀k:Nat,k<t.stops.length->ZB (G Zone default b.zones (G Stop default t.stops (k:Int)).zone)=0:=λk hk=>ab _ (by
  have:=ht _ (QC (d:=default) O (l:=t.stops) (i:=k) hk)
  rw[O,aA,aC (by omega)];exact bL _)
 have Z:∀z:Int,b.zones.getD z.toNat default=G Zone default b.zones z:=λz=>by rw[O]
 refine wS ?_;refine⟨λU=>?_,λU=>?_⟩
 ·simp only[iR]at U;have J:i<t.stops.length:=by omega
  have hs:=ht _ (QC (d:=default) O (l:=t.stops) (i:=i) J);have S:=aa i J;rw[Qs (d:=default) O J,Xj]at hp;simp only[Z]at hp;refine wS ?_;generalize G Stop default t.stops (i:Int)=s at*;generalize Y:G Zone default b.zones s.zone=z at*;have ka:=λn A=>Zxi z (1440*day+s.arrive) n S (by omega) A;have kd:=λn A=>Zxi z (1440*day+s.depart) n S (by omega) A;have I:=λn A=>Zkq (t:=n) S (show 1440*day+s.arrive<=1000000 by omega) A;have H:=λn A=>Zkq (t:=n) S (show 1440*day+s.depart<=1000000 by omega) A;generalize hL:ZW z=L at*;rcases cJ i with h0|h0
  ·subst h0;rw[iQ rfl,iQ (by omega)]at hp;refine Br.isF (by simp) ?_;refine wS ?_;refine Br.isT (by simp;omega) ?_;refine vS ?_;simp only[Y];refine Chk.mk (ZH) ?_;refine ZcX (kd now A) ?_;have H:=H now A;try dsimp only at hp
   generalize Xl L (1440*day+s.depart) now=d at*;refine wS ?_;refine Br.isT (by simp) ?_;refine wS ?_;refine⟨(1,d,out++[⟨s.station,d,d⟩]),⟨⟨by omega,by simp only[bf,bF,cE];omega,by rw[hp];simp⟩,H⟩,by show t.stops.length-1+0<t.stops.length-0+0;omega,?_⟩;exact ZG
  rw[iP (by omega)]at hp;refine Br.isT (by simp;omega) ?_;refine vS ?_;simp only[Y];refine Chk.mk (ZH) ?_;refine ZcX (ka now A) ?_;have I:=I now A;try dsimp only at hp
  generalize Xl L (1440*day+s.arrive) now=a at*;refine wS ?_;refine⟨λV=>?_,λV=>?_⟩
  ·simp only[iR]at V;rw[iQ (by omega)]at hp;refine vS ?_;simp only[Y];refine Chk.mk (ZH) ?_;refine ZcX (kd a I) ?_;have H:=H a I;generalize Xl L (1440*day+s.depart) a=d at*;refine wS ?_;refine Br.isF (by simp;omega) ?_;refine wS ?_;refine⟨(i+1,d,out++[⟨s.station,a,d⟩]),⟨⟨by omega,by simp only[bf,bF,cE];omega,by rw[hp];simp⟩,H⟩,by show t.stops.length-(i+1)+0<t.stops.length-i+0;omega,?_⟩;exact ZG
  simp only[iS]at V;rw[iP (by omega)]at hp;refine wS ?_;refine Br.isF (by simp;omega) ?_;refine wS ?_;refine⟨(i+1,a,out++[⟨s.station,a,a⟩]),⟨⟨by omega,by simp only[bf,bF,cE];omega,by rw[hp];simp⟩,I⟩,by show t.stops.length-(i+1)+0<t.stops.length-i+0;omega,?_⟩;exact ZG
 simp only[iS]at U;rw[bB (by omega),Xj,List.append_nil]at hp;rw[hp];refine wS ?_;refine⟨lst 3 X2 default out,[],?_,rfl,rfl⟩;simp only[Za O];exact ZG
theorem ZnK (l:List Train) (n:Int):place l n=-1\/0<=place l n/\place l n<l.length:=by
 have:=Xi (q:=λt:Train=>decide (t.number=n)) (l:=l) (i:=0) (by omega);rcases cJ l.length with h|h
 ·rw[List.eq_nil_of_length_eq_zero h];exact .inl rfl
 unfold place;omega
theorem Zvy (b:Xv) (n day:Int) (hf:Xt b):SC (λ_=>aB) 128 [Zd b,.int .i64 λ_=>n,.int .i64 λ_=>day] [] λv h=>v= .tup [lst 3 X2 default (J1 b n day).1,.int .i64 λ_=>(J1 b n day).2]/\h=[]:=by
 obtain⟨I,O⟩:=Zn;refine SC.less (QO Tryz.func128 (body:=Zj Tryz.f128) rfl (by decide+kernel) ?_);unfold Zd J1;simp only[Za O];refine wS ?_;refine ZcX (c25 b hf) ?_;have J:=λh=>ZcO (b:=b) h;generalize Yq b=e at*;refine vS ?_;refine⟨λA=>?_,λA=>?_⟩
 ·simp only[bne_iff_ne,ne_eq]at A;rw[iQ A];refine wS ?_;refine⟨_,[],?_,rfl,rfl⟩;exact ZG
 simp only[iY]at A;have H:=J A;subst A;rw[iP (λh=>h rfl)];refine wS ?_;refine ZcX (c72 day 0 b.last) ?_;refine vS ?_;refine⟨λA=>?_,λA=>?_⟩
 ·rw[iQ A];refine wS ?_;refine⟨_,[],?_,rfl,rfl⟩;exact ZG
 rw[iP (by rw[A];exact aO)];have aa:=ZaG (by simpa using A:Y6 day 0 b.last=true);have Y:=H.last;have S:=Zf1 H day;refine wS ?_;refine ZcX (ZyE b day) ?_;have ab:=ZnK (QS b day) n;generalize QS b day=l at*;refine wS ?_;refine ZcX (ZyD l n (by omega)) ?_;generalize place l n=p at*;refine vS ?_;refine⟨λA=>?_,λA=>?_⟩
 ·simp only[iR]at A;rw[iQ A];refine wS ?_;refine⟨_,[],?_,rfl,rfl⟩;exact ZG
 simp only[iS]at A;rw[iP A];obtain⟨k,rfl⟩:∃k:Nat,p=k:=⟨p.toNat,by omega⟩;refine wS ?_;have G:=S.2 _ (QC (d:=default) O (l:=l) (i:=k) (by omega));have U:l.getD (k:Int).toNat default=I Train default l k:=by rw[O]
 rw[U];have V:=G.days;refine ZcX (ZyC (I Train default l k) day (by omega) (by omega)) ?_;refine vS ?_;refine⟨λA=>?_,λA=>?_⟩
 ·rw[iQ A];refine wS ?_;refine⟨_,[],?_,rfl,rfl⟩;exact ZG
 rw[iP (by rw[A];exact aO)];refine wS ?_;have Z:=G.len;refine ZcX (ZyB b (I Train default l k) day H.zones (λs hs=>by obtain⟨_,h1,h2,h3⟩:=G.stops s hs;omega) (by omega) (by omega)) ?_;generalize calls b.zones (I Train default l k) day=C at*;refine wS ?_;refine⟨_,[],?_,rfl,rfl⟩;(try simp only[Jt O]);exact ZG
set_option maxHeartbeats 4000000
theorem Zoe {a b:Z3}:a=b↔a.number=b.number/\a.day=b.day:=by
 cases a;cases b;simp
theorem Zto (t:Zb) (Z:Xt t.book) (hr:t.runs.length<=1000000):SC (λ_=>aB) 89 [Zf t] [] λv h=>v=lst 1 Zc [] (callsOf t)/\h=[]:=by
 obtain⟨V,O⟩:=Zn;refine SC.less (QO Tryz.func89 (body:=Zj Tryz.f89) rfl (by decide+kernel) ?_);unfold Zf;simp only[Za O];refine wS ?_;refine ZJ false false [] [1,3,4] [.tok 1 λ_=>0] (λ(⟨i,out⟩:Nat×List (List Sp.Call))=>[(3,.isl 1 (λ_=>(out.length:Int)) (λe=>Zc (V (List Sp.Call) [] out (e ()))) (.own 1)),(4,.int .i64 λ_=>i)])
  (λ⟨i,out⟩=>[(1,.tok 1 λ_=>(out.length:Int))])
  (λ⟨i,out⟩=>i<=t.runs.length/\out=(t.runs.take i).map (YF t)) (λi=>t.runs.length-i.1+0) (0,[]) ⟨aV _,by simp⟩ ?_ ?_
 ·(refine To.of [(1,false)] ?_;cbv;(try simp only[nc]);(repeat' first|exact xT|refine⟨?_,?_⟩|refine ZM.cells ?_|refine ZC.agg ?_|refine ZC.tup ?_);all_goals try exact XZ)
 rintro⟨i,out⟩ ⟨hi,ho⟩;have ab:out.length=i:=by rw[ho];simp;omega
 refine wS ?_;refine⟨λJ=>?_,λJ=>?_⟩
 ·simp only[iR]at J;have G:=Yb (d:=default) O (l:=t.runs) (i:=i) (by omega);generalize Y:V Z3 default t.runs i=d at*;refine vS ?_;simp only[Y];refine Chk.mk (ZH) ?_;have A:=Zvy t.book d.number d.day Z;have S:=ZdF t.book d.number d.day;have H:YF t d=(J1 t.book d.number d.day).1:=rfl;unfold Zd at A;simp only[Za O]at A;generalize J1 t.book d.number d.day=r at*;obtain⟨C,er⟩:=r;refine ZL (A) (by first|rfl|(simp only[Ze,Zd,Zf,Za O];rfl)) λr aa U=>?_;(try simp only[Ze,Zd,Zf,Za O]at U);obtain⟨rfl,rfl⟩:=U;dsimp only at S H;refine wS ?_;refine⟨(i+1,out++[C]),⟨by omega,by rw[G,dD,ho];simp[H]⟩,by show t.runs.length-(i+1)+0<t.runs.length-i+0;omega,?_⟩;refine toR ?_;exact .snoc O rfl rfl (by simp only[Zc,Za O];rfl)
 simp only[iS]at J;have I:out=callsOf t:=by rw[ho,dT (by omega)];rfl
 subst I;refine wS ?_;refine⟨_,[],?_,rfl,rfl⟩;exact ZG
theorem Zyd (t:Zb) (hf:Xt t.book) (hr:t.runs.length<=1000000):SC (λ_=>aB) 88 [Zf t] [] λv h=>v= .int .i64 (λ_=>QJ t)/\h=[]:=by
 obtain⟨S,O⟩:=Zn;refine QO Tryz.func88 (body:=Zj Tryz.f88) rfl (by decide+kernel) ?_;have V:QJ t=if t.runs.length=0 then 7 else if 4<t.runs.length then 6 else Zo (Y9 t) 0 t.runs.length:=rfl
 generalize QJ t=e at*;unfold Zf;simp only[Za O];refine wS ?_;refine⟨λA=>?_,λA=>?_⟩
 ·have A:=eq_of_beq A;rw[iQ (by omega)]at V;subst V;exact zW
 have A:=ne_of_beq_false A;rw[iP (by omega)]at V;refine wS ?_;refine⟨λaa=>?_,λaa=>?_⟩
 ·simp only[iR]at aa;rw[iQ (by omega)]at V;subst V;exact zW
 simp only[iS]at aa;rw[iP (by omega)]at V;refine wS ?_;refine ZJ false false [] [1,3] [] (λ(i:Nat)=>[(3,.int .i64 λ_=>i)])
  (λ_=>[])
  (λi=>i<=t.runs.length/\e=Zo (Y9 t) i (t.runs.length-i)) (λi=>t.runs.length-i+0) 0 ⟨aV _,V⟩ ?_ ?_
 ·exact ZG
 rintro i ⟨hi,J⟩;refine wS ?_;refine⟨λA=>?_,λA=>?_⟩
 ·simp only[iR]at A;rw[Qn (by omega)]at J;have I:Y9 t i=if(J1 t.book (S Z3 default t.runs i).number (S Z3 default t.runs i).day).2≠0 then(J1 t.book (S Z3 default t.runs i).number (S Z3 default t.runs i).day).2
   else if Xe (YF t (S Z3 default t.runs i))≠0 then 5
   else if(t.runs.take i).any (λx=>decide (x=S Z3 default t.runs i))then 4 else 0:=by unfold Y9;rw[XH O]
  generalize hd:S Z3 default t.runs i=d at*;refine vS ?_;simp only[hd];refine Chk.mk (ZH) ?_;have Z:=Zvy t.book d.number d.day hf;have U:=ZdF t.book d.number d.day;have ab:YF t d=(J1 t.book d.number d.day).1:=rfl;unfold Zd at Z;simp only[Za O]at Z;generalize J1 t.book d.number d.day=r at*;obtain⟨C,er⟩:=r;refine ZL (Z) (by first|rfl|(simp only[Ze,Zd,Zf,Za O];rfl)) λr ah J=>?_;(try simp only[Ze,Zd,Zf,Za O]at J);obtain⟨rfl,rfl⟩:=J;dsimp only at I U ab;refine wS ?_;refine⟨λA=>?_,λA=>?_⟩
  ·simp only[bne_iff_ne,ne_eq]at A;rw[iQ A]at I;rw[I,iQ A]at J;subst J;exact zW
  simp only[iY]at A;subst A;rw[iP (λh=>h rfl),ab]at I;have ai:=U.2 rfl;have aj:=U.1;clear Z U;refine wS ?_;refine X3 λQ hQ=>?_;refine ZJ false false [] [1,3,4,6] [] (λ(j:Nat)=>[(6,.int .i64 λ_=>((j+1:Nat):Int))]) (λ_=>[]) (λj=>j+1<=C.length/\Xe C=Zo (YM C) (j+1) (C.length-(j+1))) (λj=>C.length-(j+1)+0) 0 ⟨by omega,rfl⟩ ?_ ?_
  ·exact ZG
  rintro j ⟨hk,G⟩;refine wS ?_;refine⟨λA=>?_,λA=>?_⟩
  ·simp only[iR]at A;rw[Qn (by omega)]at G;have Y:YM C (j+1)=if(S Sp.Call default C ((j+1:Nat):Int)).arrive<=(S Sp.Call default C (((j+1:Nat):Int)-1)).depart then 5 else 0:=by
    unfold YM;rw[XH O,XH O,show((j+1-1:Nat):Int)=((j+1:Nat):Int)-1 by omega]
   refine wS ?_;refine⟨λH=>?_,λH=>?_⟩
   ·simp only[iR]at H;rw[iQ H]at Y;rw[Y,iQ (by decide)]at G;rw[G,iQ (by decide)]at I;rw[I,iQ (by decide)]at J;subst J;refine wS ?_;refine hQ _ _ _ ?_;exact zW
   simp only[iS]at H;rw[iP H]at Y;rw[Y,iP (λh=>h rfl)]at G;refine wS ?_;refine⟨j+1,⟨by omega,by rw[G]⟩,by show C.length-(j+1+1)+0<C.length-(j+1)+0;omega,?_⟩;exact ZG
  simp only[iS]at A;rw[Qv (by omega)]at G;rw[G,iP (λh=>h rfl)]at I;refine wS ?_;refine hQ _ _ _ ?_;refine wS ?_;refine X3 λQ2 ac=>?_;refine ZJ false false [] [1,3,7] [] (λ(k:Nat)=>[(7,.int .i64 λ_=>(k:Int))]) (λ_=>[]) (λk=>k<=i/\(t.runs.take i).any (λx=>decide (x=d))=((t.runs.take i).drop k).any (λx=>decide (x=d))) (λk=>i-k+0) 0 ⟨by omega,by simp⟩ ?_ ?_
  ·exact ZG
  rintro k ⟨hk,G⟩;refine wS ?_;refine⟨λA=>?_,λA=>?_⟩
  ·simp only[iR]at A;have ae:(t.runs.take i).drop k=S Z3 default t.runs k::(t.runs.take i).drop (k+1):=by
    have h:=Qs (d:=default) O (l:=t.runs.take i) (i:=k) (by rw[bT];omega);rw[h];congr 1;rw[O,O,aW,aA,gC (by omega),aA]
   rw[ae,eM]at G;generalize hx:S Z3 default t.runs k=x at*;refine vS ?_;try simp only[hx,hd]
   try refine Chk.mk (ZH) ?_
   have he:(x.number==d.number&&(x.day==d.day&&true))=decide (x=d):=by
    by_cases e1:x.number=d.number<;>by_cases e2:x.day=d.day<;>simp[Zoe,e1,e2]
   refine⟨λH=>?_,λH=>?_⟩
   ·rw[he]at H;rw[H,cO]at G;rw[G,iQ rfl]at I;rw[I,iQ (by decide)]at J;subst J;refine wS ?_;refine ac _ _ _ ?_;exact zW
   rw[he]at H;rw[H,cC]at G;refine wS ?_;refine⟨k+1,⟨by omega,G⟩,by show i-(k+1)+0<i-k+0;omega,?_⟩;exact ZG
  simp only[iS]at A;rw[bB (by rw[bT];omega),fF]at G;rw[G,iP aO]at I;rw[I,iP (λh=>h rfl)]at J;refine wS ?_;refine ac _ _ _ ?_;refine wS ?_;refine⟨i+1,⟨by omega,by rw[J]⟩,by show t.runs.length-(i+1)+0<t.runs.length-i+0;omega,?_⟩;exact ZG
 simp only[iS]at A;rw[Qv (by omega)]at J;subst J;exact zW
theorem Zdz {α:Type} {d:α} {A:(α:Type)->α->List α->Int->α} (O:∀(α:Type) (d:α) (l:List α) (i:Int),A α d l i=l.getD i.toNat d) {l:List α} {i k:Nat} (G:k<i) (hi:i<=l.length):(l.take i).drop k=A α d l k::(l.take i).drop (k+1):=by
 have h:=Qs (d:=d) O (l:=l.take i) (i:=k) (by rw[bT];omega);rw[h];congr 1;rw[O,O,aW,aA,gC (by omega),aA]
theorem Zyc (t:Zb) (c:List (List Sp.Call)) (hc:YJ c) (hw:t.waits.length<=1000000):SC (λ_=>aB) 90 [Zf t,lst 1 Zc [] c] [] λv h=>v= .int .i64 (λ_=>if 4<t.waits.length then 6 else Zo (λi=>Qf c (t.waits.getD i default) (t.waits.take i)) 0 t.waits.length)/\h=[]:=by
 obtain⟨Z,O⟩:=Zn;refine QO Tryz.func90 (body:=Zj Tryz.f90) rfl (by decide+kernel) ?_;generalize hE:(if 4<t.waits.length then 6 else Zo (λi=>Qf c (t.waits.getD i default) (t.waits.take i)) 0 t.waits.length)=E;have ae:=hc.len;have aa:∀i:Int,0<=i->i<=(c.length:Int)-1->Z (List Sp.Call) [] c i∈c:=λi h0 h1=>by
  have:i.toNat<c.length:=by omega
  rw[O,aA,aC this];exact bL _
 have ac:=JK O c;rw[ac];unfold Zf;simp only[Za O];refine wS ?_;refine⟨λH=>?_,λH=>?_⟩
 ·have H:=iU H;rw[iQ (by omega)]at hE;subst hE;exact zW
 have H:=iV H;rw[iP (by omega)]at hE;refine wS ?_;refine ZJ false false [] [1,2,5] [] (λ(i:Nat)=>[(5,.int .i64 λ_=>i)]) (λ_=>[]) (λi=>i<=t.waits.length/\Zo (λi=>Qf c (t.waits.getD i default) (t.waits.take i)) i (t.waits.length-i)=E) (λi=>t.waits.length-i+0) 0 ⟨aV _,hE⟩ ?_ ?_
 ·exact ZG
 rintro i ⟨hi,G⟩;refine wS ?_;refine⟨λH=>?_,λH=>?_⟩;rotate_left
 ·have H:=iV H;rw[Qv (by omega)]at G;subst G;exact zW
 have H:=iU H;rw[Qn (by omega)]at G;have ab:Qf c (t.waits.getD i default) (t.waits.take i)=Qf c (Z QR default t.waits i) (t.waits.take i):=by rw[XH O]
 simp only[ab]at G;clear ab;generalize hd:Z QR default t.waits i=w at*;refine vS ?_;simp only[hd];refine Chk.mk (ZH) ?_;generalize A:Qf c w (t.waits.take i)=e at*;unfold Qf at A;have k1:=ZdY w.feeder 0 (c.length-1);have k2:=ZdY w.train 0 (c.length-1);have k3:=ZdY w.minutes 0 60;have k4:=Zx9 c w.feeder w.train w.station hc;rw[ac]at k4;have V:ZgC c w.feeder w.train w.station=if(Qq w.feeder 0 (c.length-1)||Qq w.train 0 (c.length-1))=true then(0,0,false)
  else(ZD (c.getD w.feeder.toNat []) w.station,ZQ (c.getD w.train.toNat []) w.station,bif decide (0<=ZD (c.getD w.feeder.toNat []) w.station)then decide (0<=ZQ (c.getD w.train.toNat []) w.station)else false):=rfl
 generalize ZgC c w.feeder w.train w.station=M at*;rw[<-O (List Sp.Call) [] c w.feeder,<-O (List Sp.Call) [] c w.train]at A V;refine Zrk (k1) ?_;cases h1:Qq w.feeder 0 ((c.length:Int)-1)with
 |true=>
  rw[h1,cO,iQ rfl]at A;subst A;rw[iQ (by decide)]at G;subst G;refine wS ?_;refine Br.isF rfl ?_;refine wS ?_;refine Br.isT rfl ?_;exact zW
 |false=>
  rw[h1,cC]at A V;refine wS ?_;refine Br.isT rfl ?_;refine wS ?_;refine Zrk (k2) ?_;cases h2:Qq w.train 0 ((c.length:Int)-1)with
  |true=>
   rw[h2,iQ rfl]at A;subst A;rw[iQ (by decide)]at G;subst G;refine wS ?_;refine Br.isT rfl ?_;exact zW
  |false=>
   rw[h2,iP aO]at A V;refine wS ?_;refine Br.isF rfl ?_;have b1:=QK h1;have b2:=QK h2;have m1:=aa _ b1.1 b1.2;have m2:=aa _ b2.1 b2.2;clear k1 k2;refine wS ?_;refine⟨λS=>?_,λS=>?_⟩
   ·have S:=eq_of_beq S;rw[iQ S]at A;subst A;rw[iQ (by decide)]at G;subst G;exact zW
   have S:=ne_of_beq_false S;rw[iP S]at A;refine wS ?_;refine Zrk (k4) ?_;generalize hF:Z (List Sp.Call) [] c w.feeder=F at*;generalize hT:Z (List Sp.Call) [] c w.train=U at*;have r1:=hc.row _ m1;have r2:=hc.row _ m2;have s1:ZD F w.station<F.length/\-1<=ZD F w.station:=by have:=XK F 1 w.station;unfold ZD;omega
   have s2:ZQ U w.station<(U.length:Int)-1/\-1<=ZQ U w.station:=by
    have:=XK U 0 w.station;unfold ZQ;split<;>omega
   generalize ZD F w.station=a at*;generalize ZQ U w.station=b at*;subst V;dsimp only;refine wS ?_;refine⟨λJ=>?_,λJ=>?_⟩
   ·rw[iQ (by
     by_cases ha:0<=a
     ·rw[iX ha]at J;have:=iV (nb2 J);omega
     omega)]at A
    subst A;rw[iQ (by decide)]at G;subst G;exact zW
   have h5:0<=a/\0<=b:=by
    have J:=nb4 J;by_cases ha:0<=a
    ·rw[iX ha]at J;have:=iU J;omega
    rw[iW ha]at J;cases J
   rw[iP (by omega)]at A;clear J k4;refine wS ?_;refine Zrk (k3) ?_;refine wS ?_;refine⟨λh7=>?_,λh7=>?_⟩
   ·rw[iQ (by simpa using h7)]at A;subst A;rw[iQ (by decide)]at G;subst G;exact zW
   rw[iP (by simpa using h7)]at A;rw[<-O Sp.Call default U b,<-O Sp.Call default F a]at A;refine vS ?_;try simp only[hF,hT]
   try refine Chk.mk (ZH) ?_
   refine⟨λY=>?_,λY=>?_⟩
   ·have Y:=iU Y;rw[iQ Y]at A;subst A;rw[iQ (by decide)]at G;subst G;exact zW
   rw[iP (iV Y)]at A;clear Y h7 k3;refine wS ?_;refine X3 λQ hQ=>?_;refine ZJ false false [] [1,2,5,6,10] [] (λ(k:Nat)=>[(10,.int .i64 λ_=>(k:Int))]) (λ_=>[]) (λk=>k<=i/\(t.waits.take i).any (λx=>decide (x.feeder=w.feeder/\x.train=w.train/\x.station=w.station))=((t.waits.take i).drop k).any (λx=>decide (x.feeder=w.feeder/\x.train=w.train/\x.station=w.station))) (λk=>i-k+0) 0 ⟨by omega,by simp⟩ ?_ ?_
   ·exact ZG
   rintro k ⟨hk,I⟩;refine wS ?_;refine⟨λH=>?_,λH=>?_⟩
   ·simp only[iR]at H;rw[Zdz (d:=default) O (by omega) (by omega),eM]at I;generalize hx:Z QR default t.waits k=x at*;refine vS ?_;try simp only[hx,hd]
    try refine Chk.mk (ZH) ?_
    have he:(bif (bif x.feeder==w.feeder then x.train==w.train else false)then x.station==w.station else false)=decide (x.feeder=w.feeder/\x.train=w.train/\x.station=w.station):=by
     by_cases e1:x.feeder=w.feeder<;>by_cases e2:x.train=w.train<;>by_cases e3:x.station=w.station<;>simp[e1,e2,e3]
    refine⟨λh9=>?_,λh9=>?_⟩
    ·rw[he]at h9;rw[h9,cO]at I;rw[I,iQ rfl]at A;subst A;rw[iQ (by decide)]at G;subst G;refine wS ?_;refine hQ _ _ _ ?_;exact zW
    rw[he]at h9;rw[h9,cC]at I;refine wS ?_;refine⟨k+1,⟨by omega,I⟩,by show i-(k+1)+0<i-k+0;omega,?_⟩;exact ZG
   simp only[iS]at H;rw[bB (by rw[bT];omega),fF]at I;rw[I,iP aO]at A;subst A;rw[iP (λh=>h rfl)]at G;refine wS ?_;refine hQ _ _ _ ?_;refine wS ?_;refine⟨i+1,⟨by omega,G⟩,by show t.waits.length-(i+1)+0<t.waits.length-i+0;omega,?_⟩;exact ZG
theorem Zcr {A:(α:Type)->α->List α->Int->α} (O:∀(α:Type) (d:α) (l:List α) (i:Int),A α d l i=l.getD i.toNat d) (d:ZU):Zt d=[.int .i64 λ_=>d.run,.int .i64 λ_=>d.leg,.isl 1 (λ_=>(d.by_.length:Int)) (λe=>Xd (A Int 0 d.by_ (e ()))) .none]:=by unfold Zt;rw[Za O]
theorem Zyb (t:Zb) (c:List (List Sp.Call)) (hc:YJ c) (hw:t.delays.length<=1000000) (S:∀d∈t.delays,d.by_.length<=1000000):SC (λ_=>aB) 91 [Zf t,lst 1 Zc [] c] [] λv h=>v= .int .i64 (λ_=>if 6<t.delays.length then 6 else Zo (λi=>Qy c (t.delays.getD i default) (t.delays.take i)) 0 t.delays.length)/\h=[]:=by
 obtain⟨I,O⟩:=Zn;refine QO Tryz.func91 (body:=Zj Tryz.f91) rfl (by decide+kernel) ?_;generalize hE:(if 6<t.delays.length then 6 else Zo (λi=>Qy c (t.delays.getD i default) (t.delays.take i)) 0 t.delays.length)=E;have ai:=hc.len;have aa:∀i:Int,0<=i->i<=(c.length:Int)-1->I (List Sp.Call) [] c i∈c:=λi h0 h1=>by
  have:i.toNat<c.length:=by omega
  rw[O,aA,aC this];exact bL _
 have ah:=JK O c;rw[ah];unfold Zf;simp only[Za O];refine wS ?_;refine⟨λG=>?_,λG=>?_⟩
 ·have G:=iU G;rw[iQ (by omega)]at hE;subst hE;exact zW
 have G:=iV G;rw[iP (by omega)]at hE;refine wS ?_;refine ZJ false false [] [1,2,5] [] (λ(i:Nat)=>[(5,.int .i64 λ_=>i)]) (λ_=>[]) (λi=>i<=t.delays.length/\Zo (λi=>Qy c (t.delays.getD i default) (t.delays.take i)) i (t.delays.length-i)=E) (λi=>t.delays.length-i+0) 0 ⟨aV _,hE⟩ ?_ ?_
 ·exact ZG
 rintro i ⟨hi,H⟩;refine wS ?_;refine⟨λG=>?_,λG=>?_⟩;rotate_left
 ·have G:=iV G;rw[Qv (by omega)]at H;subst H;exact zW
 have G:=iU G;rw[Qn (by omega)]at H;have ab:Qy c (t.delays.getD i default) (t.delays.take i)=Qy c (I ZU default t.delays i) (t.delays.take i):=by rw[XH O]
 simp only[ab]at H;clear ab;have aj:=S _ (QC (d:=default) O (l:=t.delays) (i:=i) (by omega));simp only[Zcr O];generalize hd:I ZU default t.delays i=d at*;refine vS ?_;simp only[hd];refine Chk.mk (ZH) ?_;generalize A:Qy c d (t.delays.take i)=e at*;unfold Qy at A;have k1:=ZdY d.run 0 (c.length-1);rw[<-O (List Sp.Call) [] c d.run]at A;refine Zrk (k1) ?_;have ae:(!!!Qq d.run 0 ((c.length:Int)-1))=true->(0<=d.run/\d.run<c.length)/\((I (List Sp.Call) [] c d.run).length:Int)<=4:=λh=>by
  have b:=QK (nb2 (nb4 (nb2 h)));have:=(hc.row _ (aa _ b.1 b.2)).2;omega
 refine vS ?_;try simp only[hd]
 refine Chk.mk ?_ ?_
 ·simp only[nc,XD,XC,XS,XB,Cn.p,and_true,true_and];(repeat' (first|apply And.intro|intro _))<;>first|assumption|(have:=ae (by assumption);omega)
 cases h1:Qq d.run 0 ((c.length:Int)-1)with
 |true=>
  rw[h1,cO,iQ rfl]at A;subst A;rw[iQ (by decide)]at H;subst H;refine Br.isF rfl ?_;refine wS ?_;refine Br.isT rfl ?_;exact zW
 |false=>
  rw[h1,cC]at A;have b1:=QK h1;have m1:=aa _ b1.1 b1.2;have r1:=hc.row _ m1;have k2:=ZdY d.leg 0 ((I (List Sp.Call) [] c d.run).length-2);generalize hF:I (List Sp.Call) [] c d.run=F at*;refine Br.isT rfl ?_;refine vS ?_;try simp only[hF,hd]
  try refine Chk.mk (ZH) ?_
  refine Zrk (k2) ?_;cases h2:Qq d.leg 0 ((F.length:Int)-2)with
  |true=>
   rw[h2,iQ rfl]at A;subst A;rw[iQ (by decide)]at H;subst H;refine wS ?_;refine Br.isT rfl ?_;exact zW
  |false=>
  rw[h2,iP aO]at A;refine wS ?_;refine Br.isF rfl ?_;refine wS ?_;refine⟨λZ=>?_,λZ=>?_⟩
  ·have Z:=eq_of_beq Z;rw[iQ (by omega)]at A;subst A;rw[iQ (by decide)]at H;subst H;exact zW
  have Z:=ne_of_beq_false Z;rw[iP (by omega)]at A;refine wS ?_;refine⟨λY=>?_,λY=>?_⟩
  ·have Y:=iU Y;rw[iQ (by omega)]at A;subst A;rw[iQ (by decide)]at H;subst H;exact zW
  have Y:=iV Y;rw[iP (by omega)]at A;clear k1 k2 ae;refine wS ?_;refine X3 λQ hQ=>?_;refine ZJ false false [] [1,2,5,6,7] [] (λ(j:Nat)=>[(7,.int .i64 λ_=>j)]) (λ_=>[]) (λj=>j<=d.by_.length/\Zo (ZeO d.by_) 0 d.by_.length=Zo (ZeO d.by_) j (d.by_.length-j)) (λj=>d.by_.length-j+0) 0 ⟨aV _,by simp⟩ ?_ ?_
  ·exact ZG
  rintro j ⟨hj,J⟩;refine wS ?_;refine⟨λG=>?_,λG=>?_⟩
  ·have G:=iU G;rw[Qn (by omega)]at J;have S:ZeO d.by_ j=if Qq (I Int 0 d.by_ j) 0 240 then 1 else if 0<j/\I Int 0 d.by_ j<=I Int 0 d.by_ ((j:Int)-1)then 5 else 0:=by
    unfold ZeO;rw[XH O];by_cases h0:0<j
    ·rw[XH O,show((j-1:Nat):Int)=(j:Int)-1 by omega]
    simp[h0]
   have k3:=ZdY (I Int 0 d.by_ j) 0 240;refine wS ?_;refine Zrk (k3) ?_;refine wS ?_;refine⟨λV=>?_,λV=>?_⟩
   ·have V:Qq (I Int 0 d.by_ j) 0 240=true:=by simpa using V
    rw[iQ V]at S;rw[S,iQ (by decide)]at J;rw[J,iQ (by decide)]at A;subst A;rw[iQ (by decide)]at H;subst H;refine wS ?_;refine hQ _ _ _ ?_;exact zW
   have V:Qq (I Int 0 d.by_ j) 0 240=false:=by simpa using V
   rw[iP (by rw[V];exact aO)]at S;refine vS ?_;refine Chk.mk ?_ ?_
   ·simp only[nc,XD,XC,XS,XB,Cn.p,and_true,true_and,iR];(repeat' (first|apply And.intro|intro _))<;>first|assumption|omega|decide+kernel
   have he:(bif decide (0<(j:Int))then decide (I Int 0 d.by_ j<=I Int 0 d.by_ ((j:Int)-1))else false)=decide (0<j/\I Int 0 d.by_ j<=I Int 0 d.by_ ((j:Int)-1)):=by
    by_cases e1:0<j
    ·have:(0:Int)<j:=by omega
     simp[e1,this]
    have:¬(0:Int)<j:=by omega
    simp[e1,this]
   refine⟨λh6=>?_,λh6=>?_⟩
   ·rw[he]at h6;rw[iQ (iU h6)]at S;rw[S,iQ (by decide)]at J;rw[J,iQ (by decide)]at A;subst A;rw[iQ (by decide)]at H;subst H;refine wS ?_;refine hQ _ _ _ ?_;exact zW
   rw[he]at h6;rw[iP (iV h6)]at S;rw[S,iP (λh=>h rfl)]at J;refine wS ?_;refine⟨j+1,⟨by omega,J⟩,by show d.by_.length-(j+1)+0<d.by_.length-j+0;omega,?_⟩;exact ZG
  have G:=iV G;rw[Qv (by omega)]at J;rw[J,iP (λh=>h rfl)]at A;refine wS ?_;refine hQ _ _ _ ?_;refine wS ?_;refine X3 λQ2 ac=>?_;refine ZJ false false [] [1,2,5,6,8] [] (λ(k:Nat)=>[(8,.int .i64 λ_=>(k:Int))]) (λ_=>[]) (λk=>k<=i/\(t.delays.take i).any (λx=>decide (x.run=d.run/\x.leg=d.leg))=((t.delays.take i).drop k).any (λx=>decide (x.run=d.run/\x.leg=d.leg))) (λk=>i-k+0) 0 ⟨by omega,by simp⟩ ?_ ?_
  ·exact ZG
  rintro k ⟨hk,U⟩;refine wS ?_;refine⟨λG=>?_,λG=>?_⟩
  ·simp only[iR]at G;rw[Zdz (d:=default) O (by omega) (by omega),eM]at U;try simp only[Zcr O]
   generalize hx:I ZU default t.delays k=x at*;refine vS ?_;try simp only[hx,hd]
   try refine Chk.mk (ZH) ?_
   have he:(bif x.run==d.run then x.leg==d.leg else false)=decide (x.run=d.run/\x.leg=d.leg):=by
    by_cases e1:x.run=d.run<;>by_cases e2:x.leg=d.leg<;>simp[e1,e2]
   refine⟨λh9=>?_,λh9=>?_⟩
   ·rw[he]at h9;rw[h9,cO]at U;rw[U,iQ rfl]at A;subst A;rw[iQ (by decide)]at H;subst H;refine wS ?_;refine ac _ _ _ ?_;exact zW
   rw[he]at h9;rw[h9,cC]at U;refine wS ?_;refine⟨k+1,⟨by omega,U⟩,by show i-(k+1)+0<i-k+0;omega,?_⟩;exact ZG
  simp only[iS]at G;rw[bB (by rw[bT];omega),fF]at U;rw[U,iP aO]at A;subst A;rw[iP (λh=>h rfl)]at H;refine wS ?_;refine ac _ _ _ ?_;refine wS ?_;refine⟨i+1,⟨by omega,H⟩,by show t.delays.length-(i+1)+0<t.delays.length-i+0;omega,?_⟩;exact ZG
theorem Zxe (t:Zb) (H:Qm t):SC (λ_=>aB) 25 [Zf t] [] λv h=>v= .int .i64 (λ_=>Zq t)/\h=[]:=by
 obtain⟨nt,O⟩:=Zn;refine QO Tryz.func25 (body:=Zj Tryz.f25) rfl (by decide+kernel) ?_;have U:=c25 t.book H.book;have Y:=Zyd t H.book H.runs;have k3:=Zto t H.book H.runs;have S:=λh=>Zyc t (callsOf t) (J6 h) H.waits;have J:=λh=>Zyb t (callsOf t) (J6 h) H.delays H.bys;generalize G:Zq t=e;unfold Zq at G;unfold Zf at*;unfold Zd at U;simp only[JK O,Za O]at U Y k3 S J|-;refine wS ?_;refine Zrk (U) ?_;generalize Sp.Yq t.book=Z at*;refine wS ?_;refine⟨λI=>?_,λI=>?_⟩
 ·have I:Z≠0:=by simpa only[bne_iff_ne]using I
  rw[iQ I]at G;subst G;exact zW
 have I:Z=0:=by simpa only[iY]using I
 rw[iP (by omega)]at G;refine wS ?_;refine Zrk (Y) ?_;generalize QJ t=e2 at*;refine wS ?_;refine⟨λA=>?_,λA=>?_⟩
 ·have A:e2≠0:=by simpa only[bne_iff_ne]using A
  rw[iQ A]at G;subst G;exact zW
 have A:e2=0:=by simpa only[iY]using A
 rw[iP (by omega)]at G;have S:=S A;have J:=J A;refine wS ?_;refine Zrk (k3) ?_;refine wS ?_;refine Zrk (S) ?_;by_cases h6:4<t.waits.length
 ·rw[iQ h6]at G;subst G;refine wS ?_;refine⟨λV=>?_,λV=>?_⟩
  ·refine wS ?_;rw[iQ h6];(try first|exact⟨rfl,trivial⟩|exact⟨trivial,trivial⟩)
  rw[iQ h6]at V;cases V
 rw[iP h6]at G;simp only[iP h6];generalize Zo (λi=>Qf (callsOf t) (t.waits.getD i default) (t.waits.take i)) 0 t.waits.length=e3 at*;refine wS ?_;refine⟨λA=>?_,λA=>?_⟩
 ·have A:e3≠0:=by simpa only[bne_iff_ne]using A
  rw[iQ A]at G;subst G;exact zW
 have A:e3=0:=by simpa only[iY]using A
 rw[iP (by omega)]at G;rw[G]at J;refine wS ?_;refine Zrk (J) ?_;exact zW
def Z0 (l:List Int):List AV:=[lst 1 Xd 0 l]
theorem Zav {A:(α:Type)->α->List α->Int->α} (O:∀(α:Type) (d:α) (l:List α) (i:Int),A α d l i=l.getD i.toNat d) (l:List Int):Z0 l=[.isl 1 (λ_=>(l.length:Int)) (λe=>Xd (A Int 0 l (e ()))) .none]:=by unfold Z0;rw[Za O]
theorem Yd.one {b G:AV} (h:∀w ok v,PR w ok b v->PR w ok G v):Yd [b] [G]:=⟨rfl,λj c A=>by
 match j with
 |0=>cases A;exact⟨_,rfl,h⟩
 |j+1=>cases A⟩
theorem Zti {A:(α:Type)->α->List α->Int->α} (O:∀(α:Type) (d:α) (l:List α) (i:Int),A α d l i=l.getD i.toNat d) {v:Int} {x:List Int} {m m' n0:Unit->Int} {H:(Unit->Int)->List AV} (G:n0 ()=1) (hv:H (λ_=>((0:Nat):Int))=Xd v) (hm:m ()=(x.length:Int)+1) (I:m' ()=(x.length:Int)+1)
  (w:World) (ok:Nat->Nat->Nat->Prop) (u:Value) (h:PR w ok (.isl 1 m (Z2 n0 H λe=>Xd (A Int 0 x (e ()))) .none) u):PR w ok (.isl 1 m' (λe=>Xd (A Int 0 (v::x) (e ()))) .none) u:=
 h.elems (by omega) λi J=>by
  match i with
  |0=>
   rw[Q6 (len:=1) G (by omega),hv];simp only[O];exact .refl _
  |j+1=>
   rw[QG (len:=1) G (by omega)];simp only[O,aW];rw[List.getD_cons_succ];exact .refl _
def Xg:List ZU->List (List Int)
 |[]=>[[]]
 |d::r=>d.by_.flatMap λn=>(Xg r).map λx=>n::x
theorem Zkw {l:List Int} {L:List (List Int)}:(l.flatMap λn=>L.map λx=>n::x).length=l.length*L.length:=by
 induction l with
 |nil=>simp
 |cons a l A=>rw[List.flatMap_cons,bf,A,bA,bF,dI];omega
theorem Ze6:∀(l:List ZU),∀x∈Xg l,x.length=l.length
 |[],x,h=>by
  unfold Xg at h;rw[List.mem_singleton.1 h];rfl
 |d::r,x,h=>by
  unfold Xg at h;obtain⟨n,_,h⟩:=gB.1 h;obtain⟨y,A,rfl⟩:=bE.1 h;rw[bF,bF,Ze6 r y A]
theorem Zb1:∀(l:List ZU),(∀d∈l,d.by_.length<=3)->(Xg l).length<=3^ l.length
 |[],_=>aJ _
 |d::r,h=>by
  have G:=Zb1 r λx H=>h x (aR _ H);have A:=h d (aU ..);unfold Xg;rw[Zkw,bF,Nat.pow_succ,ea];exact fH G A
theorem Zw2:∀(l:List ZU),l.length<=6->(∀d∈l,d.by_.length<=3)->SC (λ_=>aB) 108 [lst 3 Zt default l] [] λv h=>v=lst 1 Z0 [] (Xg l)/\h=[]
 |[],_,_=>by
  refine SC.less (QO Tryz.func108 (body:=Zj Tryz.f108) rfl (by decide+kernel) ?_);refine wS ?_;refine⟨λh=>?_,λh=>?_⟩
  ·refine wS ?_;refine⟨_,[],?_,rfl,rfl⟩;refine toR ?_;refine .elems rfl λi J=>?_;have J:(i:Int)<1:=J;obtain rfl:i=0:=by omega
   refine .one λw ok v h=>?_;cases h with
   |isl0 _ _ _ _ hz I=>exact .isl0 _ _ _ _ rfl rfl
   |islE _ _ _ _ _ _ I=>rcases I with h|h<;>cases h
   |isl _ _ _ _ b o len al us hn hc I=>rcases I with h|h<;>cases h
  cases h
 |d::r,hl,G=>by
  obtain⟨A,O⟩:=Zn;have U:r.length<=5:=by rw[bF]at hl;omega
  have ih:=Zw2 r (by omega) λx hx=>G x (aR _ hx);have S:=Zb1 r λx hx=>G x (aR _ hx);have V:=Ze6 r;have Y:3^ r.length<=3^ 5:=Nat.pow_le_pow_right (by decide) U;have ab:(Xg r).length<=243:=Nat.le_trans S Y;obtain⟨M,H⟩:∃M,M=d::r:=⟨_,rfl⟩;have hE:Xg (d::r)=d.by_.flatMap λn=>(Xg r).map λx=>n::x:=rfl;have ao:=G d (aU ..);rw[hE,<-H];rw[<-H]at hl G;have h0:A ZU default M 0=d:=by rw[O,H];rfl
  have I:M.length=r.length+1:=by rw[H];rfl
  have h2:∀i:Int,0<=i->A ZU default M (i+1)=A ZU default r i:=λi J=>by
   rw[O,O,H,show(i+1).toNat=i.toNat+1 by omega];rfl
  clear hE H S Y G;refine SC.less (QO Tryz.func108 (body:=Zj Tryz.f108) rfl (by decide+kernel) ?_);simp only[Za O,Zcr O,Zav O]at ih|-;refine wS ?_;refine⟨λh=>?_,λh=>?_⟩
  ·have h:=eq_of_beq h;omega
  refine wS ?_
  refine ZbH ih (by
   refine toR ?_
   exact .isl (by show(M.length:Int)-1=r.length;omega) λi J=>by simp only[h2 (i:Int) (by omega)]) (by first|rfl|(simp only[Ze,Zd,Zf,Zc,Za O];rfl)) λv aj hp=>?_
  obtain⟨rfl,rfl⟩:=hp;generalize Xg r=L at*;have ah:∀k:Nat,k<L.length->(A (List Int) [] L k).length<=5:=λk hk=>by
   rw[V _ (QC (d:=[]) O (l:=L) (i:=k) hk)];exact U
  clear ih V;refine wS ?_;refine ZJ false false [] [0,3,4,5] [.tok 1 λ_=>0] (λ(⟨i,out⟩:Nat×List (List Int))=>[(3,.isl 1 (λ_=>(out.length:Int)) (λe=>[.isl 1 (λ_=>((A (List Int) [] out (e ())).length:Int)) (λq=>Xd (A Int 0 (A (List Int) [] out (e ())) (q ()))) .none]) (.own 0)),(5,.int .i64 λ_=>(i:Int))])
   (λ⟨i,out⟩=>[(0,.tok 1 λ_=>(out.length:Int))])
   (λ⟨i,out⟩=>i<=d.by_.length/\out=(d.by_.take i).flatMap λn=>L.map λx=>n::x) (λi=>d.by_.length-i.1+0) (0,[]) ⟨aV _,by simp⟩ ?_ ?_
  ·(refine To.of [(1,false)] ?_;cbv;(try simp only[nc]);(repeat' first|exact xT|refine⟨?_,?_⟩|refine ZM.cells ?_|refine ZC.agg ?_|refine ZC.tup ?_);all_goals try exact XZ)
  rintro⟨i,out⟩ ⟨J,ho⟩;have ak:out.length<=3*243:=by
   rw[ho,Zkw];exact fH (by rw[bT];omega) ab
  refine wS ?_;simp only[h0];refine⟨λG=>?_,λG=>?_⟩
  ·have G:=iU G;have ae:=Yb (d:=0) O (l:=d.by_) (i:=i) (by omega);refine wS ?_;refine X3 λQ hQ=>?_;refine ZJ false false [] [0,3,4,5,6] [] (λ(⟨k,out⟩:Nat×List (List Int))=>[(3,.isl 1 (λ_=>(out.length:Int)) (λe=>[.isl 1 (λ_=>((A (List Int) [] out (e ())).length:Int)) (λq=>Xd (A Int 0 (A (List Int) [] out (e ())) (q ()))) .none]) (.own 0)),(6,.int .i64 λ_=>(k:Int))])
    (λ⟨k,out⟩=>[(0,.tok 1 λ_=>(out.length:Int))])
    (λ⟨k,o⟩=>k<=L.length/\o=out++(L.take k).map λx=>A Int 0 d.by_ i::x) (λk=>L.length-k.1+0) (0,out) ⟨aV _,by simp⟩ ?_ ?_
   ·exact ZG
   rintro⟨k,o⟩ ⟨hk,hok⟩;have ap:o.length<=4*243:=by
    rw[hok,bf,bA,bT];omega
   refine wS ?_;refine⟨λG=>?_,λG=>?_⟩
   ·have ai:=iU G;have am:=ah k (by omega);have Z:=Yb (d:=[]) O (l:=L) (i:=k) (by omega);refine vS ?_;simp only[h0];refine Chk.mk (ZH) ?_;refine⟨(k+1,o++[A Int 0 d.by_ i::A (List Int) [] L k]),⟨by omega,by rw[Z,dD,hok];simp⟩,by show L.length-(k+1)+0<L.length-k+0;omega,?_⟩;refine toR ?_;refine ZC.snocO (enc:=λx:List Int=>[.isl 1 (λ_=>(x.length:Int)) (λq=>Xd (A Int 0 x (q ()))) .none]) (d:=[]) (x:=A Int 0 d.by_ i::A (List Int) [] L k) (l:=o) O rfl rfl (by simp) ?_;exact .one λw ok u h=>Zti O rfl rfl (by show(1:Int)+_=_;omega) (by simp) w ok u h
   have ai:=iV G;have ac:L.take k=L:=dT (by omega);refine wS ?_;refine hQ _ _ _ ?_;refine wS ?_;refine⟨(i+1,o),⟨by omega,by rw[ae,List.flatMap_append,hok,ho,ac];simp⟩,by show d.by_.length-(i+1)+0<d.by_.length-i+0;omega,?_⟩;exact ZG
  have G:=iV G;have aa:out=d.by_.flatMap λn=>L.map λx=>n::x:=by rw[ho,dT (by omega)]
  rw[<-aa];refine wS ?_;refine⟨_,[],?_,rfl,rfl⟩;exact ZG
def YB (x:List Int):List AV:=[.int .i64 λ_=>x.getD 0 0,.int .i64 λ_=>x.getD 1 0,.int .i64 λ_=>x.getD 2 0,.int .i64 λ_=>x.getD 3 0,.int .i64 λ_=>x.getD 4 0,.int .i64 λ_=>x.getD 5 0]
theorem ZfH {x:List Int} {e:Int} {i:Nat} (A:e=i) (hi:i<6):Zlp [λ_=>x.getD 0 0,λ_=>x.getD 1 0,λ_=>x.getD 2 0,λ_=>x.getD 3 0,λ_=>x.getD 4 0,λ_=>x.getD 5 0] e=x.getD i 0:=by
 subst A;match i,hi with
 |0,_=>rfl
 |1,_=>rfl
 |2,_=>rfl
 |3,_=>rfl
 |4,_=>rfl
 |5,_=>rfl
theorem ZxS (t:Zb) (x:List Int) (run leg:Int) (hx:JE t x) (hl:t.delays.length<=6):SC (λ_=>aB) 178 [.iptr (Z1 t) 0,.agg (YB x),.int .i64 λ_=>run,.int .i64 λ_=>leg] [] λv h=>v= .int .i64 (λ_=>Zdq t x run leg)/\h=[]:=by
 obtain⟨Y,O⟩:=Zn;unfold Z1;simp only[Za O,Zc,Zt];refine SC.less (QO Tryz.func178 (body:=Zj Tryz.f178) rfl (by decide+kernel) ?_);generalize S:Zdq t x run leg=e;unfold Zdq at S;refine wS ?_;refine ZJ false false [] [2,3,5,15,16,17] [] (λ(i:Nat)=>[(17,.int .i64 λ_=>(i:Int))]) (λ_=>[]) (λi=>i<=t.delays.length/\e=Zha x run leg i (t.delays.drop i)) (λi=>t.delays.length-i+0) 0 ⟨by omega,by rw[List.drop_zero];exact S.symm⟩ ?_ ?_
 ·exact ZG
 rintro i ⟨hi,A⟩;refine wS ?_;refine⟨λI=>?_,λI=>?_⟩;case refine_2=>
  simp only[iS]at I;rw[bB (by omega),Zha]at A;subst A;refine wS ?_;refine⟨_,[],?_,rfl,rfl⟩;exact ZG
 simp only[iR]at I;have U:=Qs (d:=default) O (l:=t.delays) (i:=i) (by omega);rw[U,Zha]at A;have H:=hx.d i (by omega);rw[show t.delays.getD i default=Y ZU default t.delays i by rw[XH O]]at H;have Z:= @ZfH x i i rfl (by omega);generalize J:Y ZU default t.delays i=d at*;refine vS ?_;simp only[J];refine Chk.mk (ZH) ?_;have V:(bif d.run==run then d.leg==leg else false)=decide (d.run=run/\d.leg=leg):=by
  by_cases e1:d.run=run<;>by_cases e2:d.leg=leg<;>simp[e1,e2]
 refine⟨λG=>?_,λG=>?_⟩
 ·rw[V]at G;rw[iQ (iU G),<-O Int 0 d.by_ (x.getD i 0)]at A;subst A;refine vS ?_;try simp only[J,Z]
  generalize x.getD i 0=y at*;have hy:=H.1;have aa:=H.2;refine Chk.mk (ZH) ?_;refine⟨_,[],?_,rfl,rfl⟩;exact ZG
 rw[V]at G;rw[iP (iV G)]at A;refine wS ?_;refine⟨i+1,⟨by omega,A⟩,by show t.delays.length-(i+1)+0<t.delays.length-i+0;omega,?_⟩;exact ZG
end Vm
end Go.Proofs.YtjgpiclllehgmaaGreat
