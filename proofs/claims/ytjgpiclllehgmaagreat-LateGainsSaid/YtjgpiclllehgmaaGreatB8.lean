/- Lemmas. -/
import Derived.Test.YtjgpiclllehgmaaGreatB7
import Derived.Test.YtjgpiclllehgmaaGreatB5
import Derived.Test.YtjgpiclllehgmaaGreatB3
import Derived.Test.YtjgpiclllehgmaaGreatB2
import Derived.Test.YtjgpiclllehgmaaGreatB1
import Derived.Test.YtjgpiclllehgmaaGreatB6
import Derived.Test.YtjgpiclllehgmaaGreatB4
set_option linter.all false
open Bool renaming false_ne_true->aO,false_or->cC,true_or->cO
open Decidable renaming of_not_not->bO
open List renaming drop_eq_nil_of_le->bB,getD_eq_getElem?_getD->aA,getElem?_eq_getElem->aC,length_append->bf,length_set->bW,length_take->bT,mem_append->cK,mem_cons->bG,mem_singleton->aN,not_mem_nil->dM,take_length->eW
open Nat renaming zero_le->aV
open Option.some renaming injEq->aD
open Go.Proofs.Tryz renaming prog->aB
namespace Go.Proofs.YtjgpiclllehgmaaGreat
namespace Vm
attribute [local irreducible] Dn
open Go Go.Proofs Sp
set_option maxRecDepth 100000
set_option maxHeartbeats 8000000
theorem ZxV (t:Zb) (a:Zl) (hf:Qm t) (hc:YJ (callsOf t)) (ha:a.steps.length<=1000000):SC (λ_=>aB) 163 [Zf t,Qa a] [] λv h=>v= .int .i64 (λ_=>Xh (callsOf t) t.runs.length a)/\h=[]:=by
 obtain⟨V,O⟩:=Zn;have kp:=Zto t hf.book hf.runs;have aa:t.runs.length=(callsOf t).length:=by unfold callsOf;rw[List.length_map]
 have ah:=hf.runs;unfold Zf Qa at*;simp only[JK O,Za O]at kp|-;refine QO Tryz.func163 (body:=Zj Tryz.f163) rfl (by decide+kernel) ?_;generalize G:Xh (callsOf t) t.runs.length a=e;generalize ae:callsOf t=c at*;have ab:∀i:Int,0<=i->i<=(t.runs.length:Int)-1->V (List Sp.Call) [] c i∈c:=λi h0 h1=>by
  have:i.toNat<c.length:=by omega
  rw[O,aA,aC this];exact List.getElem_mem _
 unfold Xh at G;have k1:=ZdY a.from_ 0 9;have k2:=ZdY a.goal 0 9;have k3:=ZdY a.since 0 43200;generalize Qq a.from_ 0 9=Y at*;generalize Qq a.goal 0 9=b2 at*;generalize Qq a.since 0 43200=b3 at*;refine wS ?_;refine Zrk (k1) ?_;refine wS ?_;cases Y;case true=>
  rw[cO,iQ rfl]at G;subst G;refine Br.isF rfl ?_;refine wS ?_;refine Br.isF rfl ?_;refine wS ?_;refine Br.isT rfl ?_;exact zW
 refine Br.isT rfl ?_;refine wS ?_;refine Zrk (k2) ?_;refine wS ?_;cases b2;case true=>
  rw[cO,Bool.or_true,iQ rfl]at G;subst G;refine Br.isF rfl ?_;refine wS ?_;refine Br.isT rfl ?_;exact zW
 refine Br.isT rfl ?_;refine wS ?_;refine Zrk (k3) ?_;refine wS ?_;cases b3;case true=>
  rw[iQ (show(false||(false||true))=true from rfl)]at G;subst G;refine Br.isT rfl ?_;exact zW
 rw[iP (show¬(false||(false||false))=true by decide)]at G;refine Br.isF rfl ?_;refine wS ?_;refine⟨λJ=>?_,λJ=>?_⟩
 ·have J:=iU J;rw[iQ (by omega)]at G;subst G;exact zW
 have J:=iV J;rw[iP (by omega)]at G;clear k1 k2 k3;refine wS ?_;refine Zrk (kp) ?_;refine wS ?_;refine ZJ false false [] [3,5,6] [] (λ(i:Nat)=>[(6,.int .i64 λ_=>(i:Int))]) (λ_=>[]) (λi=>i<=a.steps.length/\e=Zo (λi=>Xw c t.runs.length (a.steps.getD i default)) i (a.steps.length-i)) (λi=>a.steps.length-i+0) 0 ⟨by omega,G.symm⟩ ?_ ?_
 ·exact ZG
 rintro i ⟨hi,A⟩;refine wS ?_;refine⟨λZ=>?_,λZ=>?_⟩;case refine_2=>
  simp only[iS]at Z;rw[Qv (by omega)]at A;subst A;exact zW
 simp only[iR]at Z;rw[Qn (by omega)]at A;have ac:Xw c t.runs.length (a.steps.getD i default)=Xw c t.runs.length (V Step default a.steps i):=by rw[XH O]
 rw[ac]at A;generalize I:V Step default a.steps i=d at*;refine vS ?_;simp only[I];refine Chk.mk (ZH) ?_;have k5:=ZdY d.run 0 ((c.length:Int)-1);generalize H:Xw c t.runs.length d=e5 at A;unfold Xw at H;rw[<-O (List Sp.Call) [] c d.run,aa]at H;refine Zrk (k5) ?_;cases h5:Qq d.run 0 ((c.length:Int)-1)with
 |true=>
  rw[iQ h5]at H;subst H;rw[iQ (by decide)]at A;subst A;refine wS ?_;refine Br.isT rfl ?_;exact zW
 |false=>
  rw[iP (by rw[h5];exact aO)]at H;have Y:=QK h5;have m1:=ab _ Y.1 (by omega);refine wS ?_;refine Br.isF rfl ?_;refine vS ?_;generalize U:V (List Sp.Call) [] c d.run=F at*;have r1:=hc.row _ m1;have q1:=Zmk F d.from_ 0 ((F.length:Int)-1) (by omega) (by omega) (by omega) (by omega) (by omega);have s1:=XK F 0 d.from_;have S:=λh=>Zmk F d.to_ (Zx F 0 d.from_+1) ((F.length:Int)-1) (by omega) h (by omega) (by omega) (by omega);simp only[Zde]at q1 S;simp only[Za O]at q1 S;try simp only[I,U]
  try refine Chk.mk (ZH) ?_
  refine Zrk (q1) ?_;generalize Zx F 0 d.from_=f at*;by_cases h6:f<0
  ·rw[iQ (.inl h6)]at H;subst H;rw[iQ (by decide)]at A;subst A;refine vS ?_;try simp only[I,U]
   try refine Chk.mk (ZH) ?_
   refine Br.isF (by simp[h6]) ?_;refine wS ?_;refine Br.isT (by simp[h6]) ?_;exact zW
  have S:=S (by omega);refine vS ?_;try simp only[I,U]
  try refine Chk.mk (ZH) ?_
  refine Br.isT (by simp[h6]) ?_;refine vS ?_;try simp only[I,U]
  try refine Chk.mk (ZH) ?_
  refine Zrk (S) ?_;generalize Zx F (f+1) d.to_=g at*;by_cases h7:g<0
  ·rw[iQ (.inr h7)]at H;subst H;rw[iQ (by decide)]at A;subst A;refine wS ?_;refine Br.isT (by simp[h6,h7]) ?_;exact zW
  rw[iP (by omega)]at H;subst H;rw[iP (λh=>h rfl)]at A;refine wS ?_;refine Br.isF (by simp[h6,h7]) ?_;refine wS ?_;refine⟨i+1,⟨by omega,A⟩,by show a.steps.length-(i+1)+0<a.steps.length-i+0;omega,?_⟩;exact ZG
theorem Zx3 (t:Zb) (a:Zl) (H:Qm t) (I:a.steps.length<=1000000):SC (λ_=>aB) 117 [Zf t,Qa a] [] λv h=>v= .int .i64 (λ_=>XR t a)/\h=[]:=by
 obtain⟨J,O⟩:=Zn;have k:=Zxe t H;have G:=λh:Zq t=0=>ZxV t a H (J6 (Zhc h)) I;refine QO Tryz.func117 (body:=Zj Tryz.f117) rfl (by decide+kernel) ?_;generalize A:XR t a=e;unfold XR at A;unfold Zf Qa at*;simp only[Za O]at k G|-;by_cases he:Zq t=0
 ·rw[iP (λh=>h he)]at A;have G:=G he;rw[he]at k;rw[A]at G;refine wS ?_;refine Zrk (k) ?_;refine wS ?_;refine Br.isF rfl ?_;refine wS ?_;refine Zrk (G) ?_;exact zW
 rw[iQ he]at A;rw[A]at k he;refine wS ?_;refine Zrk (k) ?_;refine wS ?_;refine Br.isT (by simpa using he) ?_;exact zW
theorem Zw4 (t:Zb) (a:Zl) (w:Int) (G:Qm t) (I:a.steps.length<=1000000):SC (λ_=>aB) 101 [Zf t,Qa a,.int .i64 λ_=>w] [] λv h=>v= .int .i64 (λ_=>ZX t a w)/\h=[]:=by
 obtain⟨S,O⟩:=Zn;have k:=Zx3 t a G I;have H:=ZdY w 0 ((t.waits.length:Int)-1);have J:=G.waits;refine QO Tryz.func101 (body:=Zj Tryz.f101) rfl (by decide+kernel) ?_;generalize A:ZX t a w=e;unfold ZX at A;unfold Zf Qa at*;simp only[Za O]at*;by_cases he:XR t a=0
 ·rw[iQ he]at A;rw[he]at k;refine wS ?_;refine Zrk (k) ?_;refine wS ?_;refine Br.isF rfl ?_;refine wS ?_;refine Zrk (H) ?_;cases ho:Qq w 0 ((t.waits.length:Int)-1)with
  |true=>
   rw[ho,iQ rfl]at A;subst A;refine wS ?_;refine Br.isT rfl ?_;exact zW
  |false=>
   rw[ho,iP aO]at A;subst A;refine wS ?_;refine Br.isF rfl ?_;exact zW
 rw[iP he]at A;subst A;generalize XR t a=e at*;refine wS ?_;refine Zrk (k) ?_;refine wS ?_;refine Br.isT (by simpa using he) ?_;exact zW
theorem Zj5 {t:Zb} {x:List Int} {a:Zl} {l:List Int} {at_ G:Int} {j:Nat}:∀ {n i:Nat},Xm t x a l at_ G i n=some j->l.contains (j:Int)=false
 |0,_,h=>by cases h
 |n+1,i,h=>by
  rw[Xm]at h;split at h
  ·rename_i A;cases h;unfold ZbG at A;rw[Bool.and_eq_true]at A;simpa using A.1
  exact Zj5 h
theorem Zx2 (t:Zb) (x:List Int) (w:WorldL) (a:Zl) (he:Zq t=0) (hf:Zz t) (ha:Xh (callsOf t) t.runs.length a=0)
  (ab:∀r b,StopIn (callsOf t) r b->(w.come.length:Int)=(callsOf t).length/\((w.come.getD r.toNat []).length:Int)=(Sp.Zm (callsOf t) r).length/\(w.come.getD r.toNat []).getD b.toNat 0=(ZR t x r b).comes)
  (ac:∀r b,StopIn (callsOf t) r b->(w.go.length:Int)=(callsOf t).length/\((w.go.getD r.toNat []).length:Int)=(Sp.Zm (callsOf t) r).length/\(w.go.getD r.toNat []).getD b.toNat 0=(ZR t x r b).goes):
  SC (λ_=>aB) 122 [Zf t,lst 1 Zc [] (callsOf t),.agg (QL w),Qa a] [] λv h=>
  v= .tup [lst 1 Xd 0 (X9 t x a).1,.bool λ_=>(X9 t x a).2.2,.int .i64 λ_=>(X9 t x a).2.1]/\h=[]:=by
 obtain⟨A,O⟩:=Zn;have J:=λi h=> @ZmB t a hf ha i h;have ar:=λr k (h:StopIn (callsOf t) r k)=>(Jy hf.calls h).2.2;have au:=λf l at_ ai=> @ZhN t x a f l at_ ai;have Z:=λf l at_ ai=> @ZhM t x a f l at_ ai;have Y:=λf l at_ ai i=> @ZhL t x a f l at_ ai i;have ae:=λs h1 h2=> @Zr6 t he s h1 h2;obtain⟨tk,aj⟩:∃tk:List Int->Int->Bool,∀l i,tk l i=l.contains i:=⟨λl i=>l.contains i,λ_ _=>rfl⟩;have bt:a.steps.length<=6:=by
  by_cases h:0<a.steps.length
  ·exact(J 0 h).1
  omega
 have be:= @Zkj a;have aw:=λl i h=> @Zm0 a l i h;have bk:Jh t x a (a.steps.length+1) [] a.from_ a.since=X9 t x a:=rfl;generalize X9 t x a=R at*;generalize hG:Jh t x a=G at*;generalize Zh7 a=LN at*;unfold Zf Qa;simp only[JK O,Za O,Zfm O,QU];refine SC.less (Zg3 false false [] Tryz.func122 (body:=Zj Tryz.f122) rfl (by decide+kernel) ?_);refine wS ?_;refine ZJ false false [] [1,6,7,11,12,13,14] [.tok 1 λ_=>0] (λ(p:List Int×Int×Int×Nat)=>[(11,.isl 1 (λ_=>(p.1.length:Int)) (λe=>Xd (A Int 0 p.1 (e ()))) (.own 4)),(13,.int .i64 λ_=>p.2.1),(14,.int .i64 λ_=>p.2.2.1)])
  (λp=>[(3,.arr 1 (λ_=>(a.steps.length:Int)) (λe=>[.bool λ_=>tk p.1 (e ())])),(4,.tok 1 λ_=>(p.1.length:Int))])
  (λp=>LN p.1<p.2.2.2/\p.1.length+LN p.1<=a.steps.length/\G p.2.2.2 p.1 p.2.1 p.2.2.1=R) (λp=>LN p.1+0) ([],a.from_,a.since,a.steps.length+1) ⟨by show LN []<_;rw[be];exact Nat.lt_succ_self _,by show 0+LN []<=_;omega,bk⟩ ?_ ?_
 ·(refine To.of [(1,false)] ?_;cbv;(try simp only[nc]);(repeat' first|exact xT|refine⟨?_,?_⟩|refine ZM.cells ?_|refine ZC.agg ?_|refine ZC.tup ?_);all_goals try exact XZ)
  exact .arr rfl λi hi=>by
   show [AV.bool λ_=>false]=[AV.bool λ_=>tk [] (i:Int)];rw[aj];rfl
 intro p hp;have bp:=hp.1;have bq:=hp.2.1;refine wS ?_;refine⟨λh1=>?_,λh1=>?_⟩;rotate_left
 ·have h1:p.2.1=a.goal:=by simpa using h1
  have hr:=hp.2.2;rw[au _ _ _ _ (by omega) h1]at hr;subst hr;refine wS ?_;refine⟨_,[],?_,rfl,rfl⟩;exact ZG
 have h1:p.2.1≠a.goal:=by simpa using h1
 obtain⟨NS,am⟩:∃NS,NS=Xm t x a p.1 p.2.1 p.2.2.1 0 a.steps.length:=⟨_,rfl⟩;have Z:=Z p.2.2.2 p.1 p.2.1 p.2.2.1 (by omega) h1;have Y:=λi=>Y p.2.2.2 p.1 p.2.1 p.2.2.1 i (by omega) h1;rw[<-am]at Z Y;refine wS ?_;refine X3 λQ hQ=>?_;refine ZJ false false [] [1,6,7,11,12,13,14,15,16] [] (λ(q:Nat×Int)=>[(15,.int .i64 λ_=>q.2),(16,.int .i64 λ_=>(q.1:Int))]) (λ_=>[])
  (λq=>q.1<=a.steps.length/\((q.2=-1/\NS=Xm t x a p.1 p.2.1 p.2.2.1 q.1 (a.steps.length-q.1))\/∃j:Nat,q.2=j/\j<a.steps.length/\NS=some j)) (λq=>a.steps.length-q.1+0) (0,-1) ⟨aV _,.inl ⟨rfl,am⟩⟩ ?_ ?_
 ·exact ZG
 intro ⟨i,nx⟩ hq;have hi:i<=a.steps.length:=hq.1;refine wS ?_;refine⟨λh2=>?_,λh2=>?_⟩;rotate_left
 ·rcases hq.2 with⟨I,H⟩|⟨j,I,hj,H⟩
  ·have I:nx=-1:=I;have bl:i=a.steps.length:=by
    by_cases h:(i:Int)<a.steps.length
    ·rw[iX h,I]at h2;cases h2
    omega
   rw[bl,Nat.sub_self,Xm]at H;have hr:=hp.2.2;rw[Z H]at hr;subst hr;subst I;refine wS ?_;refine hQ _ _ _ ?_;refine wS ?_;refine Br.isT (by decide) ?_;refine wS ?_;refine⟨_,[],?_,rfl,rfl⟩;exact ZG
  have I:nx=(j:Int):=I;subst I;have J:=J j hj;have a9:=Y j H;have ao:QB a j=A Sp.Step default a.steps j:=by rw[O];rfl
  have ae:=ae (QB a j) J.2.1 J.2.2;have ab:=ab _ _ J.2.2;have bm:=hf.calls.len;have V:=J.2.2;have ah:=ar _ _ J.2.2;have az:=hp.2.2;have bc:p.1.contains (j:Int)=false:=Zj5 (am.symm.trans H);have aw:=aw p.1 j hj bc;rw[ao]at ae ab V ah a9;unfold StopIn at V;have ak:Sp.Zm (callsOf t) (A Sp.Step default a.steps j).run=A (List Sp.Call) [] (callsOf t) (A Sp.Step default a.steps j).run:=JJ O _ _;rw[ak]at ae ab V ah;have U:=Zmk (A (List Sp.Call) [] (callsOf t) (A Sp.Step default a.steps j).run) (A Sp.Step default a.steps j).to_ 0 (((A (List Sp.Call) [] (callsOf t) (A Sp.Step default a.steps j).run).length:Int)-1) (by omega) (by omega) (by omega) (by omega) (by omega);rw[Zde,ae]at U;rw[<-O (List Int) [] w.come,<-O Int 0]at ab;rw[a9]at az;simp only[Za O]at U;generalize hd:A Sp.Step default a.steps j=d at*;generalize Zf0 t d=to at*;generalize (ZR t x d.run to).comes=cs at*;have bg:=ab.2.2;refine wS ?_;refine hQ _ _ _ ?_;refine wS ?_;refine Br.isF (iW (by omega)) ?_;refine vS ?_;try simp only[hd]
  try refine Chk.mk (ZH) ?_
  refine ZL (U) (by first|rfl|(simp only[Ze,Zd,Zf,Zc,Z0,QL,Za O];rfl)) λr ba hp=>?_;(try simp only[Ze,Zd,Zf,Zc,Z0,QL,Za O]at hp);obtain⟨rfl,rfl⟩:=hp;refine vS ?_;try simp only[hd,bg]
  try refine Chk.mk (ZH) ?_
  refine⟨(p.1++[(j:Int)],d.to_,cs,p.2.2.2-1),⟨?_,?_,?_⟩,by show LN (p.1++[(j:Int)])+0<LN p.1+0;omega,?_⟩
  ·show LN (p.1++[(j:Int)])<p.2.2.2-1;omega
  ·show(p.1++[(j:Int)]).length+LN (p.1++[(j:Int)])<=a.steps.length;rw[bf];show p.1.length+1+_<=_;omega
  ·exact az
  refine toR ?_;exact .arr rfl λy hy=>by
   by_cases h:(y:Int)=j
   ·simp[Qt,ZiW,putC,Jl,AV.cellsOf,purify,h,aj]
   simp[Qt,ZiW,putC,Jl,AV.cellsOf,purify,h,aj]
 have aq:i<a.steps.length/\nx<0:=by
  by_cases h:(i:Int)<a.steps.length
  ·rw[iX h]at h2;exact⟨by omega,iU h2⟩
  rw[iW h]at h2;cases h2
 rcases hq.2 with⟨I,H⟩|⟨j,I,hj,H⟩;rotate_left
 ·exact absurd aq.2 (by have I:nx=(j:Int):=I;omega)
 have I:nx=-1:=I;subst I;have ap:= @Zh1 t x a p.1 p.2.1 p.2.2.1 i (a.steps.length-i) (by omega);have aa:ZbG t x a p.1 p.2.1 p.2.2.1 i=(!tk p.1 (i:Int)&&(decide ((QB a i).from_=p.2.1)&&decide (p.2.2.1<=(ZR t x (QB a i).run (Yy t (QB a i))).goes))):=by rw[aj];rfl
 have J:=J i aq.1;have ao:QB a i=A Sp.Step default a.steps i:=by rw[O];rfl
 have ac:=ac _ _ J.2.1;have V:=J.2.1;have bm:=hf.calls.len;have ah:=ar _ _ J.2.1;rw[ao]at ac V ah aa;unfold StopIn at V;have ak:Sp.Zm (callsOf t) (A Sp.Step default a.steps i).run=A (List Sp.Call) [] (callsOf t) (A Sp.Step default a.steps i).run:=JJ O _ _;rw[ak]at ac V ah;have bh:Zx (A (List Sp.Call) [] (callsOf t) (A Sp.Step default a.steps i).run) 0 (A Sp.Step default a.steps i).from_=Yy t (A Sp.Step default a.steps i):=by unfold Yy;rw[ak]
 have U:=Zmk (A (List Sp.Call) [] (callsOf t) (A Sp.Step default a.steps i).run) (A Sp.Step default a.steps i).from_ 0 (((A (List Sp.Call) [] (callsOf t) (A Sp.Step default a.steps i).run).length:Int)-1) (by omega) (by omega) (by omega) (by omega) (by omega);rw[Zde,bh]at U;rw[<-O (List Int) [] w.go,<-O Int 0]at ac;have bo:=ac.2.2;simp only[Za O]at U;generalize hd:A Sp.Step default a.steps i=d at*;generalize Yy t d=fo at*;generalize (ZR t x d.run fo).goes=gs at*;have al:ZbG t x a p.1 p.2.1 p.2.2.1 i=false->NS=Xm t x a p.1 p.2.1 p.2.2.1 (i+1) (a.steps.length-(i+1)):=λh=>by
  rw[H,ap,iP (by rw[h];exact aO),show a.steps.length-i-1=a.steps.length-(i+1) by omega]
 refine vS ?_;simp only[hd];try refine Chk.mk (ZH) ?_
 generalize S:(bif !tk p.1 (0+(i:Int))then d.from_==p.2.1 else false)=GB;rw[Int.zero_add]at S;cases GB;case false=>
  have H:=al (by
   rw[aa];cases hc:tk p.1 (i:Int)with
   |true=>rfl
   |false=>
    rw[hc]at S;have S:(d.from_==p.2.1)=false:=S;rw[iW (by simpa using S)]
    rfl)
  refine Br.isF rfl ?_;refine wS ?_;refine Br.isF rfl ?_;refine wS ?_;refine⟨(i+1,-1),⟨by show i+1<=_;omega,.inl ⟨rfl,H⟩⟩,by show a.steps.length-(i+1)+0<a.steps.length-i+0;omega,?_⟩;exact ZG
 case true=>
  have hc:tk p.1 (i:Int)=false/\d.from_=p.2.1:=by
   cases hc:tk p.1 (i:Int)with
   |true=>rw[hc]at S;cases S
   |false=>
    rw[hc]at S;have S:(d.from_==p.2.1)=true:=S;exact⟨rfl,by simpa using S⟩
  rw[hc.1,iX hc.2]at aa;refine Br.isT rfl ?_;refine vS ?_;try simp only[hd]
  try refine Chk.mk (ZH) ?_
  refine ZL (U) (by first|rfl|(simp only[Ze,Zd,Zf,Zc,Z0,QL,Za O];rfl)) λr ba hp=>?_;(try simp only[Ze,Zd,Zf,Zc,Z0,QL,Za O]at hp);obtain⟨rfl,rfl⟩:=hp;refine vS ?_;try simp only[hd,bo]
  try refine Chk.mk (ZH) ?_
  refine⟨λh4=>?_,λh4=>?_⟩
  ·have h4:=iU h4;have H:NS=some i:=by rw[H,ap,iQ (by rw[aa,iX h4];rfl)]
   refine wS ?_;refine⟨(i+1,(i:Int)),⟨by show i+1<=_;omega,.inr ⟨i,rfl,aq.1,H⟩⟩,by show a.steps.length-(i+1)+0<a.steps.length-i+0;omega,?_⟩;exact ZG
  have h4:=iV h4;have H:=al (by rw[aa,iW h4];rfl);refine wS ?_;refine⟨(i+1,-1),⟨by show i+1<=_;omega,.inl ⟨rfl,H⟩⟩,by show a.steps.length-(i+1)+0<a.steps.length-i+0;omega,?_⟩;exact ZG
theorem ZhF {f:FuncId} {xs I:List AV} {h:List Zi} {A Q:AV->List Zi->Prop} {B:Prop} (H:SC (λ_=>aB) f I [] Q) (k:B) (t:SC (λ_=>aB) f I [] Q->HdW B->SC (λ_=>aB) f xs h A:=by intro S hW;refine ZL S (by first|rfl|(simp only[Ze,Zd,Zf,Zc,Z0,QL,encSp,Za O];rfl)) λr J G=>?_;(try simp only[Ze,Zd,Zf,Zc,Z0,QL,encSp,Za O]at G);obtain⟨rfl,rfl⟩:=G;exact hW.out):SC (λ_=>aB) f xs h A:=t H ⟨k⟩
theorem Zvt (t:Zb) (a:Zl) (S:Qm t) (Y:Zq t=0) (ha:Xh (callsOf t) t.runs.length a=0):SC (λ_=>aB) 102 [Zf t,Qa a] [] λv h=>v= .tup [.agg (encSp (ZbN t a)),.int .i64 λ_=>JO t a,.int .i64 λ_=>(manyT t:Int)]/\h=[]:=by
 obtain⟨nt,O⟩:=Zn;have hw:=XM Y;have k1:=Zto t S.book S.runs;have k3:=Znp S Y;have al:=Zkb hw.dlen λd hd=>(hw.d d hd).2.1;have ak:=ZfT t;have Z:=λ(n:Nat) (h:n<manyT t)=>Zx2 t (Zk t n) (nt WorldL default (Xq t) (n:Int)) a Y hw ha (λr b G=>by have g:=(ZjH O h G).1;simp only[O]at g|-;exact g) (λr b G=>by have g:=(ZjH O h G).2.2;simp only[O]at g|-;exact g);have A:∀i,(X9 t (Zk t i) a).2.2=Xo t a i:=λ_=>rfl;have ab:∀i,(X9 t (Zk t i) a).2.1=YQ t a i:=λ_=>rfl;have ac:Zc3 (Xo t a) (YQ t a) 0=⟨0,0⟩:=rfl;have ae:∀n,Zc3 (Xo t a) (YQ t a) (n+1)=if Xo t a n then Zef (Zc3 (Xo t a) (YQ t a) n) (YQ t a n) (Qw (Xo t a) n==0)else Zc3 (Xo t a) (YQ t a) n:=λ_=>rfl
 have aa:Qw (Xo t a) 0=0:=rfl;have ah:∀n,Qw (Xo t a) (n+1)=if Xo t a n then Qw (Xo t a) n+1 else Qw (Xo t a) n:=λ_=>rfl
 have J:=count_bd (Xo t a);unfold ZbN JO;simp only[A,ab]at Z;generalize Zc3 (Xo t a) (YQ t a)=U at*;generalize Qw (Xo t a)=CT at*;generalize Xo t a=CI at*;generalize YQ t a=CA at*;generalize Zk t=TA at*;generalize Xq t=W at*;generalize manyT t=M at*;refine SC.less (Zg3 false false [] Tryz.func102 (body:=Zj Tryz.f102) rfl (by decide+kernel) ?_);unfold Zf Qa encSp at*;simp only[JK O,Za O,Zfm O]at k1 k3 Z|-;refine wS ?_;refine ZhF (k1) ?_;refine wS ?_;refine ZhF (k3) ?_;refine wS ?_;refine ZJ false false [] [2,3,4,7,8,9,10,11] [] (λ(i:Nat)=>[(10,.int .i64 λ_=>CT i),(11,.int .i64 λ_=>(i:Int))]) (λi=>[(3,.cells [.int .i64 λ_=>(U i).fr,.int .i64 λ_=>(U i).to_])]) (λi=>i<=M) (λi=>M-i+0) 0 (aV _) ?_ ?_
 ·rw[ac,aa];exact ZG
 intro i hi;have hi:i<=M:=hi;have aj:=J i;refine wS ?_;refine⟨λH=>?_,λH=>?_⟩
 ·have H:=iU H;have k5:=Z i (by omega);have G:=ae i;have I:=ah i;have ai:=J (i+1);have V:=Zye (U i) (CA i) (CT i==0);unfold encSp at V;generalize (X9 t (TA i) a).1=TL at*;refine vS ?_;refine Chk.mk (ZH) ?_;refine ZhF (k5) ?_;cases A:CI i with
  |true=>
   rw[A,iQ rfl]at G I;rw[<-G]at V;refine wS ?_;refine Br.isT (by first|rfl|exact A) ?_;refine wS ?_;refine ZhF (V) ?_;refine wS ?_;refine⟨i+1,by show i+1<=M;omega,by show M-(i+1)+0<M-i+0;omega,?_⟩;rw[I];exact ZG
  |false=>
   rw[A,iP aO]at G I;refine wS ?_;refine Br.isF (by first|rfl|exact A) ?_;refine wS ?_;refine⟨i+1,by show i+1<=M;omega,by show M-(i+1)+0<M-i+0;omega,?_⟩;rw[I,G];exact ZG
 have H:=iV H;obtain rfl:i=M:=by omega
 refine wS ?_;refine⟨_,[],?_,rfl,rfl⟩;exact ZG
theorem Zyr (t:Zb) (a:Zl) (w n:Int) (H:Qm t) (ha:a.steps.length<=1000000):SC (λ_=>aB) 34 [Zf t,Qa a,.int .i64 λ_=>w,.int .i64 λ_=>n] [] λv h=>
  v= .tup [.int .i64 λ_=>(JF t a w n).1,.int .i64 λ_=>(JF t a w n).2.1,.int .i64 λ_=>(JF t a w n).2.2]/\h=[]:=by
 obtain⟨nt,O⟩:=Zn;have k:=Zw4 t a w H ha;by_cases he:ZX t a w=0
 ·have G:=ZcM he;have hw:=XM G.1;have k2:=ZdY n 0 60;have k3:=Zvt t a H G.1 G.2.1;have k5:=Zw3 t w n H G.2.2;have ac:Qm (Zw t w n):=⟨H.book,H.runs,by show(t.waits.set _ _).length<=_;rw[bW];exact H.waits,H.delays,H.bys⟩;have J:=λh:0<=n/\n<=60=>Zvt (Zw t w n) a ac (ZfW G.1 h) G.2.1;have ab:Qq n 0 60=false->0<=n/\n<=60:=λh=>QK h;have A:JF t a w n=if Qq n 0 60=true then(0,0,1)else if Qk t a=true/\Qk (Zw t w n) a=true then((Ql t a).to_,(Ql (Zw t w n) a).to_,0)else(0,0,11):=by
   unfold JF;rw[iP (λh=>h he)]
  have c1:=Zg4 t a;have Z:=Zg4 (Zw t w n) a;have s1:= @ZdD t a;have s2:= @ZdD (Zw t w n) a;have l1:=ZkH t a;have l2:=ZkH (Zw t w n) a;have S:manyT (Zw t w n)=manyT t:=rfl;have ae:(Zw t w n).book=t.book:=rfl;have aa:(Zw t w n).runs=t.runs:=rfl;have ah:(Zw t w n).delays=t.delays:=rfl;rw[S]at Z l2;unfold Zf Qa encSp at*;simp only[ae,aa,ah,S]at J k5;simp only[Za O]at*;generalize JF t a w n=BE at*;generalize Qq n 0 60=B at*;generalize Qk (Zw t w n) a=CB at*;generalize Ql (Zw t w n) a=SB at*;generalize ZbN (Zw t w n) a=PB at*;generalize JO (Zw t w n) a=NB at*;generalize Zw t w n=WT at*;generalize Qk t a=CA at*;generalize Ql t a=SA at*;generalize ZbN t a=PA at*;generalize JO t a=NA at*;generalize manyT t=M at*;rw[he]at k;refine SC.less (QO Tryz.func34 (body:=Zj Tryz.f34) rfl (by decide+kernel) ?_);refine wS ?_;refine ZhF (k) ?_;refine wS ?_;refine Br.isF rfl ?_;refine wS ?_;refine ZhF (k2) ?_;refine wS ?_;cases B;case true=>
   rw[iQ rfl]at A;subst A;refine Br.isT rfl ?_;refine wS ?_;refine⟨_,[],?_,rfl,rfl⟩;exact ZG
  rw[iP aO]at A;have J:=J (ab rfl);refine Br.isF rfl ?_;refine wS ?_;refine ZhF (k3) ?_;refine wS ?_;repeat' (first|(with_reducible refine Zho.mk ?_ ?_)|((with_reducible refine Chk.mk ?_ ?_);(focus exact ZH))|((with_reducible refine ZL k5 ?_ ?_);(focus (first|rfl|(simp only[Za O];rfl)));(intro r U Y;obtain⟨rfl,rfl⟩:=Y;cbv;(try simp only[nc]at*)))|((with_reducible refine ZL J ?_ ?_);(focus (first|rfl|(simp only[Za O];rfl)));(intro r U Y;obtain⟨rfl,rfl⟩:=Y;cbv;(try simp only[nc]at*))))
  all_goals
   refine⟨λI=>?_,λI=>?_⟩
   ·rw[iP (by
     rintro⟨rfl,rfl⟩;have e1:=c1.2 rfl;have V:=Z.2 rfl;rw[e1,V]at I
     simp at I)]at A
    subst A;refine wS ?_;refine⟨_,[],?_,rfl,rfl⟩;exact ZG
   have e1:NA=M:=by
    by_cases g:NA<M
    ·rw[iX g]at I;cases I
    omega
   have V:NB=M:=by
    by_cases g:NB<M
    ·rw[iX g,iW (by omega)]at I;cases I
    omega
   have d1:=c1.1 e1;have d2:=Z.1 V;rw[iQ ⟨d1,d2⟩]at A;rw[<-s1 d1,<-s2 d2]at A;subst A;refine wS ?_;refine⟨_,[],?_,rfl,rfl⟩;exact ZG
 have A:JF t a w n=(0,0,ZX t a w):=by
  unfold JF;rw[iQ he]
 rw[A];generalize ZX t a w=e at*;refine SC.less (QO Tryz.func34 (body:=Zj Tryz.f34) rfl (by decide+kernel) ?_);unfold Zf Qa at*;simp only[Za O]at*;refine wS ?_;refine ZhF (k) ?_;refine wS ?_;refine Br.isT (by simpa using he) ?_;refine wS ?_;refine⟨_,[],?_,rfl,rfl⟩;exact ZG
theorem Zyq (t:Zb) (a:Zl) (w:Int) (G:Qm t) (ha:a.steps.length<=1000000):SC (λ_=>aB) 36 [Zf t,Qa a,.int .i64 λ_=>w] [] λv h=>
  v= .tup [.int .i64 λ_=>(ZbW t a w).1,.int .i64 λ_=>(ZbW t a w).2.1,.int .i64 λ_=>(ZbW t a w).2.2]/\h=[]:=by
 obtain⟨nt,O⟩:=Zn;have k:=Zw4 t a w G ha;by_cases he:ZX t a w=0
 ·have H:=ZcM he;have hw:=XM H.1;have k3:=λn=>Zw3 t w n G H.2.2;have ae:∀n,Qm (Zw t w n):=λn=>⟨G.book,G.runs,by show(t.waits.set _ _).length<=_;rw[bW];exact G.waits,G.delays,G.bys⟩;have Z:=λ(n:Int) (h:0<=n/\n<=60)=>Zvt (Zw t w n) a (ae n) (ZfW H.1 h) H.2.1;obtain⟨Y,LT,am,ao,al,ab,ah,I⟩:=Zrm t a w he;have ac:∀n,manyT (Zw t w n)=manyT t:=λ_=>rfl;have ai:∀n,(Zw t w n).book=t.book:=λ_=>rfl;have aa:∀n,(Zw t w n).runs=t.runs:=λ_=>rfl;have aj:∀n,(Zw t w n).delays=t.delays:=λ_=>rfl;rw[he]at k;generalize ZbW t a w=E at*;unfold Zf Qa encSp at*;simp only[ai,aa,aj,ac]at k3 Z;simp only[Za O]at*;clear ai aa aj ac ae;generalize manyT t=M at*;generalize S:(λn=>JO (Zw t w n) a)=CC at*;generalize U:(λn=>ZbN (Zw t w n) a)=PP at*;have S:∀n,JO (Zw t w n) a=CC n:=λn=>congrFun S n;have U:∀n,ZbN (Zw t w n) a=PP n:=λn=>congrFun U n;simp only[S,U]at Z ab ah;generalize Zw t w=WT at*;refine SC.less (QO Tryz.func36 (body:=Zj Tryz.f36) rfl (by decide+kernel) ?_);refine wS ?_;refine ZhF (k) ?_;refine wS ?_;refine Br.isF rfl ?_;refine wS ?_;refine ZJ false false [] [2,3,4,10,11,12] [] (λ(i:Nat)=>[(10,.int .i64 λ_=>Y i),(11,.int .i64 λ_=>LT i),(12,.int .i64 λ_=>(i:Int))]) (λ_=>[]) (λi=>i<=61) (λi=>61-i+0) 0 (aV _) ?_ ?_
  ·rw[am,ao];exact ZG
  intro i hi;have hi:i<=61:=hi;have ap:=al i;refine wS ?_;refine⟨λV=>?_,λV=>?_⟩;case refine_2=>
   have V:=iV V;obtain rfl:i=61:=by omega
   refine wS ?_;refine⟨λA=>?_,λA=>?_⟩
   ·have A:=iU A;rw[iQ A]at I;subst I;refine wS ?_;refine⟨_,[],?_,rfl,rfl⟩;exact ZG
   have A:=iV A;rw[iP A]at I;subst I;refine wS ?_;refine⟨_,[],?_,rfl,rfl⟩;exact ZG
  have V:=iU V;have k3:=k3 (i:Int);have Z:=Z (i:Int) (by omega);have s1:=ab i;have s2:=ah i;refine wS ?_;repeat' (first|(with_reducible refine Zho.mk ?_ ?_)|((with_reducible refine Chk.mk ?_ ?_);(focus exact ZH))|((with_reducible refine ZL k3 ?_ ?_);(focus (first|rfl|(simp only[Za O];rfl)));(intro r ak hp;obtain⟨rfl,rfl⟩:=hp;cbv;(try simp only[nc]at*)))|((with_reducible refine ZL Z ?_ ?_);(focus (first|rfl|(simp only[Za O];rfl)));(intro r ak hp;obtain⟨rfl,rfl⟩:=hp;cbv;(try simp only[nc]at*))))
  all_goals
   refine⟨λA=>?_,λA=>?_⟩
   ·have J:CC i=M:=by
     by_cases g:CC (i:Int)=M
     ·exact g
     rw[beq_eq_false_iff_ne.2 g]at A;cases A
    have e2:Y i<0\/(PP i).to_<LT i:=by
     rw[beq_iff_eq.2 J]at A;by_cases g:Y i<0
     ·exact .inl g
     rw[iW g]at A;exact .inr (iU A)
    have s1:=s1 ⟨J,e2⟩;refine wS ?_;refine⟨i+1,by show i+1<=61;omega,by show 61-(i+1)+0<61-i+0;omega,?_⟩;rw[s1.1,s1.2];exact ZG
   have J:¬(CC i=M/\(Y i<0\/(PP i).to_<LT i)):=by
    rintro⟨J,e2⟩;rw[beq_iff_eq.2 J]at A;by_cases g:Y i<0
    ·rw[iX g]at A;cases A
    rw[iW g]at A;exact(iV A) (e2.resolve_left g)
   have s2:=s2 J;refine wS ?_;refine⟨i+1,by show i+1<=61;omega,by show 61-(i+1)+0<61-i+0;omega,?_⟩;rw[s2.1,s2.2];exact ZG
 have I:ZbW t a w=(0,0,ZX t a w):=by
  unfold ZbW;rw[iQ he]
 rw[I];generalize ZX t a w=e at*;refine SC.less (QO Tryz.func36 (body:=Zj Tryz.f36) rfl (by decide+kernel) ?_);unfold Zf Qa at*;simp only[Za O]at*;refine wS ?_;refine ZhF (k) ?_;refine wS ?_;refine Br.isT (by simpa using he) ?_;refine wS ?_;refine⟨_,[],?_,rfl,rfl⟩;exact ZG
theorem Zyt (a:Zl) (A:a.steps.length<=1000000):SC (λ_=>aB) 32 [Qa a] [] λv h=>v=Qa a/\h=[]:=by
 obtain⟨G,O⟩:=Zn;refine SC.less (Zg3 false false [] Tryz.func32 (body:=Zj Tryz.f32) rfl (by decide+kernel) ?_);unfold Qa;simp only[Za O];refine wS ?_;refine⟨_,[],?_,rfl,rfl⟩;refine toR ?_;exact .isl (by simp) λi H=>by rw[QG (len:=0) rfl (aV _)];rfl
theorem Zyp (a:Zl) (G:a.steps.length<=1000000):SC (λ_=>aB) 37 [Qa a,Qa a] [] λv h=>v= .bool (λ_=>true)/\h=[]:=by
 obtain⟨H,O⟩:=Zn;refine QO Tryz.func37 (body:=Zj Tryz.f37) rfl (by decide+kernel) ?_;unfold Qa;simp only[Za O];refine wS ?_;refine ZJ false false [] [2,3,5,6] [] (λ(i:Nat)=>[(5,.bool λ_=>true),(6,.int .i64 λ_=>(i:Int))]) (λ_=>[]) (λi=>i<=a.steps.length) (λi=>a.steps.length-i+0) 0 (aV _) ?_ ?_
 ·refine toR ?_;exact .bool (by simp)
 intro i I;refine wS ?_;refine⟨λA=>?_,λA=>?_⟩
 ·have A:=iU A;refine wS ?_;refine⟨i+1,by omega,by omega,?_⟩;refine toR ?_;exact .bool (by simp)
 (cbv;(try simp only[nc]at*);(try refine Chk.mk (ZH) ?_))
 (try first|exact⟨rfl,trivial⟩|exact⟨trivial,trivial⟩)
theorem Zyk (b:Xv) (hf:ZrI b):SC (λ_=>aB) 68 [Zd b] [] λv h=>v= .bool (λ_=>ZgK b)/\h=[]:=by
 obtain⟨Y,O⟩:=Zn;obtain⟨hz,ho,hn,hc,hs⟩:=hf;unfold ZgK;have e1:decide (20<b.zones.length)=decide ((20:Int)<(b.zones.length:Int)):=decide_eq_decide.2 (by omega);have e2:decide (20<b.old.length)=decide ((20:Int)<(b.old.length:Int)):=decide_eq_decide.2 (by omega);have e3:decide (20<b.new.length)=decide ((20:Int)<(b.new.length:Int)):=decide_eq_decide.2 (by omega);rw[e1,e2,e3];clear e1 e2 e3;generalize I:(decide ((20:Int)<(b.zones.length:Int))||decide ((20:Int)<(b.old.length:Int))||decide ((20:Int)<(b.new.length:Int))||b.zones.any (λz=>decide (20<z.chs.length))||(b.old++b.new).any (λt=>decide (20<t.stops.length)))=E;refine QO Tryz.func68 (body:=Zj Tryz.f68) rfl (by decide+kernel) ?_;unfold Zd at*;simp only[Za O]at*;refine wS ?_;refine⟨λU=>?_,λU=>?_⟩
 ·have aa:E=true:=by
   rw[<-I];revert U;cases decide ((20:Int)<(b.zones.length:Int))<;>cases decide ((20:Int)<(b.old.length:Int))<;>cases decide ((20:Int)<(b.new.length:Int))<;>simp
  rw[aa];exact zW
 have ae:¬(20:Int)<(b.zones.length:Int)/\¬(20:Int)<(b.old.length:Int)/\¬(20:Int)<(b.new.length:Int):=by
  simp only[<-iS];revert U;cases decide ((20:Int)<(b.zones.length:Int))<;>cases decide ((20:Int)<(b.old.length:Int))<;>cases decide ((20:Int)<(b.new.length:Int))<;>simp
 obtain⟨g1,g2,g3⟩:=ae;clear U;rw[iW g1,iW g2,iW g3,cC,cC,cC]at I;generalize ab:b.zones.any (λz=>decide (20<z.chs.length))=A1 at*;generalize ac:(b.old++b.new).any (λt=>decide (20<t.stops.length))=A2 at*;refine wS ?_;refine X3 λQ V=>?_;refine ZJ false false [] [1,3] [] (λ(i:Nat)=>[(3,.int .i64 λ_=>(i:Int))]) (λ_=>[]) (λi=>i<=b.zones.length/\(b.zones.drop i).any (λz=>decide (20<z.chs.length))=A1) (λi=>b.zones.length-i+0) 0 ⟨aV _,by simpa using ab⟩ ?_ ?_
 ·exact ZG
 rintro i ⟨hi,G⟩;refine wS ?_;refine⟨λJ=>?_,λJ=>?_⟩
 ·simp only[iR]at J;have S:i<b.zones.length:=by omega
  rw[ZkY (d:=default) O S]at G;refine vS ?_;generalize Y Zone default b.zones (i:Int)=z at*;refine Chk.mk (ZH) ?_;refine⟨λH=>?_,λH=>?_⟩
  ·have H:20<z.chs.length:=by have Z:(20:Int)<(z.chs.length:Int):=iU H;omega
   rw[iX H,cO]at G;subst G;rw[cO]at I;subst I;refine wS ?_;refine V _ _ _ ?_;exact zW
  have H:¬20<z.chs.length:=by have Z:¬(20:Int)<(z.chs.length:Int):=iV H;omega
  rw[iW H,cC]at G;refine wS ?_;refine⟨i+1,⟨by omega,G⟩,by show b.zones.length-(i+1)+0<b.zones.length-i+0;omega,?_⟩;exact ZG
 simp only[iS]at J;rw[bB (by omega)]at G;have G:A1=false:=G.symm;rw[G,cC]at I;refine wS ?_;refine V _ _ _ ?_;clear V;refine wS ?_;have ah:(b.old++b.new).length<=40:=by rw[bf];omega
 refine ZJ false false [] [4,5] [] (λ(i:Nat)=>[(4,.isl 3 (λ_=>((b.old++b.new).length:Int)) (λe=>encTrain (Y Train default (b.old++b.new) (e ()))) .none),(5,.int .i64 λ_=>(i:Int))]) (λ_=>[]) (λi=>i<=(b.old++b.new).length/\((b.old++b.new).drop i).any (λt=>decide (20<t.stops.length))=A2) (λi=>(b.old++b.new).length-i+0) 0 ⟨aV _,by simpa using ac⟩ ?_ ?_
 ·refine toR ?_;exact ZvK O rfl (by simp) (by simp)
 generalize b.old++b.new=A at*;rintro i ⟨hi,G⟩;refine wS ?_;refine⟨λJ=>?_,λJ=>?_⟩
 ·simp only[iR]at J;have S:i<A.length:=by omega
  rw[ZkY (d:=default) O S]at G;refine vS ?_;generalize Y Train default A (i:Int)=t at*;refine Chk.mk (ZH) ?_;refine⟨λH=>?_,λH=>?_⟩
  ·have H:20<t.stops.length:=by have Z:(20:Int)<(t.stops.length:Int):=iU H;omega
   rw[iX H,cO]at G;rw[<-G]at I;subst I;exact zW
  have H:¬20<t.stops.length:=by have Z:¬(20:Int)<(t.stops.length:Int):=iV H;omega
  rw[iW H,cC]at G;refine wS ?_;refine⟨i+1,⟨by omega,G⟩,by show A.length-(i+1)+0<A.length-i+0;omega,?_⟩;exact ZG
 simp only[iS]at J;rw[bB (by omega)]at G;rw[<-G]at I;have I:E=false:=I.symm;subst I;exact zW
structure Zla (t:Zb):Prop where
 fit:Qm t
 runs:t.runs.length<=20
 waits:t.waits.length<=20
 delays:t.delays.length<=20
 bys:∀d∈t.delays,d.by_.length<=20
theorem Zyy (t:Zb) (hi:Zrv t):SC (λ_=>aB) 16 [Zf t] [] λv h=>∃b:Bool,v= .bool (λ_=>b)/\(b=false->Zla t)/\h=[]:=by
 obtain⟨nt,O⟩:=Zn;have k1:=Zyk t.book hi.book;have k2:=λh=>Zxe t h;have H:= @ZnX t.book;obtain⟨ah,hr,hw,G,ab⟩:=hi;refine QO Tryz.func16 (body:=Zj Tryz.f16) rfl (by decide+kernel) ?_;generalize hB:ZgK t.book=B at*;generalize hR:decide ((20:Int)<(t.runs.length:Int))=R;generalize hW:decide ((20:Int)<(t.waits.length:Int))=W;generalize Y:decide ((20:Int)<(t.delays.length:Int))=D;have A:(B=true\/R=true\/W=true\/D=true)\/(B=false/\R=false/\W=false/\D=false):=by cases B<;>cases R<;>cases W<;>cases D<;>simp
 unfold Zf Zd at*;simp only[Za O,Zt]at*;refine wS ?_;refine ZL (k1) (by first|rfl|(simp only[Ze,Zd,Zf,Zc,Zt,Za O];rfl)) λr Z J=>?_;(try simp only[Ze,Zd,Zf,Zc,Zt,Za O]at J);obtain⟨rfl,rfl⟩:=J;refine vS ?_;simp only[hR,hW,Y];refine Chk.mk (ZH) ?_;rcases A with A|A
 ·refine Br.isT (by revert A;cases B<;>cases R<;>cases W<;>cases D<;>simp) ?_;refine wS ?_;exact⟨true,rfl,(λh=>nomatch h),trivial⟩
 refine Br.isF (by rw[A.1,A.2.1,A.2.2.1,A.2.2.2];rfl) ?_;have hr:¬20<(t.runs.length:Int):=iV (hR.trans A.2.1);have hw:¬20<(t.waits.length:Int):=iV (hW.trans A.2.2.1);have G:¬20<(t.delays.length:Int):=iV (Y.trans A.2.2.2);have H:=(H A.1).1;clear A hR hW Y hB;refine wS ?_;refine X3 λQ V=>?_;refine ZJ false false [] [1,3,4] [] (λ(⟨i,n⟩:Nat×Int)=>[(3,.int .i64 λ_=>n),(4,.int .i64 λ_=>(i:Int))]) (λ_=>[]) (λ⟨i,n⟩=>i<=t.delays.length/\(0<=n/\n<=100)/\∀d∈t.delays.take i,d.by_.length<=20) (λi=>t.delays.length-i.1+0) (0,1) ⟨aV _,⟨by decide,by decide⟩,λd G=>by simp at G⟩ ?_ ?_
 ·exact ZG
 intro ⟨i,n⟩ hi;have ac:=hi.1;have hn:=hi.2.1;refine wS ?_;refine⟨λI=>?_,λI=>?_⟩
 ·have I:=iU I;have aa:=Yb (d:=default) O (l:=t.delays) (i:=i) (by omega);have ae:=ab _ (QC (d:=default) O (l:=t.delays) (i:=i) (by omega));generalize hx:nt ZU default t.delays i=x at*;refine vS ?_;try simp only[hx]
  try refine Chk.mk (ZH) ?_
  refine⟨λh1=>?_,λh1=>?_⟩
  ·refine wS ?_;refine V _ _ _ ?_;refine wS ?_;exact⟨true,rfl,(λh=>nomatch h),trivial⟩
  have h1:¬20<(x.by_.length:Int):=iV h1;refine vS ?_;simp only[hx];have hM:1<=(if 1<(x.by_.length:Int)then(x.by_.length:Int)else 1)/\(if 1<(x.by_.length:Int)then(x.by_.length:Int)else 1)<=20:=by split<;>omega
  have h5:0<=n*(if 1<(x.by_.length:Int)then(x.by_.length:Int)else 1):=Int.mul_nonneg hn.1 (by omega);have h6:n*(if 1<(x.by_.length:Int)then(x.by_.length:Int)else 1)<=100*20:=Int.mul_le_mul hn.2 hM.2 (by omega) (by omega);clear hM;refine Chk.mk (ZH) ?_;generalize n*(if 1<(x.by_.length:Int)then(x.by_.length:Int)else 1)=P at*;refine⟨(i+1,min 100 P),⟨by omega,⟨by omega,by omega⟩,λd G=>?_⟩,by show t.delays.length-(i+1)+0<t.delays.length-i+0;omega,?_⟩
  ·rw[aa]at G;rcases cK.1 G with G|G
   ·exact hi.2.2 d G
   rw[aN.1 G];omega
  exact ZG
 have I:=iV I;have S:∀d∈t.delays,d.by_.length<=20:=λd G=>hi.2.2 d (by rw[List.take_of_length_le (by omega)];exact G);have U:Zla t:=⟨⟨H,by omega,by omega,by omega,λd G=>by have:=S d G;omega⟩,by omega,by omega,by omega,S⟩;have k2:=k2 U.fit;clear hi;refine wS ?_;refine V _ _ _ ?_;clear V;refine vS ?_;refine⟨λh=>?_,λh=>?_⟩
 ·have h:=iU h;refine wS ?_;refine ZL (k2) (by first|rfl|(simp only[Ze,Zd,Zf,Zc,Zt,Za O];rfl)) λr Z J=>?_;(try simp only[Ze,Zd,Zf,Zc,Zt,Za O]at J);obtain⟨rfl,rfl⟩:=J;refine wS ?_;exact⟨_,rfl,λ_=>U,trivial⟩
 refine wS ?_;exact⟨false,rfl,λ_=>U,trivial⟩
theorem Zyv (t:Zb) (H:Qm t):SC (λ_=>aB) 27 [Zf t,Zf t] [] λv h=>v= .bool (λ_=>true)/\h=[]:=by
 obtain⟨Z,O⟩:=Zn;have V:=ZyF t.book H.book;have J:=λ(l:List Int) (h:l.length<=1000000)=>c39 l l (by omega);simp only[decide_true]at J;have S:=H.bys;have aa:=H.runs;have ab:=H.waits;have ac:=H.delays;refine QO Tryz.func27 (body:=Zj Tryz.f27) rfl (by decide+kernel) ?_;unfold Zf Zd at*;simp only[Za O]at*;refine wS ?_;refine ZL (V) (by first|rfl|(simp only[Ze,Zd,Zf,Zt,Za O];rfl)) λr I G=>?_;(try simp only[Ze,Zd,Zf,Zt,Za O]at G);obtain⟨rfl,rfl⟩:=G;refine wS ?_;refine ZJ false false [] [2,3,5,6] [] (λ(i:Nat)=>[(5,.bool λ_=>true),(6,.int .i64 λ_=>(i:Int))]) (λ_=>[]) (λi=>i<=t.runs.length) (λi=>t.runs.length-i+0) 0 (aV _) ?_ ?_
 ·refine toR ?_;exact .bool (by simp)
 intro i U;refine wS ?_;refine⟨λA=>?_,λA=>?_⟩
 ·have A:=iU A;refine wS ?_;refine⟨i+1,by omega,by omega,?_⟩;refine toR ?_;exact .bool (by simp)
 refine wS ?_;refine ZJ false false [] [2,3,5,7] [] (λ(i:Nat)=>[(5,.bool λ_=>true),(7,.int .i64 λ_=>(i:Int))]) (λ_=>[]) (λi=>i<=t.waits.length) (λi=>t.waits.length-i+0) 0 (aV _) ?_ ?_
 ·exact ZG
 intro i U;refine wS ?_;refine⟨λA=>?_,λA=>?_⟩
 ·have A:=iU A;refine wS ?_;refine⟨i+1,by omega,by omega,?_⟩;refine toR ?_;exact .bool (by simp)
 refine wS ?_;refine ZJ false false [] [2,3,5,8] [] (λ(i:Nat)=>[(5,.bool λ_=>true),(8,.int .i64 λ_=>(i:Int))]) (λ_=>[]) (λi=>i<=t.delays.length) (λi=>t.delays.length-i+0) 0 (aV _) ?_ ?_
 ·exact ZG
 intro i U;refine wS ?_;refine⟨λA=>?_,λA=>?_⟩
 ·have A:=iU A;have Y:=S _ (QC (d:=default) O (l:=t.delays) (i:=i) (by omega));simp only[Zt,Za O];generalize hx:Z ZU default t.delays i=x at*;refine vS ?_;try simp only[hx]
  try refine Chk.mk (ZH) ?_
  refine Br.isT (by simp) ?_;refine wS ?_;refine ZL (J x.by_ Y) (by first|rfl|(simp only[Ze,Zd,Zf,Zt,Za O];rfl)) λr I G=>?_;(try simp only[Ze,Zd,Zf,Zt,Za O]at G);obtain⟨rfl,rfl⟩:=G;refine wS ?_;refine⟨i+1,by omega,by omega,?_⟩;refine toR ?_;exact .bool (by simp)
 (cbv;(try simp only[nc]at*);(try refine Chk.mk (ZH) ?_))
 (try first|exact⟨rfl,trivial⟩|exact⟨trivial,trivial⟩)
theorem Zyz (z:Zone) (A:z.chs.length<=1000000):SC (λ_=>aB) 129 [Ze z] [] λv h=>v=Ze z/\h=[]:=by
 obtain⟨G,O⟩:=Zn;refine SC.less (Zg3 false false [] Tryz.func129 (body:=Zj Tryz.f129) rfl (by decide+kernel) ?_);unfold Ze;simp only[Za O,Jt O];refine wS ?_;refine⟨_,_,?_,rfl,rfl⟩;refine toR ?_;refine .isl (by simp) λi H=>?_;show(if((i:Nat):Int)<(([]:List Chg).length:Int)then _ else _)=_;rw[iP (by simp)];simp
theorem c69 (l:List Train) (Y:l.length<=1000000) (J:∀t∈l,t.stops.length<=1000000):SC (λ_=>aB) 130 [lst 3 encTrain default l] [] λv h=>v=lst 3 encTrain default l/\h=[]:=by
 obtain⟨H,O⟩:=Zn;refine SC.less (Zg3 false false [] Tryz.func130 (body:=Zj Tryz.f130) rfl (by decide+kernel) ?_);simp only[Za O];refine wS ?_;refine ZJ false false [] [0,3,4] [.tok 3 λ_=>0] (λ(i:Nat)=>[(3,.isl 3 (λ_=>((l.take i).length:Int)) (λe=>encTrain (H Train default (l.take i) (e ()))) (.own 0)),(4,.int .i64 λ_=>(i:Int))])
  (λi=>[(0,.tok 3 λ_=>((l.take i).length:Int))]) (λi=>i<=l.length) (λi=>l.length-i+0) 0 (aV _) ?_ ?_
 ·(refine To.of [(3,false)] ?_;cbv;(try simp only[nc]);(repeat' first|exact xT|refine⟨?_,?_⟩|refine ZM.cells ?_|refine ZC.agg ?_|refine ZC.tup ?_);all_goals try exact XZ)
 intro i hi;refine wS ?_;refine⟨λA=>?_,λA=>?_⟩
 ·simp only[iR]at A;have S:=J _ (QC (d:=default) O (l:=l) (i:=i) (by omega));have G:=Yb (d:=default) O (l:=l) (i:=i) (by omega);have V:(l.take i).length=i:=by rw[bT];omega
  refine vS ?_;generalize H Train default l (i:Int)=t at*;have U:(t.stops.length:Int)<=1000000:=by omega
  have I:((0:Nat):Int)+(t.stops.length:Int)<=1000000:=by omega
  refine Chk.mk (ZH) ?_;refine⟨i+1,by omega,by omega,?_⟩;rw[G];refine toR ?_;refine .snocO O rfl rfl (by simp) (.three λw ok v h=>?_);rw[Za O];exact ZsT rfl (by simp) (λj Z=>by rw[Jt O];rfl) h
 obtain rfl:i=l.length:=by simp only[iS]at A;omega
 rw[eW];refine wS ?_;refine⟨_,[],?_,rfl,rfl⟩;exact ZG
theorem c23 (b:Xv) (A:Xt b):SC (λ_=>aB) 77 [Zd b] [] λv h=>v=Zd b/\h=[]:=by
 obtain⟨G,O⟩:=Zn;have S:=c69 b.old A.old A.stops.1;have U:=c69 b.new A.new A.stops.2;have hz:=A.zones;have V:=A.chs;refine SC.less (Zg3 false false [] Tryz.func77 (body:=Zj Tryz.f77) rfl (by decide+kernel) ?_);unfold Zd at*;simp only[Za O]at*;refine wS ?_;refine ZJ false false [] [1,2,3,4] [.tok 2 λ_=>0] (λ(i:Nat)=>[(4,.int .i64 λ_=>(i:Int))])
  (λi=>[(0,.cells [.isl 2 (λ_=>((b.zones.take i).length:Int)) (λe=>encZone (G Zone default (b.zones.take i) (e ()))) (.own 2),.isl 3 (λ_=>(b.old.length:Int)) (λe=>encTrain (G Train default b.old (e ()))) .none,.isl 3 (λ_=>(b.new.length:Int)) (λe=>encTrain (G Train default b.new (e ()))) .none,.int .i64 λ_=>b.night,.int .i64 λ_=>b.last]),(2,.tok 2 λ_=>((b.zones.take i).length:Int))]) (λi=>i<=b.zones.length) (λi=>b.zones.length-i+0) 0 (aV _) ?_ ?_
 ·(refine To.of [(2,false)] ?_;cbv;(try simp only[nc]);(repeat' first|exact xT|refine⟨?_,?_⟩|refine ZM.cells ?_|refine ZC.agg ?_|refine ZC.tup ?_);all_goals try exact XZ)
 intro i Z;refine wS ?_;refine⟨λH=>?_,λH=>?_⟩
 ·simp only[iR]at H;have J:=V _ (QC (d:=default) O (l:=b.zones) (i:=i) (by omega));have I:=Yb (d:=default) O (l:=b.zones) (i:=i) (by omega);have Y:(b.zones.take i).length=i:=by rw[bT];omega
  refine vS ?_;generalize G Zone default b.zones (i:Int)=z at*;refine Chk.mk (ZH) ?_;refine ZcX (Zyz z J) ?_;refine wS ?_;refine⟨i+1,by omega,by omega,?_⟩;rw[I];exact ZG
 obtain rfl:i=b.zones.length:=by simp only[iS]at H;omega
 rw[eW];refine wS ?_;refine ZcX (S) ?_;refine wS ?_;refine ZcX (U) ?_;refine wS ?_;refine⟨_,[],?_,rfl,rfl⟩;exact ZG
theorem Zyg (l:List Int) (A:l.length<=1000000):SC (λ_=>aB) 78 [lst 1 Xd 0 l] [] λv h=>v=lst 1 Xd 0 l/\h=[]:=by
 obtain⟨G,O⟩:=Zn;refine SC.less (Zg3 false false [] Tryz.func78 (body:=Zj Tryz.f78) rfl (by decide+kernel) ?_);simp only[Za O];refine wS ?_;refine⟨_,_,?_,rfl,rfl⟩;refine toR ?_;refine .isl (by simp) λi H=>?_;show(if((i:Nat):Int)<(([]:List Int).length:Int)then _ else _)=_;rw[iP (by simp)];simp
def Zq2 (A:(α:Type)->α->List α->Int->α) (x:Zb):List AV:=[.isl 2 (λ_=>(x.book.zones.length:Int)) (λe=>encZone (A Zone default x.book.zones (e ()))) .none,.isl 3 (λ_=>(x.book.old.length:Int)) (λe=>encTrain (A Train default x.book.old (e ()))) .none,.isl 3 (λ_=>(x.book.new.length:Int)) (λe=>encTrain (A Train default x.book.new (e ()))) .none,.int .i64 λ_=>x.book.night,.int .i64 λ_=>x.book.last,
 .isl 2 (λ_=>(x.runs.length:Int)) (λe=>Zh (A Sp.Z3 default x.runs (e ()))) .none,.isl 4 (λ_=>(x.waits.length:Int)) (λe=>QM (A Sp.QR default x.waits (e ()))) .none,.isl 3 (λ_=>(x.delays.length:Int)) (λe=>Zt (A Sp.ZU default x.delays (e ()))) .none]
end Vm
namespace Sp
open Vm
theorem set_get {x:List Int} {d k:Nat} (A:d<x.length):(x.set d 0).getD k 0=if k=d then 0 else x.getD k 0:=by
 by_cases h:k=d
 ·subst h;rw[iQ rfl,aA,List.getElem?_set_self A];rfl
 rw[iP h,aA,List.getElem?_set_ne (Ne.symm h),<-aA]
end Sp
namespace Vm
attribute [local irreducible] Dn
open Go Go.Proofs Sp
set_option maxRecDepth 100000
set_option maxHeartbeats 8000000
theorem Zxf (t:Zb) (G:Qm t):SC (λ_=>aB) 20 [Zf t] [] λv h=>v=Zf t/\h=[]:=by
 obtain⟨A,O⟩:=Zn;have S:=c23 t.book G.book;have Y:=G.bys;have ab:=G.runs;have aa:=G.waits;have ac:=G.delays;refine SC.less (Zg3 false false [] Tryz.func20 (body:=Zj Tryz.f20) rfl (by decide+kernel) ?_);unfold Zf Zd at*;simp only[Za O,Jt O]at*;refine wS ?_;refine Zrk (S) ?_;refine wS ?_;refine ZJ false false [] [1,2,3,4] [.tok 3 λ_=>0] (λ(i:Nat)=>[(4,.int .i64 λ_=>(i:Int))])
  (λi=>[(0,.cells [.isl 2 (λ_=>(t.book.zones.length:Int)) (λe=>encZone (A Zone default t.book.zones (e ()))) .none,.isl 3 (λ_=>(t.book.old.length:Int)) (λe=>encTrain (A Train default t.book.old (e ()))) .none,.isl 3 (λ_=>(t.book.new.length:Int)) (λe=>encTrain (A Train default t.book.new (e ()))) .none,.int .i64 λ_=>t.book.night,.int .i64 λ_=>t.book.last,.isl 2 (λ_=>(t.runs.length:Int)) (λe=>Zh (A Sp.Z3 default t.runs (e ()))) (.own 2),.isl 4 (λ_=>(t.waits.length:Int)) (λe=>QM (A Sp.QR default t.waits (e ()))) (.own 3),.isl 3 (λ_=>((t.delays.take i).length:Int)) (λe=>Zt (A Sp.ZU default (t.delays.take i) (e ()))) (.own 4)]),(2,.tok 2 λ_=>(t.runs.length:Int)),(3,.tok 4 λ_=>(t.waits.length:Int)),(4,.tok 3 λ_=>((t.delays.take i).length:Int))])
  (λi=>i<=t.delays.length) (λi=>t.delays.length-i+0) 0 (aV _) ?_ ?_
 ·(refine To.of [(3,false)] ?_;cbv;(try simp only[nc]);(repeat' first|exact xT|refine⟨?_,?_⟩|refine ZM.cells ?_|refine ZC.agg ?_|refine ZC.tup ?_);all_goals try exact XZ)
  ·exact .isl (by simp) λi H=>by rw[QG (len:=0) rfl (aV _)];rfl
  exact .isl (by simp) λi H=>by rw[QG (len:=0) rfl (aV _)];rfl
 intro i H;have H:i<=t.delays.length:=H;refine wS ?_;refine⟨λI=>?_,λI=>?_⟩
 ·simp only[iR]at I;have U:=Y _ (QC (d:=default) O (l:=t.delays) (i:=i) (by omega));have V:=Yb (d:=default) O (l:=t.delays) (i:=i) (by omega);have Z:(t.delays.take i).length=i:=by rw[bT];omega
  refine wS ?_;have J:=Zyg (A Sp.ZU default t.delays (i:Int)).by_ U;refine Zrk (J) ?_;refine wS ?_;refine⟨i+1,by show i+1<=_;omega,by show t.delays.length-(i+1)+0<t.delays.length-i+0;omega,?_⟩;rw[V];refine toR ?_;exact .snoc O rfl (by simp) (by unfold Zt;rw[Za O];rfl)
 obtain rfl:i=t.delays.length:=by simp only[iS]at I;omega
 rw[eW];refine wS ?_;refine⟨_,[],?_,rfl,rfl⟩;exact ZG
end Vm
namespace Sp
open Vm
structure Znl (t:Zb):Prop where
 runs:1<=t.runs.length/\t.runs.length<=4
 call:∀r:Nat,r<t.runs.length->QX t.book (t.runs.getD r default)=((callsOf t).getD r [],true)
 len:∀r:Nat,r<t.runs.length->2<=((callsOf t).getD r []).length/\((callsOf t).getD r []).length<=4
 st:∀r:Nat,r<t.runs.length->∀k:Nat,k<((callsOf t).getD r []).length->0<=(((callsOf t).getD r []).getD k default).station/\(((callsOf t).getD r []).getD k default).station<=9
 step:∀r:Nat,r<t.runs.length->∀a b:Nat,a<b->b<((callsOf t).getD r []).length->Xw (callsOf t) t.runs.length ⟨(r:Int),(((callsOf t).getD r []).getD a default).station,(((callsOf t).getD r []).getD b default).station⟩=0
theorem ZnA {t:Zb} (G:Zq t=0) {k:Nat} (H:k<t.runs.length):Xe (J1 t.book (t.runs.getD k default).number (t.runs.getD k default).day).1=0:=by
 have h:=(Yo G).2.1;unfold QJ at h;split at h
 ·cases h
 split at h
 ·cases h
 have A:=ZZ h k (aV _) (by omega);unfold Y9 at A;split at A
 ·rename_i g;exact absurd A g
 split at A
 ·cases A
 rename_i g;exact bO g
theorem Zqj {t:Zb} (hm:Zk5 t):Znl t:=by
 have G:=hm.begin;have Y:=(XM G).calls;have hl:=calls_len t;have H:∀r:Nat,r<t.runs.length->(callsOf t).getD r []∈callsOf t:=λr hr=>ZlN (by omega);have h1:1<=t.runs.length:=by
  have h:=(Yo G).2.1;unfold QJ at h;split at h
  ·cases h
  omega
 have h4:=Y.len;refine⟨by omega,λr hr=>?_,λr hr=>Y.row _ (H r hr),λr hr k U=>?_,λr hr a b ab S=>?_⟩
 ·have e:=ZnA G hr;have e2:=Zei G hr;unfold QX;rw[iP (λh=>h e),iX e2,Zlq hr]
 ·have I:=Zqe (Zei G hr);rw[<-Zlq hr]at I;obtain⟨j,_,hj⟩:=hm.from_ r hr;obtain⟨z,old,n,S,_,Z⟩:=hm.book;have ht:QS t.book (t.runs.getD r default).day=old:=by rw[hj,S];rfl
  rw[ht]at I;have J:(place old (t.runs.getD r default).number).toNat<old.length:=by
   have h3:=I.2;have h5:=(Xi (q:=λx:Train=>decide (x.number=(t.runs.getD r default).number)) (l:=old) (i:=0) (Int.le_refl _)).1;unfold place at*;omega
  obtain⟨st,s1,s2,hD⟩:=Z.all _ J;generalize (old.getD (place old (t.runs.getD r default).number).toNat default)=T at*;have e:((callsOf t).getD r []).map (·.station)=T.stops.map (·.station):=by rw[I.1];exact Zct _ _ _ _ _ _
  generalize (callsOf t).getD r []=R at*;have aa:R.length=T.stops.length:=by simpa using congrArg List.length e
  have A:k<T.stops.length:=by omega
  have e3:(R.getD k default).station=(T.stops.getD k default).station:=by
   have:=congrArg (λl=>l[k]?) e;simp only[List.getElem?_map,aC U,aC A,Option.map_some,aD]at this;rw[aA,aA,aC U,aC A];exact this
  rw[e3];have:=(hD.made.stop _ (ZlN (d:=default) A)).1;omega
 have J:=(hm.row _ (H r hr)).st;have ha:=ZdB J (f:=0) (i:=a) (aV _) (by omega);have V:=ZdB J (f:=a+1) (i:=b) (by omega) S;unfold Xw;dsimp only;rw[Zab (by omega) (by omega),iP aO];rw[Int.toNat_natCast,show(0:Int)=((0:Nat):Int)from rfl,ha,show((a:Nat):Int)+1=((a+1:Nat):Int) by omega,V,iP (by omega)]
end Sp
namespace Vm
attribute [local irreducible] Dn
open Go Go.Proofs Sp
set_option maxRecDepth 100000
set_option maxHeartbeats 8000000
theorem cL4 (l:List Nat) {f:FuncId} {xs I:List AV} {h J:List Zi} {G Q:AV->List Zi->Prop} (H:SC (λ_=>aB) f I J Q) (S:∀ r A,Q r A->G (ren (Jg l h.length) 5 r) (back l h A)) (Z:l.Nodup:=by decide) (U:∀ i∈l,i<h.length:=by simp) (Y:xs.map (QE false l h 5)=I:=by first|rfl|(simp only[Ze,Zd,Zf,Zc,Zh,Za O];rfl)) (V:sel false l h=J:=by first|rfl|(simp only[Ze,Zd,Zf,Zc,Zh,Za O];rfl)):SC (λ_=>aB) f xs h G:=ZP l H Z U Y V S
theorem Zyu (s:Int) (t:Zb) (S:Int) (Z:Qm t) (hr:Znl t) (au:0<=S/\S<=6):SC (λ_=>aB) 31 [.ptr 0 0,Zf t,.int .i64 λ_=>S] [XI s] λv h=>∃(x:Zl) (s':Int),Xh (callsOf t) t.runs.length x=0/\x.steps.length<=6/\v=Qa x/\h=[XI s']:=by
 obtain⟨G,O⟩:=Zn;have bg:=hr.runs;have J:=λ(r:Int)=>Ztr t.book (G Sp.Z3 default t.runs r) Z.book;have ai:∀r:Int,0<=r->r<t.runs.length->QX t.book (G Sp.Z3 default t.runs r)=(G (List Sp.Call) [] (callsOf t) r,true):=λr h0 Y=>by
  rw[O,O];exact hr.call r.toNat (by omega)
 have ae:∀r:Int,0<=r->r<t.runs.length->2<=(G (List Sp.Call) [] (callsOf t) r).length/\(G (List Sp.Call) [] (callsOf t) r).length<=4:=λr h0 Y=>by
  rw[O];exact hr.len r.toNat (by omega)
 have V:∀r:Int,0<=r->r<t.runs.length->∀k:Int,0<=k->k<(G (List Sp.Call) [] (callsOf t) r).length->0<=(G Sp.Call default (G (List Sp.Call) [] (callsOf t) r) k).station/\(G Sp.Call default (G (List Sp.Call) [] (callsOf t) r) k).station<=9:=λr h0 Y k h2 h3=>by
  simp only[O]at h3|-;exact hr.st r.toNat (by omega) k.toNat (by omega)
 have U:∀r:Int,0<=r->r<t.runs.length->∀a b:Int,0<=a->a<b->b<(G (List Sp.Call) [] (callsOf t) r).length->Xw (callsOf t) t.runs.length ⟨r,(G Sp.Call default (G (List Sp.Call) [] (callsOf t) r) a).station,(G Sp.Call default (G (List Sp.Call) [] (callsOf t) r) b).station⟩=0:=λr h0 Y a b h2 h3 h4=>by
  simp only[O]at h4|-;have h:=hr.step r.toNat (by omega) a.toNat b.toNat (by omega) (by omega);rwa [show((r.toNat:Nat):Int)=r by omega]at h
 have ac:∀q:Zl,(0<=q.from_/\q.from_<=9)->(0<=q.goal/\q.goal<=9)->(0<=q.since/\q.since<=43200)->q.steps.length<=6->(∀z∈q.steps,Xw (callsOf t) t.runs.length z=0)->Xh (callsOf t) t.runs.length q=0:=λq Y h2 h3 h4 h5=>by
  unfold Xh;rw[Zab Y.1 Y.2,Zab h2.1 h2.2,Zab h3.1 h3.2,iP (by decide),iP (by omega)];exact ZaK λj _ hj=>h5 _ (ZlN (by omega))
 generalize Xh (callsOf t) t.runs.length=TE at*;generalize Xw (callsOf t) t.runs.length=SE at*;generalize callsOf t=c at*;unfold Zf Zd Qa at*;simp only[Za O]at*;refine SC.less (QO Tryz.func31 (body:=Zj Tryz.f31) rfl (by decide+kernel) ?_);refine wS ?_;refine cL4 [0] (c17 s 200 (by omega)) λr H A=>?_;(try simp only[Ze,Zd,Zf,Zc,Zh,Za O]at A);obtain⟨q,s1,hq,rfl,rfl⟩:=A;refine wS ?_;refine cL4 [0] (Zg9 s1 [0,q] (by simp)) λr H A=>?_;(try simp only[Ze,Zd,Zf,Zc,Zh,Za O]at A);obtain⟨sn,s2,ak,rfl,rfl⟩:=A;have ak:0<=sn/\sn<=200:=by simp at ak;omega
 refine wS ?_;refine cL4 [0] (c17 s2 S (by omega)) λr H A=>?_;(try simp only[Ze,Zd,Zf,Zc,Zh,Za O]at A);obtain⟨m,s3,hm,rfl,rfl⟩:=A;obtain⟨m,rfl⟩:∃k:Nat,m=k:=⟨m.toNat,by omega⟩;have az:m<=6:=by omega
 refine wS ?_;refine ZJ false false [] [0,4,6,7,8,9,10] [.tok 3 λ_=>0] (λ(⟨i,at_,s,fr,go,st⟩:Nat×Int×Int×Int×Int×List Sp.Step)=>[(8,.int .i64 λ_=>at_),(9,.bool λ_=>decide (st.length=0)),(10,.int .i64 λ_=>(i:Int))])
  (λ⟨i,at_,s,fr,go,st⟩=>[(0,XI s),(3,.cells [.int .i64 λ_=>fr,.int .i64 λ_=>sn,.int .i64 λ_=>go,.isl 3 (λ_=>(st.length:Int)) (λe=>QU (G Sp.Step default st (e ()))) (.own 4)]),(4,.tok 3 λ_=>(st.length:Int))])
  (λ⟨i,at_,s,fr,go,st⟩=>st.length+i=m/\(0<=fr/\fr<=9)/\(0<=go/\go<=9)/\∀z∈st,SE z=0) (λq=>q.1+0) (m,-1,s3,0,0,[]) ⟨by simp,by omega,by omega,by simp⟩ ?_ ?_
 ·(refine To.of [(3,false)] ?_;cbv;(try simp only[nc]);(repeat' first|exact xT|refine⟨?_,?_⟩|refine ZM.cells ?_|refine ZC.agg ?_|refine ZC.tup ?_);all_goals try exact XZ)
 rintro⟨i,at_,s4,fr,go,st⟩ hinv;have hi:st.length+i=m:=hinv.1;have aj:=hinv.2.1;have aq:=hinv.2.2.1;have ab:=hinv.2.2.2;clear hinv;refine wS ?_;refine⟨λhb=>?_,λhb=>?_⟩
 ·simp only[iR]at hb;refine wS ?_;refine cL4 [0] (c17 s4 ((t.runs.length:Int)-1) (by omega)) λr H A=>?_;(try simp only[Ze,Zd,Zf,Zc,Zh,Za O]at A);obtain⟨r,s5,bc,rfl,rfl⟩:=A;have I:0<=r/\r<t.runs.length:=by omega
  have J:=J r;rw[ai r I.1 I.2]at J;have ae:=ae r I.1 I.2;have V:=V r I.1 I.2;have U:=U r I.1 I.2;generalize G (List Sp.Call) [] c r=C at*;refine wS ?_;refine ZL (J) (by first|rfl|(simp only[Ze,Zd,Zf,Zc,Zh,Za O];rfl)) λr H A=>?_;(try simp only[Ze,Zd,Zf,Zc,Zh,Za O]at A);obtain⟨rfl,rfl⟩:=A;refine wS ?_;refine cL4 [0] (c17 s5 ((C.length:Int)-2) (by omega)) λr H A=>?_;(try simp only[Ze,Zd,Zf,Zc,Zh,Za O]at A);obtain⟨a,s6,ha,rfl,rfl⟩:=A;refine wS ?_;refine X3 λQ hQ=>?_;refine ZJ false false [] [0,4,6,7,8,9,10,11,12,14,15] [] (λ(⟨k,a,s⟩:Nat×Int×Int)=>[(14,.int .i64 λ_=>a),(15,.int .i64 λ_=>(k:Int))]) (λ⟨k,a,s⟩=>[(0,XI s)]) (λ⟨k,a,s⟩=>k+1<=C.length/\0<=a/\a+2<=C.length) (λq=>C.length-q.1+0) (0,a,s6) ⟨by omega,by omega,by omega⟩ ?_ ?_
  ·exact ZG
  rintro⟨k,a,s7⟩ hinv;have hk:k+1<=C.length:=hinv.1;have be:=hinv.2.1;have bh:=hinv.2.2;clear hinv;refine wS ?_;refine⟨λah=>?_,λah=>?_⟩
  ·simp only[iR]at ah;refine wS ?_;refine⟨λam=>?_,λam=>?_⟩
   ·refine wS ?_;refine cL4 [0] (c37 s7 4 5 (by omega)) λr H A=>?_;(try simp only[Ze,Zd,Zf,Zc,Zh,Za O]at A);obtain⟨bb,s8,rfl,rfl⟩:=A;refine wS ?_;refine⟨λar=>?_,λar=>?_⟩
    ·refine wS ?_;refine⟨(k+1,(k:Int),s8),⟨by omega,by show(0:Int)<=(k:Int);omega,by show(k:Int)+2<=C.length;omega⟩,by show C.length-(k+1)+0<C.length-k+0;omega,?_⟩;exact ZG
    refine wS ?_;refine⟨(k+1,a,s8),⟨by omega,by omega,by omega⟩,by show C.length-(k+1)+0<C.length-k+0;omega,?_⟩;exact ZG
   refine wS ?_;refine Br.isF (by simp only[am]) ?_;refine wS ?_;refine⟨(k+1,a,s7),⟨by omega,by omega,by omega⟩,by show C.length-(k+1)+0<C.length-k+0;omega,?_⟩;exact ZG
  simp only[iS]at ah;obtain⟨j,rfl⟩:∃j,i=j+1:=⟨i-1,by omega⟩;refine wS ?_;refine hQ _ _ _ ?_;refine wS ?_;refine⟨?_,?_⟩;all_goals
   try refine wS ?_
   refine cL4 [0] (c22 s7 (a+1) ((C.length:Int)-1) (by omega) (by omega)) λr H A=>?_;(try simp only[Ze,Zd,Zf,Zc,Zh,Za O]at A);obtain⟨b,s9,ba,rfl,rfl⟩:=A;have ap:=V a (by omega) (by omega);have al:=V b (by omega) (by omega);have ao:=U a b (by omega) (by omega) (by omega);have aa:∀z∈st++[⟨r,(G Sp.Call default C a).station,(G Sp.Call default C b).station⟩],SE z=0:=λz hz=>by
    rcases cK.1 hz with h|h
    ·exact ab z h
    rw[aN]at h;subst h;exact ao
   refine wS ?_;refine⟨λZ=>?_,λZ=>?_⟩
   ·refine wS ?_;refine cL4 [0] (Zg9 s9 [(G Sp.Call default C b).station,(G Sp.Call default C b).station,(G Sp.Call default C a).station] (by simp)) λr H A=>?_;(try simp only[Ze,Zd,Zf,Zc,Zh,Za O]at A);obtain⟨y,s10,hy,rfl,rfl⟩:=A;refine wS ?_;refine⟨(j,y,s10,(G Sp.Call default C a).station,(G Sp.Call default C b).station,st++[⟨r,(G Sp.Call default C a).station,(G Sp.Call default C b).station⟩]),⟨by simp;omega,ap,al,aa⟩,by show j+0<j+1+0;omega,?_⟩;(refine To.of [] ?_;cbv;(try simp only[nc]);(repeat' first|exact xT|refine⟨?_,?_⟩|refine ZM.cells ?_|refine ZC.agg ?_|refine ZC.tup ?_);all_goals try exact XZ);all_goals first|exact .bool (by simp)|exact .snoc O rfl (by simp) rfl
   refine wS ?_;refine cL4 [0] (Zg9 s9 [(G Sp.Call default C b).station,(G Sp.Call default C b).station,(G Sp.Call default C a).station] (by simp)) λr H A=>?_;(try simp only[Ze,Zd,Zf,Zc,Zh,Za O]at A);obtain⟨y,s10,hy,rfl,rfl⟩:=A;refine wS ?_;refine⟨(j,y,s10,fr,(G Sp.Call default C b).station,st++[⟨r,(G Sp.Call default C a).station,(G Sp.Call default C b).station⟩]),⟨by simp;omega,aj,al,aa⟩,by show j+0<j+1+0;omega,?_⟩;(refine To.of [] ?_;cbv;(try simp only[nc]);(repeat' first|exact xT|refine⟨?_,?_⟩|refine ZM.cells ?_|refine ZC.agg ?_|refine ZC.tup ?_);all_goals try exact XZ);all_goals first|exact .bool (by rw[show decide (st.length=0)=false from Z];simp)|exact .snoc O rfl (by simp) rfl
 simp only[iS]at hb;refine wS ?_;refine⟨λZ=>?_,λZ=>?_⟩
 ·refine wS ?_;refine cL4 [0] (c17 s4 3 (by omega)) λr H A=>?_;(try simp only[Ze,Zd,Zf,Zc,Zh,Za O]at A);obtain⟨x1,s5,a9,rfl,rfl⟩:=A;refine wS ?_;refine cL4 [0] (c17 s5 3 (by omega)) λr H A=>?_;(try simp only[Ze,Zd,Zf,Zc,Zh,Za O]at A);obtain⟨x2,s6,aw,rfl,rfl⟩:=A;refine wS ?_;refine⟨_,_,?_,⟨x1,sn,x2,st⟩,s6,ac _ (by dsimp only;omega) (by dsimp only;omega) (by dsimp only;omega) (by dsimp only;omega) ab,by dsimp only;omega,rfl,rfl⟩;exact ZG
 refine wS ?_;refine⟨_,_,?_,⟨fr,sn,go,st⟩,s4,ac _ aj aq (by dsimp only;omega) (by dsimp only;omega) ab,by dsimp only;omega,rfl,rfl⟩;exact ZG
def Zq0 (A:(α:Type)->α->List α->Int->α) (a:Zl):List AV:=[.int .i64 λ_=>a.from_,.int .i64 λ_=>a.since,.int .i64 λ_=>a.goal,.isl 3 (λ_=>(a.steps.length:Int)) (λe=>QU (A Sp.Step default a.steps (e ()))) .none]
theorem AB {H A G:Prop} (h:(Unit->H)->(Unit->A)->G) (a:H) (b:A):G:=h (λ_=>a) (λ_=>b)
theorem ZyA (t:Zb) (a:Zl) (wt mn:Int) (l:List Int) (h0:Zrv t) (h1:(a.steps.length:Int)<=9223372036854775807) (h2:I64 wt) (h3:I64 mn) (h4:(l.length:Int)<=9223372036854775807):
  SC (λ_=>aB) 5 [Zf t,Qa a,.int .i64 λ_=>wt,.int .i64 λ_=>mn,lst 1 Xd 0 l] [.main] λr _=>r= .bool λ_=>true:=by
 obtain⟨Y,O⟩:=Zn;have ao:=Zyy t h0;refine QO Tryz.func5 (body:=Zj Tryz.f5) rfl (by decide+kernel) ?_;unfold Zf Qa at*;simp only[Za O]at*;refine wS ?_;refine ZL (ao) (by first|rfl|(simp only[Ze,Zd,Zf,Zc,Za O];rfl)) λr H G=>?_;(try simp only[Ze,Zd,Zf,Zc,Za O]at G);obtain⟨b,rfl,hb,rfl⟩:=G;cases b with
 |true=>
  refine wS ?_;refine Br.isT rfl ?_;refine wS ?_;refine cL1 [0] (Zvx) λr H G=>?_;(try simp only[Ze,Zd,Zf,Zc,Za O]at G);obtain⟨rfl,rfl⟩:=G;exact zW
 |false=>
  have ap:=hb rfl;refine wS ?_;refine⟨λhb=>?_,λhb=>?_⟩
  ·refine wS ?_;refine cL1 [0] (Zvx) λr H G=>?_;(try simp only[Ze,Zd,Zf,Zc,Za O]at G);obtain⟨rfl,rfl⟩:=G;exact zW
  have hb:=iV hb;refine wS ?_;refine ZL (c14 l h4) (by first|rfl|(simp only[Ze,Zd,Zf,Zc,Za O];rfl)) λr H G=>?_;(try simp only[Ze,Zd,Zf,Zc,Za O]at G);obtain⟨s,rfl,rfl⟩:=G;refine wS ?_;refine cL1 [3] (Zyx s 4 3 2 (by omega) (by omega) (by omega)) λr H G=>?_;(try simp only[Ze,Zd,Zf,Zc,Za O]at G);obtain⟨m,s',hm,rfl,rfl⟩:=G;have he:=hm.1.begin;have aq:=hm.2.1;have aw:=hm.2.2.1;have bh:=hm.2.2.2;have ac:=Zr5 he;have ab:=Zyu s' m 5 ac (Zqj hm.1) ⟨by omega,by omega⟩;unfold Zf Qa at ab;simp only[Za O]at ab;refine wS ?_;refine cL1 [3] (ab) λr H G=>?_;(try simp only[Ze,Zd,Zf,Zc,Za O]at G);obtain⟨y,s0,au,a9,rfl,rfl⟩:=G;refine wS ?_;refine cL1 [3] (c17 s0 ((m.waits.length:Int)-1) (by omega)) λr H G=>?_;(try simp only[Ze,Zd,Zf,Zc,Za O]at G);obtain⟨r2,s2,ar,rfl,rfl⟩:=G;refine wS ?_;refine cL1 [3] (c17 s2 60 (by omega)) λr H G=>?_;(try simp only[Ze,Zd,Zf,Zc,Za O]at G);obtain⟨r3,s3,bg,rfl,rfl⟩:=G;obtain⟨TS,ah⟩:∃TS:List Zb,TS=[t,m,m]:=⟨_,rfl⟩;obtain⟨YS,ae⟩:∃YS:List Zl,YS=[a,y,a]:=⟨_,rfl⟩;obtain⟨WS,aj⟩:∃WS:List Int,WS=[wt,r2,wt]:=⟨_,rfl⟩;obtain⟨MS,ai⟩:∃MS:List Int,MS=[mn,r3,mn]:=⟨_,rfl⟩;have ba:TS.length=3:=by rw[ah];rfl
  have bc:YS.length=3:=by rw[ae];rfl
  have az:WS.length=3:=by rw[aj];rfl
  have be:MS.length=3:=by rw[ai];rfl
  have al:∀x∈TS,Qm x:=by
   intro x U;rw[ah]at U;simp only[bG,dM,or_false]at U;rcases U with rfl|rfl|rfl
   ·exact ap.fit
   ·exact ac
   exact ac
  have am:∀x∈YS,x.steps.length<=1000000:=by
   intro x U;rw[ae]at U;simp only[bG,dM,or_false]at U;rcases U with rfl|rfl|rfl<;>omega
  clear ab;refine wS ?_;refine ZJ false false [] [13,14,15,16,17] [] (λ(i:Nat)=>[(13,.isl 8 (λ_=>(TS.length:Int)) (λe=>Zq2 Y (Y Zb default TS (e ()))) .none),(14,.isl 4 (λ_=>(YS.length:Int)) (λe=>Zq0 Y (Y Zl default YS (e ()))) .none),(15,.isl 1 (λ_=>(WS.length:Int)) (λe=>Xd (Y Int 0 WS (e ()))) .none),(16,.isl 1 (λ_=>(MS.length:Int)) (λe=>Xd (Y Int 0 MS (e ()))) .none),(17,.int .i64 λ_=>(i:Int))]) (λ_=>[]) (λi=>i<=3) (λi=>3-i+0) 0 (aV _) ?_ ?_
  ·(refine To.of [] ?_;cbv;(try simp only[nc]);(repeat' first|exact xT|refine⟨?_,?_⟩|refine ZM.cells ?_|refine ZC.agg ?_|refine ZC.tup ?_);all_goals try exact XZ)
   ·subst ah;refine ZgI O (Zq2 Y) default _ _ rfl λi Z=>?_;match i,Z with
    |0,_=>exact .refl _
    |1,_=>exact .refl _
    |2,_=>exact .refl _
    |i+3,Z=>exact absurd Z (by show¬i+3<3;omega)
   ·subst ae;refine ZgI O (Zq0 Y) default _ _ rfl λi Z=>?_;match i,Z with
    |0,_=>exact .refl _
    |1,_=>exact .refl _
    |2,_=>exact .refl _
    |i+3,Z=>exact absurd Z (by show¬i+3<3;omega)
   ·subst aj;exact lit_nt O Xd 0 [wt,r2,wt] _ rfl
   subst ai;exact lit_nt O Xd 0 [mn,r3,mn] _ rfl
  intro i Z;have Z:i<=3:=Z;clear ah ae aj ai;refine wS ?_;refine⟨λak=>?_,λak=>?_⟩
  ·have ak:=iU ak;have U:=al _ (QC (d:=default) O (l:=TS) (i:=i) (by omega));have aa:=am _ (QC (d:=default) O (l:=YS) (i:=i) (by omega));refine vS ?_;generalize J:Y Zb default TS (i:Int)=x at*;generalize I:Y Zl default YS (i:Int)=z at*;generalize S:Y Int 0 WS (i:Int)=w at*;generalize V:Y Int 0 MS (i:Int)=n at*;have kc:=Zxf x U;have kd:=Zyt z aa;have k1:=Zys x z w n U aa λh=>XM h;have k2:=Zyr x z w n U aa;have k3:=Zxd x z w U aa λh=>XM h;have k4:=Zyq x z w U aa;have k8:=Zyp z aa;have k9:=Zyv x U;generalize JF x z w n=A at*;generalize ZbW x z w=B at*;clear al am;unfold Zf at kc k1 k2 k3 k4 k9;unfold Qa at kd k1 k2 k3 k4 k8;simp only[Za O]at kc kd k1 k2 k3 k4 k8 k9;try simp only[J,I]
   refine Chk.mk (ZH) ?_;apply AB
   ·intro ga gb;repeat' (first|refine Zho.mk ?_ ?_|refine Chk.mk (ZH) ?_|simp only[J]|simp only[I]|(refine ZL kc (by first|rfl|(simp only[Ze,Zd,Zf,Zc,Za O];rfl)) λr H G=>?_;obtain⟨rfl,rfl⟩:=G;refine vS ?_)|(refine ZL kd (by first|rfl|(simp only[Ze,Zd,Zf,Zc,Za O];rfl)) λr H G=>?_;obtain⟨rfl,rfl⟩:=G;refine vS ?_))
    all_goals first|(with_reducible exact ga ())|(with_reducible exact gb ())|(refine SC.mono (ga ()) λr h' hr=>?_;revert hr;generalize YO _ _ _ _ _ _=q;cases q with|none=>exact id|some q=>exact λh=>Zno (by decide) h)|(refine SC.mono (gb ()) λr h' hr=>?_;revert hr;generalize YO _ _ _ _ _ _=q;cases q with|none=>exact id|some q=>exact λh=>Zno (by decide) h)
   all_goals
    simp only[S,V];refine Zrk (k1) ?_;refine vS ?_;try simp only[J,I,S,V]
    try refine Chk.mk (ZH) ?_
    refine Zrk (k2) ?_;refine vS ?_;try simp only[J,I,S,V]
    try refine Chk.mk (ZH) ?_
    refine Zrk (k3) ?_;refine vS ?_;try simp only[J,I,S,V]
    try refine Chk.mk (ZH) ?_
    refine Zrk (k4) ?_;refine vS ?_;try simp only[J,I,S,V]
    try refine Chk.mk (ZH) ?_
    refine Br.isT (by simp) ?_;refine vS ?_;try simp only[J,I,S,V]
    try refine Chk.mk (ZH) ?_
    refine Zrk (k9) ?_;refine vS ?_;try simp only[J,I,S,V]
    try refine Chk.mk (ZH) ?_
    refine Br.isT (by simp) ?_;refine vS ?_;try simp only[J,I,S,V]
    try refine Chk.mk (ZH) ?_
    refine Zrk (k8) ?_;refine vS ?_;try simp only[J,I,S,V]
    try refine Chk.mk (ZH) ?_
    refine Br.isF (by simp) ?_;refine wS ?_;refine⟨i+1,by show i+1<=3;omega,by show 3-(i+1)+0<3-i+0;omega,?_⟩;exact ZG
  refine wS ?_;refine cL1 [0] (Zvx) λr H G=>?_;(try simp only[Ze,Zd,Zf,Zc,Za O]at G);obtain⟨rfl,rfl⟩:=G;exact zW
end Vm
end Go.Proofs.YtjgpiclllehgmaaGreat
