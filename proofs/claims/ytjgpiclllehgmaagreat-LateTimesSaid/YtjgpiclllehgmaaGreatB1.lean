/- Lemmas. -/
import Derived.Test.YtjgpiclllehgmaaGreatRows
import Derived.WalkKit
import Derived.ProofKit
import Derived.OpenShut
import Derived.ShutString
import Derived.ChangeOld
import Derived.Below
import Derived.Deep.Slices
import Derived.Test.YtjgpiclllehgmaaGreatB0
import Derived.Test.YtjgpiclllehgmaaGreatCxPhase5
set_option linter.all false
open Array renaming getD_eq_getD_getElem?->aI,getElem?_eq_getElem->aY,getElem?_eq_some_iff->aM,getElem?_map->bZ,getElem?_setIfInBounds_ne->aF
open Bool renaming eq_iff_iff->ew,false_eq_true->aX,false_ne_true->aS,false_or->cC,not_eq_false->fK,not_eq_false'->eJ,not_eq_true'->cG,not_true->dY,or_eq_true->dC
open Decidable renaming of_not_not->bQ
open Go.Frame renaming enter->dM
open Int renaming le_of_lt->gu,pow_pos->gK,toNat_natCast->aV
open List renaming drop_eq_nil_of_le->bB,getD_eq_getElem?_getD->aA,getElem?_cons_zero->bJ,getElem?_drop->cY,getElem?_eq_getElem->aD,getElem?_eq_some_iff->aE,getElem?_take->cZ,getElem_mem->bM,length_append->bf,length_cons->bF,length_nil->cE,mem_cons->bG,range->aR
open Nat renaming eq_zero_or_pos->cI,le_refl->aJ,zero_le->aW
open Option.some renaming injEq->aC
open Go.Proofs.Tryz renaming prog->aB
namespace Go.Proofs.YtjgpiclllehgmaaGreat
namespace Sp
structure Chg where
 at_:Int
 by_:Int
deriving DecidableEq,Inhabited
structure Zone where
 base:Int
 chs:List Chg
deriving Inhabited
structure Pc where
 fr:Int
 bef:Int
 ahd:Int
deriving DecidableEq,Inhabited
def YV (n lo hi:Int):Bool:=decide (lo<=n)&&decide (n<=hi)
def leP:Option Int->Int->Bool
 |some a,x=>decide (x<=a)
 |none,_=>false
def Jd:Option Int->List Chg->Int
 |_,[]=>0
 |p,c::r=>if !YV c.at_ 0 43200 then 1 else if leP p c.at_ then 5 else if !YV c.by_ (-180) 180||decide (c.by_=0)then 1 else Jd (some c.at_) r
theorem YS (p:Option Int) (c:Chg) (r:List Chg):Jd p (c::r)=if !YV c.at_ 0 43200 then 1 else if leP p c.at_ then 5 else if !YV c.by_ (-180) 180||decide (c.by_=0)then 1 else Jd (some c.at_) r:=by cases p<;>rfl
theorem Zdd (p:Option Int):Jd p []=0:=by cases p<;>rfl
def Zw (z:Zone):Int:=if !YV z.base (-720) 720 then 1 else if 3<z.chs.length then 6 else Jd none z.chs
def Xx:Int:=1099511627776
def QS:Int->Int->List Chg->List Pc
 |fr,a,[]=>[⟨fr,Xx,a⟩]
 |fr,a,c::r=>if fr<c.at_ then⟨fr,c.at_,a⟩::QS c.at_ (a+c.by_) r else QS c.at_ (a+c.by_) r
def ZU (z:Zone):List Pc:=QS 0 z.base z.chs
def Q7:List Pc->Int->Int->Int
 |[],_,_=>Xx
 |p::l,r,after=>if max p.fr (max after (r-p.ahd))<p.bef then max p.fr (max after (r-p.ahd))else Q7 l r after
structure Stop where
 station:Int
 zone:Int
 arrive:Int
 depart:Int
deriving DecidableEq,Inhabited
structure Train where
 number:Int
 days:Int
 stops:List Stop
deriving DecidableEq,Inhabited
structure Xs where
 zones:List Zone
 old:List Train
 new:List Train
 night:Int
 last:Int
deriving Inhabited
structure Call where
 station:Int
 arrive:Int
 depart:Int
deriving DecidableEq,Inhabited
structure Yc where
 fr:Int
 to_:Int
deriving DecidableEq,Inhabited
def Zt {α:Type} (q:α->Bool):Int->List α->Int
 |_,[]=>-1
 |i,a::l=>if q a then i else Zt q (i+1) l
def ZO (n A G:Int):Int:=if n<A then 7 else if G<n then 6 else 0
def Je (A:List Stop) (s:Stop) (inner:Bool) (zones:Int):Int:=
 if !YV s.station 0 9 then 1 else if A.any (fun x=>decide (x.station=s.station))then 4 else if !YV s.zone 0 (zones-1)then 3
 else if !YV s.arrive 0 4319|| !YV s.depart 0 4319 then 1 else if inner&&decide (s.depart<s.arrive)then 5 else 0
end Sp
namespace Vm
open Go Go.Proofs Sp
set_option maxRecDepth 100000
set_option maxHeartbeats 4000000
def iA (n:Int):AV:=.int .i64 fun _=>n
def ZaC (c:Chg):List AV:=[.int .i64 fun _=>c.at_,.int .i64 fun _=>c.by_]
def Ze9 (p:Pc):List AV:=[.int .i64 fun _=>p.fr,.int .i64 fun _=>p.bef,.int .i64 fun _=>p.ahd]
def Ze (z:Zone):AV:=.agg [.int .i64 fun _=>z.base,lst 2 ZaC default z.chs]
theorem c67 (n a b:Int):SC (fun _=>aB) 144 [.int .i64 fun _=>n,.int .i64 fun _=>a,.int .i64 fun _=>b] [] fun r h=>r= .bool (fun _=>YV n a b)/\h=[]:=by
 refine QN Tryz.func144 (body:=Zj Tryz.f144) rfl (by decide+kernel) ?_;cbv;try simp only[nc]at*
 refine⟨by simp[Xo,Xn,XA,Xm,Cn.p],?_,trivial⟩;congr 1;funext _;unfold YV;cases decide (a<=n)<;>rfl
theorem c92 (l:List Pc) (r a:Int) (V:l.length<=1000000) (U:∀p∈l,-1000000<=p.ahd/\p.ahd<=1000000) (hr:-1000000<=r/\r<=1000000):SC (fun _=>aB) 186 [lst 3 Ze9 default l,.int .i64 fun _=>r,.int .i64 fun _=>a] [] fun v h=>v= .int .i64 (fun _=>Q7 l r a)/\h=[]:=by
 obtain⟨J,O⟩:=Zo;rw[Za O];refine QN Tryz.func186 (body:=Zj Tryz.f186) rfl (by decide+kernel) ?_;cbv;try simp only[nc]at*
 refine ZjQ [1,2,10,11,12] (fun i:Nat=>mkS 30 [(1,.int .i64 fun _=>r),(2,.int .i64 fun _=>a),(10,.isl 3 (fun _=>(l.length:Int)) (fun e=>Ze9 (J Pc default l (e ()))) .none),(11,.int .i64 fun _=>(l.length:Int)),(12,.int .i64 fun _=>(i:Int))]) (fun _=>[])
  (fun i=>i<=l.length/\Q7 l r a=Q7 (l.drop i) r a) (fun i=>l.length-i+0) 0 0 (fun _=>rfl) ⟨aW _,by simp⟩ (To.of [] ?_) ?_
 ·cbv
  exact⟨⟨.refl _,.refl _,.refl _,.refl _,.int rfl,trivial⟩,trivial⟩
 intro i H;cbv;try simp only[nc]at*
 refine⟨fun A=>?_,fun A=>?_⟩
 ·simp only[nc,decide_eq_true_eq]at A;have G:i<l.length:=by omega
  have hm:=U _ (Qu (d:=default) O G);have I:=Qi (d:=default) O G;cbv;try simp only[nc]at*
  obtain⟨p,S⟩:∃p,J Pc default l (i:Int)=p:=⟨_,rfl⟩;rw[S]at hm I;rw[S];refine⟨by simp only[Xo,Xn,XA,Xm,Cn.p,and_true];omega,fun A=>?_,fun A=>?_⟩
  ·simp only[decide_eq_true_eq]at A;cbv;try simp only[nc]at*
   refine⟨?_,trivial⟩;congr 1;funext _;rw[H.2,I,Q7];omega
  simp only[decide_eq_false_iff_not]at A;cbv;try simp only[nc]at*
  refine⟨by simp only[nc,Xo,Xn,XA,Xm,Cn.p,and_true];omega,⟨i+1,⟨by omega,?_⟩,by omega,To.of [] ?_⟩⟩
  ·rw[H.2,I,Q7,if_neg (by omega)]
  cbv
  exact⟨⟨.refl _,.refl _,.refl _,.refl _,.int (by simp only[nc];omega),trivial⟩,trivial⟩
 simp only[nc,decide_eq_false_iff_not]at A;have:l.drop i=[]:=bB (by omega);cbv;try simp only[nc]at*
 refine⟨?_,trivial⟩;congr 1;funext _;rw[H.2,this];rfl
theorem c91 (d m:Int) (A:-1000<=d/\d<=1000) (G:-10000<=m/\m<=10000):SC (fun _=>aB) 187 [.int .i64 fun _=>d,.int .i64 fun _=>m] [] fun r h=>r= .int .i64 (fun _=>1440*d+m)/\h=[]:=by
 refine QN Tryz.func187 (body:=Zj Tryz.f187) rfl (by decide+kernel) ?_;cbv;try simp only[nc]at*
 exact⟨by simp only[Xo,Xn,XA,Xm,Cn.p,and_true];omega,trivial⟩
structure Zrb (z:Zone):Prop where
 base:-1000<=z.base/\z.base<=1000
 many:z.chs.length<=100
 by_:∀c∈z.chs,-1000<=c.by_/\c.by_<=1000
theorem Ze0:∀(l:List Chg) (fr a m:Int),(∀c∈l,-1000<=c.by_/\c.by_<=1000)->-m<=a/\a<=m->∀p∈QS fr a l,-(m+1000*l.length)<=p.ahd/\p.ahd<=m+1000*l.length
 |[],fr,a,m,_,h,p,A=>by simp[QS]at A;subst A;simpa using h
 |c::r,fr,a,m,hl,h,p,A=>by
  have I:=hl c (List.mem_cons_self ..);have G:=Ze0 r c.at_ (a+c.by_) (m+1000) (fun x H=>hl x (List.mem_cons_of_mem _ H)) (by omega);simp only[QS]at A;simp only[bF];split at A
  ·rcases bG.1 A with rfl|A
   ·show _<=a/\a<=_;omega
   have:=G p A;omega
  have:=G p A;omega
theorem ZaP:∀(l:List Chg) (fr a:Int),1<=(QS fr a l).length/\(QS fr a l).length<=l.length+1
 |[],fr,a=>by simp[QS]
 |c::r,fr,a=>by
  have:=ZaP r c.at_ (a+c.by_);simp only[QS,bF];split
  ·simp only[bF];omega
  omega
theorem c90 (z:Zone) (I:Zrb z):SC (fun _=>aB) 185 [Ze z] [] fun v h=>v=lst 3 Ze9 default (ZU z)/\h=[]:=by
 obtain⟨G,O⟩:=Zo;unfold Ze;rw[Za O];refine SC.less (QN Tryz.func185 (body:=Zj Tryz.f185) rfl (by decide+kernel) ?_);cbv;try simp only[nc]at*
 refine⟨by simp only[Xo,Xn,XA,Xm,Cn.p,and_true];decide+kernel,?_⟩
 refine ZjQ [1,3,4,5,11,12,13] (fun(⟨i,fr,a,out⟩:Nat×Int×Int×List Pc)=>mkS 42 [(1,.ptr 0 0),(3,.isl 3 (fun _=>(out.length:Int)) (fun e=>Ze9 (G Pc default out (e ()))) (.own 1)),(4,.int .i64 fun _=>fr),(5,.int .i64 fun _=>a),
   (11,.isl 2 (fun _=>(z.chs.length:Int)) (fun e=>ZaC (G Chg default z.chs (e ()))) .none),(12,.int .i64 fun _=>(z.chs.length:Int)),(13,.int .i64 fun _=>(i:Int))])
  (fun⟨i,fr,a,out⟩=>[.cells [.int .i64 fun _=>z.base,.isl 2 (fun _=>(z.chs.length:Int)) (fun e=>ZaC (G Chg default z.chs (e ()))) .none],.tok 3 fun _=>(out.length:Int)])
  (fun⟨i,fr,a,out⟩=>i<=z.chs.length/\ZU z=out++QS fr a (z.chs.drop i)/\out.length<=i/\-(1000+1000*i)<=a/\a<=1000+1000*i) (fun i=>z.chs.length-i.1+0) (0,0,z.base,[]) 2 (fun _=>rfl)
  ⟨aW _,by simp[ZU],by simp,by have:=I.base;simp;omega⟩ (To.of [(3,false)] ?_) ?_
 ·cbv
  exact⟨⟨.refl _,.nilOwn (by decide) (by decide) rfl,.refl _,.refl _,.refl _,.refl _,.int rfl,trivial⟩,.refl _,.tok rfl,trivial⟩
 rintro⟨i,fr,a,out⟩ ⟨hi,hp,ho,ha⟩;have U:=I.many;cbv;try simp only[nc]at*
 refine⟨fun A=>?_,fun A=>?_⟩
 ·simp only[nc,decide_eq_true_eq]at A;have H:i<z.chs.length:=by omega
  have hm:=I.by_ _ (Qu (d:=default) O H);have S:=Qi (d:=default) O H;cbv;try simp only[nc]at*
  obtain⟨c,J⟩:∃c,G Chg default z.chs (i:Int)=c:=⟨_,rfl⟩;rw[J]at hm S;rw[J];rw[S,QS]at hp;refine⟨by simp only[Xo,Xn,XA,Xm,Cn.p,and_true];omega,fun A=>?_,fun A=>?_⟩
  ·simp only[gt_iff_lt,decide_eq_true_eq]at A;rw[if_pos A]at hp;cbv;try simp only[nc]at*
   refine⟨by simp only[nc,Xo,Xn,XA,Xm,Cn.p,and_true,bF,cE];(repeat' apply And.intro)<;>first|omega|decide+kernel,⟨(i+1,c.at_,a+c.by_,out++[⟨fr,c.at_,a⟩]),⟨by omega,by rw[hp];simp,by simp;omega,by dsimp only;omega,by dsimp only;omega⟩,by show z.chs.length-(i+1)+0<z.chs.length-i+0;omega,To.of [] ?_⟩⟩;cbv;try simp only[nc]at*
   exact⟨⟨.refl _,.snoc O rfl rfl rfl,.refl _,.refl _,.refl _,.refl _,.int rfl,trivial⟩,.refl _,.tok (by simp),trivial⟩
  simp only[gt_iff_lt,decide_eq_false_iff_not]at A;rw[if_neg A]at hp;cbv;try simp only[nc]at*
  refine⟨by simp only[nc,Xo,Xn,XA,Xm,Cn.p,and_true,bF,cE];(repeat' apply And.intro)<;>first|omega|decide+kernel,⟨(i+1,c.at_,a+c.by_,out),⟨by omega,hp,by dsimp only;omega,by dsimp only;omega,by dsimp only;omega⟩,by show z.chs.length-(i+1)+0<z.chs.length-i+0;omega,To.of [] ?_⟩⟩;cbv;try simp only[nc]at*
  exact⟨⟨.refl _,.refl _,.refl _,.refl _,.refl _,.refl _,.int rfl,trivial⟩,.refl _,.refl _,trivial⟩
 simp only[nc,decide_eq_false_iff_not]at A;have:z.chs.drop i=[]:=bB (by omega);rw[this,QS]at hp;rw[hp];cbv;try simp only[nc]at*
 refine⟨by simp only[nc,Xo,Xn,XA,Xm,Cn.p,and_true,bF,cE];(repeat' apply And.intro)<;>first|omega|decide+kernel,lst 3 Ze9 default (out++[⟨fr,Xx,a⟩]),[],To.of [] ⟨⟨.snocL O rfl rfl rfl,trivial⟩,trivial⟩,rfl,rfl⟩
theorem JI {z:Zone} (A:Zrb z):(ZU z).length<=101/\1<=(ZU z).length/\∀p∈ZU z,-1000000<=p.ahd/\p.ahd<=1000000:=by
 have I:=ZaP z.chs 0 z.base;have H:=Ze0 z.chs 0 z.base 1000 A.by_ A.base;have J:=A.many;refine⟨?_,I.1,fun p G=>?_⟩
 ·unfold ZU;omega
 have:=H p G;omega
theorem c79 (z:Zone) (aa:z.chs.length<=1000000):SC (fun _=>aB) 173 [Ze z] [] fun v h=>v= .int .i64 (fun _=>Zw z)/\h=[]:=by
 obtain⟨I,O⟩:=Zo;unfold Ze Zw;rw[Za O];refine QN Tryz.func173 (body:=Zj Tryz.f173) rfl (by decide+kernel) ?_;cbv;try simp only[nc]at*
 refine ZL (c67 _ _ _) rfl fun r S G=>?_;obtain⟨rfl,rfl⟩:=G;cbv;try simp only[nc]at*
 refine⟨fun A=>?_,fun A=>?_⟩
 ·simp only[cG]at A;cbv;try simp only[nc]at*
  refine⟨?_,trivial⟩;congr 1;funext _;simp[A]
 simp only[eJ]at A;simp only[A,dY,aX,if_false];refine⟨fun A=>?_,fun A=>?_⟩
 ·simp only[decide_eq_true_eq]at A;cbv;try simp only[nc]at*
  refine⟨?_,trivial⟩;congr 1;funext _;rw[if_pos (by omega)]
 simp only[decide_eq_false_iff_not]at A;rw[if_neg (show¬3<z.chs.length by omega)];cbv;try simp only[nc]at*
 refine ZjQ [1,14,15,16] (fun(i:Nat)=>mkS 50 [(1,.ptr 0 0),(14,.isl 2 (fun _=>(z.chs.length:Int)) (fun e=>ZaC (I Chg default z.chs (e ()))) .none),(15,.int .i64 fun _=>(z.chs.length:Int)),(16,.int .i64 fun _=>(i:Int))])
  (fun _=>[.cells [.int .i64 fun _=>z.base,.isl 2 (fun _=>(z.chs.length:Int)) (fun e=>ZaC (I Chg default z.chs (e ()))) .none]])
  (fun i=>i<=z.chs.length/\Jd none z.chs=Jd (if i=0 then none else some (I Chg default z.chs ((i:Int)-1)).at_) (z.chs.drop i)) (fun i=>z.chs.length-i+0) 0 1 (fun _=>rfl) ⟨aW _,by simp⟩ (To.of [] ?_) ?_
 ·cbv
  exact⟨⟨.refl _,.refl _,.refl _,.int rfl,trivial⟩,.refl _,trivial⟩
 rintro i ⟨hi,G⟩;cbv;try simp only[nc]at*
 refine⟨fun A=>?_,fun A=>?_⟩
 ·simp only[decide_eq_true_eq]at A;have Y:i<z.chs.length:=by omega
  have Z:=Qi (d:=default) O Y;cbv;try simp only[nc]at*
  obtain⟨c,V⟩:∃p,I Chg default z.chs (i:Int)=p:=⟨_,rfl⟩;rw[V]at Z;rw[V];rw[Z,YS]at G;refine⟨by simp only[Xo,Xn,XA,Xm,Cn.p,and_true];omega,?_⟩;refine ZL (c67 _ _ _) rfl fun r S J=>?_;obtain⟨rfl,rfl⟩:=J;cbv;try simp only[nc]at*
  refine⟨fun A=>?_,fun A=>?_⟩
  ·simp only[cG]at A;cbv;try simp only[nc]at*
   refine⟨?_,trivial⟩;congr 1;funext _;rw[G];simp[A]
  simp only[eJ]at A;simp only[A,dY,aX,if_false]at G;cbv;try simp only[nc]at*
  refine⟨by simp only[nc,Xo,Xn,XA,Xm,Cn.p,and_true,true_and,decide_eq_true_eq,imp_self];(repeat' (first|apply And.intro|intro _))<;>first|omega|decide+kernel,?_⟩;have U:(bif decide (0<(i:Int))then decide (c.at_<=(I Chg default z.chs ((i:Int)-1)).at_)else false)=leP (if i=0 then none else some (I Chg default z.chs ((i:Int)-1)).at_) c.at_:=by
   by_cases h0:i=0
   ·subst h0;rfl
   rw[if_neg h0,decide_eq_true (show 0<(i:Int) by omega)];rfl
  rw[<-U]at G;refine⟨fun A=>?_,fun A=>?_⟩
  ·cbv
   try simp only[nc]at*
   rw[if_pos A]at G;refine⟨?_,trivial⟩;rw[G]
  rw[if_neg (by rw[A];exact aS)]at G;cbv;try simp only[nc]at*
  refine ZL (c67 _ _ _) rfl fun r S J=>?_;obtain⟨rfl,rfl⟩:=J;cbv;try simp only[nc]at*
  refine⟨fun A=>?_,fun A=>?_⟩
  ·simp only[cG]at A;rw[if_pos (by simp[A])]at G;cbv;try simp only[nc]at*
   refine Br.isT (by simp[A]) ?_;cbv;refine⟨?_,trivial⟩;rw[G]
  simp only[eJ]at A;cbv;try simp only[nc]at*
  refine⟨fun H=>?_,fun H=>?_⟩
  ·simp only[beq_iff_eq]at H;rw[if_pos (by simp[H])]at G;cbv;try simp only[nc]at*
   refine⟨?_,trivial⟩;rw[G]
  simp only[beq_eq_false_iff_ne,ne_eq]at H;rw[if_neg (by simp[A,H])]at G;cbv;try simp only[nc]at*
  refine⟨by simp only[nc,Xo,Xn,XA,Xm,Cn.p,and_true,true_and,decide_eq_true_eq,imp_self];(repeat' (first|apply And.intro|intro _))<;>first|omega|decide+kernel,⟨i+1,⟨by omega,?_⟩,by show z.chs.length-(i+1)+0<z.chs.length-i+0;omega,To.of [] ?_⟩⟩
  ·rw[G,if_neg (Nat.succ_ne_zero i),show((i+1:Nat):Int)-1=i by omega,V]
  cbv
  exact⟨⟨.refl _,.refl _,.refl _,.int rfl,trivial⟩,.refl _,trivial⟩
 simp only[decide_eq_false_iff_not]at A;have:z.chs.drop i=[]:=bB (by omega);rw[this,Zdd]at G;cbv;try simp only[nc]at*
 refine⟨?_,trivial⟩;rw[G]
def Q9 (n:Int):List AV:=[.int .i64 fun _=>n]
theorem ZaI {z:Zone} (h:Zw z=0):Zrb z:=by
 unfold Zw at h;split at h
 ·cases h
 rename_i I;split at h
 ·cases h
 rename_i V;have U:-720<=z.base/\z.base<=720:=by
  simp only[YV,cG,fK]at I;simpa using I
 refine⟨by omega,by omega,?_⟩;have H:∀(l:List Chg) (p:Option Int),Jd p l=0->∀c∈l,-1000<=c.by_/\c.by_<=1000:=by
  intro l;induction l with
  |nil=>intro p _ c G;cases G
  |cons a l J=>
   intro p A c G;rw[YS]at A;split at A
   ·cases A
   split at A
   ·cases A
   split at A
   ·cases A
   rename_i S;rcases bG.1 G with rfl|G
   ·simp[YV]at S;omega
   exact J _ A c G
 exact H _ _ h
open Go Go.Proofs
open Go.ChangeShapes Go.WideShapes Go.ChangeAt Go.RowKit
def R0 (w:World):RC:=⟨w,0,0,fun _=>⟨0,0⟩,fun _=>0,fun _=>undef,fun b _ _=>b<w.heap.size,none⟩
theorem own:ownKnob aB.godebug=none:=by kernel_rfl
theorem ZdH:laidOutB aB=true:=by kernel_rfl
end Vm
namespace Conc1
open Go Go.Conc
theorem Zjy {P:Program} {Q:Machine->Outcome->World->Trace->Prop}:∀(N:Nat) (m:Machine) (t:Trace) (G:Machine) (H:Trace),runNT P N m t=(.next G,H)->
  (∃n last o w A,runNT P (n+1) G H=(.ended o w,A)/\runN P n G= .next last/\step P last= .ended o w/\Q last o w A)->∃n last o w A,runNT P (n+1) m t=(.ended o w,A)/\runN P n m= .next last/\step P last= .ended o w/\Q last o w A
 |0,m,t,G,H,h,hq=>by
  simp only[runNT,Prod.mk.injEq,Stepped.next.injEq]at h;obtain⟨rfl,rfl⟩:=h;exact hq
 |N+1,m,t,G,H,h,hq=>by
  cases hs:stepT P m with
  |mk r ops=>
   cases r with
   |next V=>
    simp only[runNT,hs]at h;obtain⟨n,last,o,w,A,S,J,I,U⟩:=Zjy N V _ G H h hq;exact⟨n+1,last,o,w,A,by simp only[runNT,hs];exact S,by simp only[runN,step,hs];exact J,I,U⟩
   |ended o w=>simp[runNT,hs]at h
def EndAt (P:Program) (A:Value->World->Prop) (fr:Frame) (w:World):Prop:=
 ∀d,∃v es,stepG P true (G fr []) (w.at d)= .ended (.done v) (w.at d) es/\(∀e∈es,Yw (fun _=>False) e)/\A v (w.at d)
def Zl8 (P:Program) (H:Value->World->Prop) (I:Nat) (m:Machine) (t:Trace):Prop:=
 ∃(A:Array Goroutine) (fr:Frame) (w:World) (sl:Option (Nat×Nat)) (q:Nat->Nat),m=crowd A w sl/\A[0]? =some (G fr [])/\EndAt P H fr w/\Leavers P t A q/\XH t/\I=ConcN.sumTo A.size q
theorem ZqC {P:Program} {V:Value->World->Prop} (μ:Nat) (m:Machine) (t:Trace) (h:Zl8 P V μ m t):
  (∃o w ops,stepT P m=(.ended o w,ops)/\Go.Conc.Good P V m o w (t++ops))\/(∃m' ops ac,stepT P m=(.next m',ops)/\ac<μ/\Zl8 P V ac m' (t++ops)):=by
 obtain⟨J,fr,w,sl,q,rfl,h0,hE,hL,hP,rfl⟩:=h;have Y:(G fr []).status= .running:=rfl;have ap:∀g∈J,awake g:=by
  intro g hg;obtain⟨i,H,rfl⟩:=Array.mem_iff_getElem.1 hg;rcases cI i with rfl|Z
  ·have:J[0]=G fr []:=by simpa [aY H]using h0
   rw[this];exact awake_of (.inl Y)
  exact awake_of ((hL.old i _ Z (aY H)).status.elim .inl fun x=>.inr (.inr x))
 obtain⟨i,g,d,aa,H,hg,ai⟩:=crowd_pick (P:=P) (w:=w) (sl:=sl) ap ⟨0,_,h0,Y⟩;rcases cI i with rfl|Z
 ·obtain rfl:g=G fr []:=by rw[h0]at H;exact(Option.some.inj H).symm
  obtain⟨v,es,al,ar,ab⟩:=hE d;have A:=runT_many_ended (P:=P) (sl:=aa) (i:=0) H (show stepG P (0==0) (G fr []) (w.at d)=_ from al);have aj:=hP.own (fn:=(G fr []).frame.fn) (pos:=(G fr []).frame.place) ar;refine .inl ⟨_,_,_,ai.trans A,v,rfl,ab,aj.clean,aj.over,⟨fun x U=>?_,rfl⟩,fun j x U S=>?_⟩
  ·obtain⟨j,S⟩:=List.mem_iff_getElem?.1 U;rw[cY]at S;exact⟨_,(hL.old (1+j) x (by omega) (by simpa [crowd]using S)).leaves⟩
  have hq:=hL.old j x (by omega) U;refine⟨q j,?_⟩;have e:(t++MemOp.ofEvents 0 (G fr []).frame.fn (G fr []).frame.place es).deaf j (t++MemOp.ofEvents 0 (G fr []).frame.fn (G fr []).frame.place es).size=Deaf t j:=
   Deaf_other t (g:=j) (g':=0) (by omega) _ (fun op I=>by obtain⟨e,_,rfl⟩:=Conc.mem_ofEvents I;rfl)
  rw[e];exact hq.hears _
 have hq:=hL.old i g Z H;have au:(i==0)=false:=by simp;omega
 have ae:i<J.size:=(aM.1 H).1;cases hqi:q i with
 |zero=>rw[hqi]at hq;rw[hq.1]at hg;cases hg
 |succ k=>
  rw[hqi]at hq;rcases hq with⟨hf,_⟩|⟨_,g',es,hm,ak,ao⟩
  ·rw[hf]at hg;cases hg
  have A:=runT_crowd_go (P:=P) (sl:=aa) (i:=i) H (by rw[au];exact ak (w.at d));have aq:((J.map (woken P g g' (w.at d))).setIfInBounds i g').size=J.size:=by simp
  have aw:ConcN.sumTo J.size (ConcN.upd q i k)+(k+1)=ConcN.sumTo J.size q+k:=by
   have:=ConcN.sumTo_upd q k id ae;simpa [hqi]using this
  refine .inr ⟨_,_,ConcN.sumTo J.size (ConcN.upd q i k),ai.trans A,by omega,_,fr,w.at d,aa,ConcN.upd q i k,rfl,?_,fun d'=>hE d',⟨fun j x S U=>?_,fun j S=>?_⟩,hP.mute (by omega) hm,by rw[aq]⟩
  ·have am:i≠0:=by omega
   rw[aF am,bZ,h0];simp[woken_run Y]
  ·by_cases hji:i=j
   ·subst hji;rw[Array.getElem?_setIfInBounds_self_of_lt (by simpa using ae)]at U;obtain rfl:=Option.some.inj U;rw[ConcN.upd_same,Deaf_own];exact ao
   rw[aF hji,bZ]at U;obtain⟨y,hy,rfl⟩:=Option.map_eq_some_iff.1 U;have ah:=hL.old j y S hy;rw[woken_quitsD ah,ConcN.upd_ne q k (Ne.symm hji),Deaf_other t hji _ (fun op I=>by obtain⟨e,_,rfl⟩:=Conc.mem_ofEvents I;rfl)];exact ah
  rw[Deaf_other t (g':=i) (by simp at S;omega) _ (fun op I=>by obtain⟨e,_,rfl⟩:=Conc.mem_ofEvents I;rfl)];exact hL.above j (by simpa using S)
theorem ZlU {P:Program} {A:Value->World->Prop} {St:Frame->List Frame->World->Prop} (H:∀fr cs w,St fr cs w->cs=[]/\EndAt P A fr w) {m:Machine} {t:Trace} (h:QJ P St m t):
  ∃n last o w G,runNT P (n+1) m t=(.ended o w,G)/\runN P n m= .next last/\step P last= .ended o w/\Go.Conc.Good P A last o w G:=by
 obtain⟨N,I,fr,cs,w,sl,Z,q,V,S,J,Y,U⟩:=h;obtain⟨rfl,hE⟩:=H _ _ _ J;exact Zjy N m t _ Z V (run_of_inv Nat.lt_wfRel.wf (Zl8 P A) (Go.Conc.Good P A) ZqC _ _ _ ⟨I,fr,w,sl,q,rfl,S,hE,Y,U,rfl⟩)
end Conc1
namespace Vm
open Go Go.Conc Go.Proofs Conc1
open Go.ChangeShapes Go.WideShapes Go.ChangeAt Go.RowKit
def R1 (w:World):RC:=⟨w,1,0,fun _=>⟨0,0⟩,fun _=>0,fun _=>undef,fun b _ _=>b<w.heap.size,none⟩
theorem ZwV (w:World):HR (fun _ _ _=>True) (R1 w) [.main]:=
 ⟨rfl,fun b o n=>⟨fun h=>⟨h,trivial,fun id blk A=>by
  cases id with
  |zero=>cases A;exact fun G=>G
  |succ id=>simp at A⟩,fun h=>h.1⟩,fun id blk A=>by
  cases id with
  |zero=>cases A;exact rfl
  |succ id=>simp at A,fun i j U J b I A S G=>by
  cases i with
  |zero=>cases A;exact G.elim
  |succ i=>simp at A,fun _ _ _ _ _ _ _ _=>trivial,fun _ _ _ _=>trivial,fun id blk b A H=>by
  cases id with
  |zero=>cases A;cases H
  |succ id=>simp at A,aW 1⟩
def ZwW (W:World) (v:Value) (w:World):Prop:=v= .bool true/\w.os=W.os/\w.output=W.output/\W.heap.size<=w.heap.size/\∀k,k<W.heap.size->w.heap[k]? =W.heap[k]?
def ZmU (P:Program) (f:FuncId) (W:World) (fr:Frame) (cs:List Frame) (w:World):Prop:=
 cs=[]/\∃(b:FB) (t:Array Value) (A:List Item) (fn:Func),fr={mkF b t [] A with mode:=.returning}/\b.df=false/\b.fn=f/\P.funcs[f]? =some fn/\∃G d v,(results fn t).run P (re w G d)= .ok v (re w G d)/\ZwW W v w
def Zq9 (P:Program) (f:FuncId) (W:World):Fc->Prop
 |.one a=>ZmU P f W a.fr a.cs a.w
 |.two _ _ _ _=>False
theorem Zsp {P:Program} {f:FuncId} {W:World} {fr:Frame} {cs:List Frame} {w:World} (hi:P.inits.idxOf? f=none) (h:ZmU P f W fr cs w/\w.tape=W.tape):cs=[]/\EndAt P (fun v w'=>v= .bool true/\Below W.heap.size W w') fr w:=by
 obtain⟨⟨rfl,b,t,ab,fn,rfl,Z,aa,hf,H,A,v,hr,I⟩,ht⟩:=h;refine⟨rfl,fun d=>?_⟩;have V:(results fn t).runT P (re w H A) #[]=(.ok v (re w H A),(results fn t).events P (re w H A) #[]):=by rw[Sem.runT_eq,hr]
 generalize (results fn t).events P (re w H A) #[]=es at V;have S:∀e∈es,Yw (fun _=>False) e:=fun e S=>(Zv.events P (fun _ h=>h) (results fn t) (fun _=>False) _ _ _ _ _ ZdD (fun _ h=>h.elim) V e S).elim (fun h=>by simp at h) id;have J:=(Zbf P (results fn t) _ _ _ _ _ V fun e h=>(S e h).out).2.2 w.tape d fun i hi=>by
  have hi:i<A-A:=hi;omega
 have e2:re (re w H A) w.tape (d+((re w H A).drawn-(re w H A).drawn))=w.at d:=by
  rw[show d+((re w H A).drawn-(re w H A).drawn)=d by omega];rfl
 rw[e2]at J;have J:(results fn t).runT P (w.at d) #[]=(.ok v (w.at d),es):=J;refine⟨v,seen P f es,?_,fun e hx=>S e (mem_seen hx),I.1,I.2.1,ht,I.2.2.1,I.2.2.2.1,I.2.2.2.2⟩;have hk:b.kind= .normal:=by simp[FB.kind,Z]
 have U:=congrArg Prod.fst J;have Y:=congrArg Prod.snd J;rw[Sem.runT_eq]at U Y;simp only at U Y;simp[G,stepG,unwind,doReturn,mkF,hk,aa,hf,U,Y,hi,GStep.after]
theorem Znn {T:Fc->Fc->Prop} {Stop:Fc->Prop} (hT:∀a b,T a b->b.w.tape=a.w.tape) {A:Tape} {a:Fc} (h:ZcS T Stop Fc.re (fun a=>a.w.tape) a):a.w.tape=A->ZcS T (fun b=>Stop b/\b.w.tape=A) Fc.re (fun a=>a.w.tape) a:=by
 induction h with
 |stop h=>exact fun e=>.stop ⟨h,e⟩
 | @step a f h1 h2 ih=>
  refine fun e=>.step f h1 fun d=>ih d ?_;rw[hT _ _ (h1 d)];have:(Fc.re a a.w.tape d).w.tape=a.w.tape:=by cases a<;>rfl
  rw[this];exact e
theorem Znk:XH #[]:=⟨fun G=>by rintro⟨i,j,_,⟨a,b,A,_⟩,_⟩;simp[Trace.act?]at A,fun i a A=>by simp[touchAt,Trace.act?]at A,rfl⟩
theorem ZsL {f:FuncId} {xs:List AV} {vs:Array Value} {W:World} (hi:aB.inits.idxOf? f=none) (hx:∀t d,X0 (R1 (re W t d)) xs vs) (H:SC (fun _=>aB) f xs [.main] fun r _=>r= .bool fun _=>true):
  ∃M last o I J,runNT aB (M+1) (solo (G (dM aB f vs .normal) []) W) #[]=(.ended o I,J)/\runN aB M (solo (G (dM aB f vs .normal) []) W)= .next last/\step aB last= .ended o I/\Go.Conc.Good aB (fun v I=>v= .bool true/\Below W.heap.size W I) last o I J:=by
 have Z:∀a t d,Zq9 aB f W (Fc.re a t d)->Zq9 aB f W a:=fun a t d h=>by
  cases a with
  |one a=>exact h
  |two _ _ _ _=>exact h
 have hm:ZcS (T aB (kf aB)) (Zq9 aB f W) Fc.re (fun a=>a.w.tape) (.one ⟨dM aB f vs .normal,[],W⟩):=by
  refine Ziv (ZmC Z) fun t d=>?_;obtain⟨v,U,r,h',⟨b,J,Y,fn,h1,h2,h3,h4,h5⟩,_,A,_,hv,rfl⟩:=H.run (fun _ _ _=>True) (R1 (re W t d)) vs (ZwV _) (hx t d) [];refine⟨.one ⟨_,[],U.w⟩,StepsC.main h1,rfl,b,J,Y,fn,rfl,h2,h5,by rw[<-h5];exact h3,U.w.tape,U.w.drawn,v,h4,hv.bool_inv,A.os,A.output,A.size,fun k hk=>A.frame k hk fun id blk S hp=>?_⟩;cases id with
  |zero=>cases S;exact hp
  |succ id=>simp at S
 have hg:=Zhm (St:=fun fr cs w=>ZmU aB f W fr cs w/\w.tape=W.tape) (fun a V=>by
  cases a with
  |two _ _ _ _=>exact V.1.elim
  |one a=>
   refine fun gs sl t q d h0 hL hP=>⟨0,gs,a.fr,a.cs,a.w.at d,sl,t,q,rfl,h0,⟨?_,V.2⟩,hL,hP⟩
   exact V.1) (Znn (fun a b h=>(ZmC Z).tape h) hm rfl)
 have hc:QJ aB (fun fr cs w=>ZmU aB f W fr cs w/\w.tape=W.tape) (crowd #[G (dM aB f vs .normal) []] W none) #[]:=hg #[G (dM aB f vs .normal) []] none #[] (fun _=>0) W.drawn rfl (leavers_one _ _) Znk;exact ZlU (fun fr cs w h=>Zsp hi h) hc
end Vm
namespace Sp
def Zm (f:Nat->Int):Nat->Nat->Int
 |_,0=>0
 |i,k+1=>if f i≠0 then f i else Zm f (i+1) k
def Xg (zones:Int) (l:List Stop) (i:Nat):Int:=Je (l.take i) (l.getD i default) (decide (0<i)&&decide ((i:Int)<l.length-1)) zones
def Y3 (zones:Int) (l:List Stop):Int:=Zm (Xg zones l) 0 l.length
def QU (zones:Int) (l:List Train) (i:Nat):Int:=
 if !YV (l.getD i default).number 1 999 then 1 else if(l.take i).any (fun x=>decide (x.number=(l.getD i default).number))then 4 else if !YV (l.getD i default).days 1 127 then 1
 else if ZO (l.getD i default).stops.length 2 4≠0 then ZO (l.getD i default).stops.length 2 4 else Y3 zones (l.getD i default).stops
def Qf (zones:Int) (l:List Train):Int:=if ZO l.length 0 4≠0 then ZO l.length 0 4 else Zm (QU zones l) 0 l.length
def Yx (b:Xs):Int:=
 if ZO b.zones.length 1 3≠0 then ZO b.zones.length 1 3
 else if Zm (fun i=>Zw (b.zones.getD i default)) 0 b.zones.length≠0 then Zm (fun i=>Zw (b.zones.getD i default)) 0 b.zones.length
 else if Qf b.zones.length b.old≠0 then Qf b.zones.length b.old
 else if Qf b.zones.length b.new≠0 then Qf b.zones.length b.new
 else if !YV b.last 0 13|| !YV b.night 0 (b.last+1)then 1 else 0
def Xt (b:Xs) (day:Int):List Train:=if day<b.night then b.old else b.new
def ZbW (t:Train) (day:Int):Bool:=decide (t.days/2^(day%7).toNat%2=1)
def Q5 (A:List Zone) (day:Int) (many:Nat):Nat->Int->List Stop->List Call
 |_,_,[]=>[]
 |i,now,s::r=>
  if i=0 then
   let d:=if i+1<many then Q7 (ZU (A.getD s.zone.toNat default)) (1440*day+s.depart) now else 0
   ⟨s.station,d,d⟩::Q5 A day many (i+1) d r
  else
   let a:=Q7 (ZU (A.getD s.zone.toNat default)) (1440*day+s.arrive) now;let d:=if i+1<many then Q7 (ZU (A.getD s.zone.toNat default)) (1440*day+s.depart) a else a
   ⟨s.station,a,d⟩::Q5 A day many (i+1) d r
def calls (A:List Zone) (t:Train) (day:Int):List Call:=Q5 A day t.stops.length 0 0 t.stops
def place (l:List Train) (number:Int):Int:=Zt (fun t=>decide (t.number=number)) 0 l
def Run (b:Xs) (number day:Int):List Call×Int:=
 if Yx b≠0 then([],Yx b)else if !YV day 0 b.last then([],1)
 else if place (Xt b day) number<0 then([],3)
 else if !ZbW ((Xt b day).getD (place (Xt b day) number).toNat default) day then([],11)
 else(calls b.zones ((Xt b day).getD (place (Xt b day) number).toNat default) day,0)
end Sp
namespace Vm
attribute [local irreducible] Dn
open Go Go.Proofs Sp
set_option maxRecDepth 100000
set_option maxHeartbeats 1600000
def QM (s:Stop):List AV:=[.int .i64 fun _=>s.station,.int .i64 fun _=>s.zone,.int .i64 fun _=>s.arrive,.int .i64 fun _=>s.depart]
def encTrain (t:Train):List AV:=[.int .i64 fun _=>t.number,.int .i64 fun _=>t.days,lst 4 QM default t.stops]
def encZone (z:Zone):List AV:=[.int .i64 fun _=>z.base,lst 2 ZaC default z.chs]
def Zd (b:Xs):AV:=.agg [lst 2 encZone default b.zones,lst 3 encTrain default b.old,lst 3 encTrain default b.new,.int .i64 fun _=>b.night,.int .i64 fun _=>b.last]
theorem ZcQ {f:FuncId} {xs I:List AV} {h:List Zh} {A Q:AV->List Zh->Prop} {B:Prop} (H:SC (fun _=>aB) f I [] Q) (k:B) (t:SC (fun _=>aB) f I [] Q->HdW B->SC (fun _=>aB) f xs h A:=by intro J hW;refine ZL J (by first|rfl|(simp only[Ze,Zd,Za O];rfl)) fun r S G=>?_;(try simp only[Ze,Zd,Za O]at G);obtain⟨rfl,rfl⟩:=G;exact hW.out):SC (fun _=>aB) f xs h A:=t H ⟨k⟩
theorem YE {A:(α:Type)->α->List α->Int->α} (O:∀(α:Type) (d:α) (l:List α) (i:Int),A α d l i=l.getD i.toNat d) {α:Type} (enc:α->List AV) (d:α) (l:List α):Zb9 enc d l=fun e=>enc (A α d l (e ())):=by
 funext e;show enc (l.getD _ d)=_;rw[O]
theorem lit_nt {H:(α:Type)->α->List α->Int->α} (O:∀(α:Type) (d:α) (l:List α) (i:Int),H α d l i=l.getD i.toNat d) {α:Type} {n k sz:Nat} (enc:α->List AV) (d:α) (l:List α) (A:List (List AV)) (hr:A=l.map enc):
  Zy n k (.isl sz (fun _=>(A.length:Int)) (fun e=>A.getD (e ()).toNat (A.headD [])) .exact) (.isl sz (fun _=>(l.length:Int)) (fun e=>enc (H α d l (e ()))) .none):=by
 subst hr;refine .none (by simp) fun i G=>?_;have G:i<l.length:=by simpa using G
 show(l.map enc).getD i _=enc (H α d l (i:Int));rw[O];simp[aA,aD G]
theorem Zu5 (l:List Nat) {f:FuncId} {xs I:List AV} {h S:List Zh} {A Q:AV->List Zh->Prop} (H:SC (fun _=>aB) f I S Q) (V:To xs h I h) (J:l.Nodup) (U:∀i∈l,i<h.length) (Z:I.map (Qs false l h 5)=I) (hh:sel false l h=S) (Y:∀r G,Q r G->A (ren (Y7 l h.length) 5 r) (back l h G)):SC (fun _=>aB) f xs h A:=
 SC.to V (ZS l H J U Z hh Y)
theorem ZbB (a b:Int):(a==b)=decide (a=b):=by by_cases h:a=b<;>simp[h]
theorem c78 (n a b:Int):SC (fun _=>aB) 172 [.int .i64 fun _=>n,.int .i64 fun _=>a,.int .i64 fun _=>b] [] fun r h=>r= .int .i64 (fun _=>ZO n a b)/\h=[]:=by
 refine QN Tryz.func172 (body:=Zj Tryz.f172) rfl (by decide+kernel) ?_;refine wS ?_;unfold ZO;refine⟨fun G=>?_,fun G=>?_⟩
 ·simp only[decide_eq_true_eq]at G;refine vS ?_;refine⟨?_,trivial⟩;congr 1;funext _;rw[if_pos G]
 simp only[decide_eq_false_iff_not]at G;refine vS ?_;refine⟨fun A=>?_,fun A=>?_⟩
 ·simp only[decide_eq_true_eq]at A;refine vS ?_;refine⟨?_,trivial⟩;congr 1;funext _;rw[if_neg G,if_pos A]
 simp only[decide_eq_false_iff_not]at A;refine vS ?_;refine⟨?_,trivial⟩;congr 1;funext _;rw[if_neg G,if_neg A]
theorem Zx9 (x s:Stop):SC (fun _=>aB) 197 [.agg (QM x),.ptr 0 0] [.cells (QM s)] fun v h=>v= .bool (fun _=>decide (x.station=s.station))/\h=[.cells (QM s)]:=by
 refine QN Tryz.func197 (body:=Zj Tryz.f197) rfl (by decide+kernel) ?_;refine wS ?_;exact⟨by simp only[ZbB],trivial⟩
theorem cL0 (l:List Nat) {f:FuncId} {xs J:List AV} {h I:List Zh} {A Q:AV->List Zh->Prop} (H:SC (fun _=>aB) f J I Q) (S:∀ r G,Q r G->A (ren (Y7 l h.length) 5 r) (back l h G)) (V:l.Nodup:=by decide) (U:∀ i∈l,i<h.length:=by simp) (Y:xs.map (Qs false l h 5)=J:=by first|rfl|(simp only[Ze,Zd,Za O];rfl)) (Z:sel false l h=I:=by first|rfl|(simp only[Ze,Zd,Za O];rfl)):SC (fun _=>aB) f xs h A:=ZS l H V U Y Z S
theorem Zx8 (l:List Stop) (s:Stop) (U:l.length<=1000000):SC (fun _=>aB) 199 [lst 4 QM default l,.fn 197 [] [.ptr 0 0]] [.cells (QM s)] fun v h=>v= .int .i64 (fun _=>Zt (fun x=>decide (x.station=s.station)) 0 l)/\h=[.cells (QM s)]:=by
 obtain⟨I,O⟩:=Zo;rw[Za O];refine QN Tryz.func199 (body:=Zj Tryz.f199) rfl (by decide+kernel) ?_;refine wS ?_;refine ZJ false false [] [0,1,7,8] [] (fun(i:Nat)=>[(8,.int .i64 fun _=>i)]) (fun _=>[]) (fun i=>i<=l.length/\Zt (fun x=>decide (x.station=s.station)) 0 l=Zt (fun x=>decide (x.station=s.station)) i (l.drop i)) (fun i=>l.length-i+0) 0 ⟨aW _,by simp⟩ ?_ ?_
 ·exact ZF
 rintro i ⟨V,A⟩;refine wS ?_;refine⟨fun H=>?_,fun H=>?_⟩
 ·simp only[decide_eq_true_eq]at H;have J:=Qi (d:=default) O (l:=l) (i:=i) (by omega);rw[J,Zt]at A;refine wS ?_;refine cL0 [0] (Zx9 (I Stop default l i) s) fun r S A=>?_;(try simp only[Ze,Zd,Za O]at A);obtain⟨rfl,rfl⟩:=A;refine vS ?_;refine⟨fun G=>?_,fun G=>?_⟩
  ·rw[if_pos G]at A;refine wS ?_;exact⟨by rw[A],trivial⟩
  rw[if_neg (by rw[G];exact aS)]at A;refine wS ?_;refine⟨i+1,⟨by omega,A⟩,by show l.length-(i+1)+0<l.length-i+0;omega,?_⟩;exact ZF
 simp only[decide_eq_false_iff_not]at H;rw[bB (by omega),Zt]at A;refine wS ?_;exact⟨by rw[A],trivial⟩
theorem Zax {α:Type} (q:α->Bool):∀(l:List α) (i:Int),0<=i->decide (0<=Zt q i l)=l.any q
 |[],i,h=>by simp[Zt]
 |a::l,i,h=>by
  simp only[Zt,List.any_cons];by_cases A:q a=true
  ·simp[A,h]
  have A:q a=false:=by simpa using A
  simp only[A,aX,if_false,cC];exact Zax q l (i+1) (by omega)
theorem Zya (l:List Stop) (s:Stop) (G:l.length<=1000000):SC (fun _=>aB) 196 [lst 4 QM default l,.fn 197 [] [.ptr 0 0]] [.cells (QM s)] fun v h=>v= .bool (fun _=>l.any fun x=>decide (x.station=s.station))/\h=[.cells (QM s)]:=by
 obtain⟨I,O⟩:=Zo;rw[Za O];refine QN Tryz.func196 (body:=Zj Tryz.f196) rfl (by decide+kernel) ?_;refine wS ?_;refine cL0 [0] (Zx8 l s G) fun r H A=>?_;(try simp only[Ze,Zd,Za O]at A);obtain⟨rfl,rfl⟩:=A;refine wS ?_;refine⟨?_,trivial⟩;congr 1;funext _;exact Zax _ l 0 (by omega)
theorem take_nt {A:(α:Type)->α->List α->Int->α} (O:∀(α:Type) (d:α) (l:List α) (i:Int),A α d l i=l.getD i.toNat d) {α:Type} {n k sz:Nat} {enc:α->List AV} {d:α} {l:List α} {i:Nat} (hi:i<=l.length) {tk:Tk}:
  Zy n k (.isl sz (fun _=>(i:Int)) (fun e=>enc (A α d l (e ()))) tk) (.isl sz (fun _=>((l.take i).length:Int)) (fun e=>enc (A α d (l.take i) (e ()))) .none):=
 .none (by simp;omega) fun j G=>by
  have G:j<i:=by omega
  show enc (A α d l (j:Int))=enc (A α d (l.take i) (j:Int));rw[O,O];simp[aA,cZ,G]
theorem Zyb (l:List Stop) (i:Nat) (zones:Int) (hi:i<l.length) (Y:l.length<=1000000) (Z:0<=zones/\zones<=1000000):SC (fun _=>aB) 191 [lst 4 QM default l,.int .i64 fun _=>(i:Int),.int .i64 fun _=>zones] [] fun v h=>v= .int .i64 (fun _=>Xg zones l i)/\h=[]:=by
 obtain⟨H,O⟩:=Zo;rw[Za O];refine QN Tryz.func191 (body:=Zj Tryz.f191) rfl (by decide+kernel) ?_;have J:Xg zones l i=Je (l.take i) (H Stop default l i) (decide (0<i)&&decide ((i:Int)<l.length-1)) zones:=by unfold Xg;rw[O];rfl
 rw[J];unfold Je;refine wS ?_;generalize H Stop default l i=s at*;refine ZcQ (c67 s.station 0 9) ?_;refine vS ?_;refine⟨fun A=>?_,fun A=>?_⟩
 ·rw[if_pos A];(cbv;(try simp only[nc]at*);(try refine Chk.mk (ZE) ?_));(try first|exact⟨rfl,trivial⟩|exact⟨trivial,trivial⟩)
 rw[if_neg (by rw[A];exact aS)];refine wS ?_;have V:∀lo hi:Int,(!YV s.zone lo hi)=(!YV s.zone lo hi):=fun _ _=>rfl;refine Zu5 [0] (Zya (l.take i) s (by simp;omega)) (by(try simp only[Ze,Zd,Za O]);exact ZF) (by decide) (by simp) (by first|rfl|(simp only[Ze,Zd,Za O];rfl)) rfl fun r S I=>?_;(try simp only[Ze,Zd,Za O]at I);obtain⟨rfl,rfl⟩:=I;refine vS ?_;refine⟨fun A=>?_,fun A=>?_⟩
 ·rw[if_pos A];(cbv;(try simp only[nc]at*);(try refine Chk.mk (ZE) ?_));(try first|exact⟨rfl,trivial⟩|exact⟨trivial,trivial⟩)
 rw[if_neg (by rw[A];exact aS)];refine wS ?_;refine ZcQ (c67 s.zone 0 (zones-1)) ?_;refine vS ?_;refine⟨fun A=>?_,fun A=>?_⟩
 ·rw[if_pos A];(cbv;(try simp only[nc]at*);(try refine Chk.mk (ZE) ?_));(try first|exact⟨rfl,trivial⟩|exact⟨trivial,trivial⟩)
 rw[if_neg (by rw[A];exact aS)];refine wS ?_;refine ZcQ (c67 s.arrive 0 4319) ?_;refine vS ?_;refine⟨fun A=>?_,fun A=>?_⟩
 ·rw[if_pos (by simp[A])];refine wS ?_;refine Br.isT A ?_;(cbv;(try simp only[nc]at*);(try refine Chk.mk (ZE) ?_));(try first|exact⟨rfl,trivial⟩|exact⟨trivial,trivial⟩)
 refine wS ?_;refine ZcQ (c67 s.depart 0 4319) ?_;refine vS ?_;refine⟨fun G=>?_,fun G=>?_⟩
 ·rw[if_pos (by simp[G])];(cbv;(try simp only[nc]at*);(try refine Chk.mk (ZE) ?_));(try first|exact⟨rfl,trivial⟩|exact⟨trivial,trivial⟩)
 rw[if_neg (by simp[A,G])];refine wS ?_;have U:(decide (0<i)&&decide ((i:Int)<l.length-1)&&decide (s.depart<s.arrive))=(bif bif decide (0<(i:Int))then decide ((i:Int)<(l.length:Int)-1)else false then decide (s.depart<s.arrive)else false):=by
  rw[show decide (0<i)=decide (0<(i:Int))from by rw[ew];simp];cases decide (0<(i:Int))<;>cases decide ((i:Int)<(l.length:Int)-1)<;>rfl
 rw[U];refine⟨fun A=>?_,fun A=>?_⟩
 ·rw[if_pos A];(cbv;(try simp only[nc]at*);(try refine Chk.mk (ZE) ?_));(try first|exact⟨rfl,trivial⟩|exact⟨trivial,trivial⟩)
 rw[if_neg (by rw[A];exact aS)];(cbv;(try simp only[nc]at*);(try refine Chk.mk (ZE) ?_));(try first|exact⟨rfl,trivial⟩|exact⟨trivial,trivial⟩)
theorem c80 (l:List Train) (zones:Int) (hz:0<=zones/\zones<=1000000) (hl:l.length<=1000000) (Z:∀t∈l,t.stops.length<=1000000):SC (fun _=>aB) 174 [lst 3 encTrain default l,.int .i64 fun _=>zones] [] fun v h=>v= .int .i64 (fun _=>Qf zones l)/\h=[]:=by
 obtain⟨J,O⟩:=Zo;rw[Za O];refine QN Tryz.func174 (body:=Zj Tryz.f174) rfl (by decide+kernel) ?_;unfold Qf;refine wS ?_;refine ZcQ (c78 (l.length:Int) 0 4) ?_;generalize ZO l.length 0 4=e at*;refine vS ?_;refine⟨fun A=>?_,fun A=>?_⟩
 ·simp only[bne_iff_ne,ne_eq]at A;rw[if_pos A];(cbv;(try simp only[nc]at*);(try refine Chk.mk (ZE) ?_));(try first|exact⟨rfl,trivial⟩|exact⟨trivial,trivial⟩)
 simp only[bne_eq_false_iff_eq]at A;subst A;rw[if_neg (fun h=>h rfl)];refine wS ?_;refine ZJ false false [] [1,6,19,20,21] [] (fun(i:Nat)=>[(21,.int .i64 fun _=>i)]) (fun i=>[(0,.mapB fun e _=>(l.take i).any fun x=>decide (x.number=e ()))])
  (fun i=>i<=l.length/\Zm (QU zones l) 0 l.length=Zm (QU zones l) i (l.length-i)) (fun i=>l.length-i+0) 0 ⟨aW _,by simp⟩ ?_ ?_
 ·exact ZF
 rintro i ⟨hi,H⟩;refine wS ?_;refine⟨fun A=>?_,fun A=>?_⟩
 ·simp only[decide_eq_true_eq]at A;obtain⟨q,hq⟩:∃q,l.length-i=q+1:=⟨l.length-i-1,by omega⟩;rw[hq,Zm]at H;have S:=XW (d:=default) O (l:=l) (i:=i) (by omega);have V:=Z _ (Qu (d:=default) O (l:=l) (i:=i) (by omega));have G:QU zones l i=if !YV (J Train default l i).number 1 999 then 1 else if(l.take i).any (fun x=>decide (x.number=(J Train default l i).number))then 4 else if !YV (J Train default l i).days 1 127 then 1
   else if ZO (J Train default l i).stops.length 2 4≠0 then ZO (J Train default l i).stops.length 2 4 else Y3 zones (J Train default l i).stops:=by unfold QU;rw[O];rfl
  refine wS ?_;generalize J Train default l i=t at*;refine ZcQ (c67 t.number 1 999) ?_;refine vS ?_;refine⟨fun A=>?_,fun A=>?_⟩
  ·rw[if_pos A]at G;rw[G,if_pos (by decide)]at H;refine wS ?_;rw[H];(try first|exact⟨rfl,trivial⟩|exact⟨trivial,trivial⟩)
  rw[if_neg (by rw[A];exact aS)]at G;refine vS ?_;refine⟨fun A=>?_,fun A=>?_⟩
  ·rw[if_pos A]at G;rw[G,if_pos (by decide)]at H;refine wS ?_;rw[H];(try first|exact⟨rfl,trivial⟩|exact⟨trivial,trivial⟩)
  rw[if_neg (by rw[A];exact aS)]at G;refine vS ?_;refine ZcQ (c67 t.days 1 127) ?_;refine vS ?_;refine⟨fun A=>?_,fun A=>?_⟩
  ·rw[if_pos A]at G;rw[G,if_pos (by decide)]at H;refine wS ?_;rw[H];(try first|exact⟨rfl,trivial⟩|exact⟨trivial,trivial⟩)
  rw[if_neg (by rw[A];exact aS)]at G;refine vS ?_;refine ZcQ (c78 (t.stops.length:Int) 2 4) ?_;generalize ZO t.stops.length 2 4=e at*;refine vS ?_;refine⟨fun A=>?_,fun A=>?_⟩
  ·simp only[bne_iff_ne,ne_eq]at A;rw[if_pos A]at G;rw[G,if_pos A]at H;refine wS ?_;rw[H];(try first|exact⟨rfl,trivial⟩|exact⟨trivial,trivial⟩)
  simp only[bne_eq_false_iff_eq]at A;subst A;rw[if_neg (fun h=>h rfl)]at G;refine wS ?_;refine XX fun Q Y=>?_;refine ZJ false false [] [1,6,8,19,20,21,52,53] [] (fun(j:Nat)=>[(53,.int .i64 fun _=>j)]) (fun _=>[])
   (fun j=>j<=t.stops.length/\Y3 zones t.stops=Zm (Xg zones t.stops) j (t.stops.length-j)) (fun j=>t.stops.length-j+0) 0 ⟨aW _,by simp[Y3]⟩ ?_ ?_
  ·exact ZF
  rintro j ⟨hj,I⟩;refine wS ?_;refine⟨fun A=>?_,fun A=>?_⟩
  ·simp only[decide_eq_true_eq]at A;obtain⟨q',U⟩:∃q,t.stops.length-j=q+1:=⟨t.stops.length-j-1,by omega⟩;rw[U,Zm]at I;refine wS ?_;refine ZcQ (Zyb t.stops j zones (by omega) V hz) ?_;generalize Xg zones t.stops j=e at*;refine vS ?_;refine⟨fun A=>?_,fun A=>?_⟩
   ·simp only[bne_iff_ne,ne_eq]at A;rw[if_pos A]at I;rw[G,I,if_pos A]at H;refine wS ?_;refine Y _ _ _ ?_;refine wS ?_;rw[H];(try first|exact⟨rfl,trivial⟩|exact⟨trivial,trivial⟩)
   simp only[bne_eq_false_iff_eq]at A;rw[if_neg (fun h=>h A)]at I;refine wS ?_;refine⟨j+1,⟨by omega,by rw[I];congr 1;omega⟩,by show t.stops.length-(j+1)+0<t.stops.length-j+0;omega,?_⟩;exact ZF
  simp only[decide_eq_false_iff_not]at A;rw[show t.stops.length-j=0 by omega,Zm]at I;rw[G,I,if_neg (fun h=>h rfl)]at H;refine wS ?_;refine Y _ _ _ ?_;refine wS ?_;refine⟨i+1,⟨by omega,by rw[H];congr 1;omega⟩,by show l.length-(i+1)+0<l.length-i+0;omega,?_⟩;refine toR ?_;exact .map fun x=>by
   rw[S,List.any_append];show(if x=t.number then true else(l.take i).any fun y=>decide (y.number=x))=_;by_cases hx:x=t.number
   ·simp[hx]
   rw[if_neg hx];simp[Ne.symm hx]
 simp only[decide_eq_false_iff_not]at A;rw[show l.length-i=0 by omega,Zm]at H;refine wS ?_;rw[H];(try first|exact⟨rfl,trivial⟩|exact⟨trivial,trivial⟩)
structure Xe (b:Xs):Prop where
 zones:b.zones.length<=1000000
 old:b.old.length<=1000000
 new:b.new.length<=1000000
 chs:∀z∈b.zones,z.chs.length<=1000000
 stops:(∀t∈b.old,t.stops.length<=1000000)/\∀t∈b.new,t.stops.length<=1000000
theorem c28 (b:Xs) (A:Xe b):SC (fun _=>aB) 131 [Zd b] [] fun v h=>v= .int .i64 (fun _=>Yx b)/\h=[]:=by
 obtain⟨U,O⟩:=Zo;unfold Zd Yx;simp only[Za O];obtain⟨Y,ho,hn,hc,V⟩:=A;refine QN Tryz.func131 (body:=Zj Tryz.f131) rfl (by decide+kernel) ?_;refine wS ?_;refine ZcQ (c78 (b.zones.length:Int) 1 3) ?_;generalize ZO b.zones.length 1 3=e at*;refine vS ?_;refine⟨fun A=>?_,fun A=>?_⟩
 ·simp only[bne_iff_ne,ne_eq]at A;rw[if_pos A];(cbv;(try simp only[nc]at*);(try refine Chk.mk (ZE) ?_));(try first|exact⟨rfl,trivial⟩|exact⟨trivial,trivial⟩)
 simp only[bne_eq_false_iff_eq]at A;subst A;rw[if_neg (fun h=>h rfl)];refine wS ?_;refine XX fun Q G=>?_;refine ZJ false false [] [1,18,19,20] [] (fun(i:Nat)=>[(20,.int .i64 fun _=>i)]) (fun _=>[])
  (fun i=>i<=b.zones.length/\Zm (fun i=>Zw (b.zones.getD i default)) 0 b.zones.length=Zm (fun i=>Zw (b.zones.getD i default)) i (b.zones.length-i)) (fun i=>b.zones.length-i+0) 0 ⟨aW _,by simp⟩ ?_ ?_
 ·exact ZF
 rintro i ⟨Z,I⟩;refine wS ?_;refine⟨fun A=>?_,fun A=>?_⟩
 ·simp only[decide_eq_true_eq]at A;obtain⟨q,hq⟩:∃q,b.zones.length-i=q+1:=⟨b.zones.length-i-1,by omega⟩;rw[hq,Zm]at I;have aa:=hc _ (Qu (d:=default) O (l:=b.zones) (i:=i) (by omega));have Y:b.zones.getD i default=U Zone default b.zones i:=by rw[O];rfl
  rw[Y]at I;refine wS ?_;generalize U Zone default b.zones i=z at*;refine ZcQ (c79 z aa) ?_;generalize Zw z=e at*;refine vS ?_;refine⟨fun A=>?_,fun A=>?_⟩
  ·simp only[bne_iff_ne,ne_eq]at A;rw[if_pos A]at I;rw[I,if_pos A]at G;refine wS ?_;refine G _ _ _ ?_;(cbv;(try simp only[nc]at*);(try refine Chk.mk (ZE) ?_));(try first|exact⟨rfl,trivial⟩|exact⟨trivial,trivial⟩)
  simp only[bne_eq_false_iff_eq]at A;rw[if_neg (fun h=>h A)]at I;refine wS ?_;refine⟨i+1,⟨by omega,by rw[I];congr 1;omega⟩,by show b.zones.length-(i+1)+0<b.zones.length-i+0;omega,?_⟩;exact ZF
 simp only[decide_eq_false_iff_not]at A;rw[show b.zones.length-i=0 by omega,Zm]at I;rw[I,if_neg (fun h=>h rfl)]at G;refine wS ?_;refine G _ _ _ ?_;clear G;refine wS ?_;refine XX fun Q G=>?_;refine ZJ false false [] [1,34,35,36] [] (fun(i:Nat)=>[(36,.int .i64 fun _=>i)]) (fun _=>[])
  (fun i=>i=0\/(i=1/\Qf b.zones.length b.old=0)\/(i=2/\Qf b.zones.length b.old=0/\Qf b.zones.length b.new=0)) (fun i=>3-i+0) 0 (.inl rfl) ?_ ?_
 ·exact ZF
 rintro i Z;rcases Z with rfl|⟨rfl,S⟩|⟨rfl,S,h2⟩
 ·refine wS ?_;refine Br.isT (by simp) ?_;refine wS ?_;refine ZcQ (c80 b.old (b.zones.length:Int) (by omega) ho V.1) ?_;generalize Qf b.zones.length b.old=e at*;refine vS ?_;refine⟨fun A=>?_,fun A=>?_⟩
  ·simp only[bne_iff_ne,ne_eq]at A;rw[if_pos A]at G;refine wS ?_;refine G _ _ _ ?_;(cbv;(try simp only[nc]at*);(try refine Chk.mk (ZE) ?_));(try first|exact⟨rfl,trivial⟩|exact⟨trivial,trivial⟩)
  simp only[bne_eq_false_iff_eq]at A;refine wS ?_;refine⟨1,.inr (.inl ⟨rfl,A⟩),by decide,?_⟩;exact ZF
 ·refine wS ?_;refine Br.isT (by simp) ?_;refine wS ?_;refine ZcQ (c80 b.new (b.zones.length:Int) (by omega) hn V.2) ?_;rw[if_neg (fun h=>h S)]at G;generalize Qf b.zones.length b.new=e at*;refine vS ?_;refine⟨fun A=>?_,fun A=>?_⟩
  ·simp only[bne_iff_ne,ne_eq]at A;rw[if_pos A]at G;refine wS ?_;refine G _ _ _ ?_;(cbv;(try simp only[nc]at*);(try refine Chk.mk (ZE) ?_));(try first|exact⟨rfl,trivial⟩|exact⟨trivial,trivial⟩)
  simp only[bne_eq_false_iff_eq]at A;refine wS ?_;refine⟨2,.inr (.inr ⟨rfl,S,A⟩),by decide,?_⟩;exact ZF
 rw[if_neg (fun h=>h S),if_neg (fun h=>h h2)]at G;refine wS ?_;refine Br.isF (by simp) ?_;refine wS ?_;refine G _ _ _ ?_;clear G;refine wS ?_;have J:=c67 b.last 0 13;rcases hI:YV b.last 0 13 with _|_
 ·rw[hI]at J;simp only[Bool.not_false,Bool.true_or,if_true];refine ZcQ (J) ?_;refine vS ?_;refine Chk.mk (by simp[Xo,Xm,Xn,Cn.p]) ?_;refine Br.isF (by rfl) ?_;refine wS ?_;refine Br.isT (by rfl) ?_;(cbv;(try simp only[nc]at*);(try refine Chk.mk (ZE) ?_));(try first|exact⟨rfl,trivial⟩|exact⟨trivial,trivial⟩)
 have ab:0<=b.last/\b.last<=13:=by simpa [YV]using hI
 rw[hI]at J;simp only[dY,cC];refine ZcQ (J) ?_;refine wS ?_;refine Br.isT (by rfl) ?_;refine wS ?_;refine ZcQ (c67 b.night 0 (b.last+1)) ?_;refine wS ?_;refine⟨fun H=>?_,fun H=>?_⟩
 ·have H:YV b.night 0 (b.last+1)=false:=by simpa using H
  refine wS ?_;simp[H]
 have H:YV b.night 0 (b.last+1)=true:=by simpa using H
 refine wS ?_;simp[H]
end Vm
namespace Vm
open Sp
def Asc:Int->List Chg->Prop
 |_,[]=>True
 |lo,c::r=>lo<=c.at_/\Asc (c.at_+1) r
def af:Int->List Chg->Int->Int
 |a,[],_=>a
 |a,c::r,k=>if c.at_<=k then af (a+c.by_) r k else a
theorem Zcn {z:Zone} (h:Zw z=0):Asc 0 z.chs/\(∀c∈z.chs,0<=c.at_/\c.at_<=43200/\-180<=c.by_/\c.by_<=180)/\z.chs.length<=3/\-720<=z.base/\z.base<=720:=by
 unfold Zw at h;split at h
 ·cases h
 rename_i Y;split at h
 ·cases h
 rename_i h2;have H:∀(l:List Chg) (p:Option Int),Jd p l=0->(Asc (match p with|none=>0|some a=>a+1) l)/\∀c∈l,0<=c.at_/\c.at_<=43200/\-180<=c.by_/\c.by_<=180:=by
  intro l;induction l with
  |nil=>intro p _;exact⟨trivial,fun c G=>by cases G⟩
  |cons a l S=>
   intro p A;rw[YS]at A;split at A
   ·cases A
   rename_i g1;split at A
   ·cases A
   rename_i J;split at A
   ·cases A
   rename_i U;simp[YV]at g1 U;obtain⟨V,i2⟩:=S _ A;refine⟨⟨?_,V⟩,fun c G=>?_⟩
   ·cases p with
    |none=>simp only;omega
    |some q=>simp[leP]at J;simp only;omega
   rcases bG.1 G with rfl|G
   ·omega
   exact i2 c G
 obtain⟨I,Z⟩:=H _ _ h;simp[YV]at Y;exact⟨I,Z,by omega,by omega,by omega⟩
attribute [local irreducible] Dn
open Go Go.Proofs Sp
set_option maxRecDepth 100000
set_option maxHeartbeats 1600000
def Zxi (z:Zone):AV:=.agg [.int .i64 fun _=>z.base,.int .i64 fun _=>(z.chs.length:Int),
 .int .i64 fun _=>(z.chs.getD 0 default).at_,.int .i64 fun _=>(z.chs.getD 0 default).by_,.int .i64 fun _=>(z.chs.getD 1 default).at_,.int .i64 fun _=>(z.chs.getD 1 default).by_,.int .i64 fun _=>(z.chs.getD 2 default).at_,.int .i64 fun _=>(z.chs.getD 2 default).by_]
theorem c73 (b:Xs) (day:Int):SC (fun _=>aB) 145 [Zd b,.int .i64 fun _=>day] [] fun v h=>v=lst 3 encTrain default (Xt b day)/\h=[]:=by
 refine QN Tryz.func145 (body:=Zj Tryz.f145) rfl (by decide+kernel) ?_;unfold Zd Xt;refine wS ?_;refine⟨fun A=>?_,fun A=>?_⟩
 ·simp only[decide_eq_true_eq]at A;rw[if_pos A];(cbv;(try simp only[nc]at*);(try refine Chk.mk (ZE) ?_));(try first|exact⟨rfl,trivial⟩|exact⟨trivial,trivial⟩)
 simp only[decide_eq_false_iff_not]at A;rw[if_neg A];(cbv;(try simp only[nc]at*);(try refine Chk.mk (ZE) ?_));(try first|exact⟨rfl,trivial⟩|exact⟨trivial,trivial⟩)
theorem ZmR (n:Int) (h:0<=n) (A:n<=1000000000):IntKind.i64.wrap ((BitVec.ofInt IntKind.i64.bits n&&&BitVec.ofInt IntKind.i64.bits 1).toNat:Int)=n%2:=by
 have e:(BitVec.ofInt IntKind.i64.bits n&&&BitVec.ofInt IntKind.i64.bits 1).toNat=n.toNat%2:=by
  rw[BitVec.toNat_and,BitVec.toNat_ofInt,BitVec.toNat_ofInt];show(n%((2^ 64:Nat):Int)).toNat&&&(1%((2^ 64:Nat):Int)).toNat=_;rw[show(1%((2^ 64:Nat):Int)).toNat=1 from rfl,Nat.and_one_is_mod,show n%((2^ 64:Nat):Int)=n from Int.emod_eq_of_lt h (by omega)]
 rw[e];have:((n.toNat%2:Nat):Int)=n%2:=by omega
 rw[this];simp only[IntKind.wrap,IntKind.signed,IntKind.bits];simp;omega
theorem c76 (t:Train) (day:Int) (H:0<=day/\day<=1000000) (A:0<=t.days/\t.days<=1000000):SC (fun _=>aB) 148 [.agg (encTrain t),.int .i64 fun _=>day] [] fun v h=>v= .bool (fun _=>ZbW t day)/\h=[]:=by
 refine QN Tryz.func148 (body:=Zj Tryz.f148) rfl (by decide+kernel) ?_;have e:=(Zti day 7).1 H.1;refine vS ?_;rw[e];refine Chk.mk (ZE) ?_;refine vS ?_;refine⟨?_,trivial⟩;congr 1;funext _;rw[Nat.min_eq_left (show(day%7).toNat<=IntKind.i64.bits by show _<=64;omega),Int.fdiv_eq_ediv_of_nonneg _ (gu (gK (by omega)))];have G:0<=t.days/2^(day%7).toNat:=Int.ediv_nonneg A.1 (gu (gK (by omega)));have I:t.days/2^(day%7).toNat<=t.days:=Int.ediv_le_self _ A.1;unfold ZbW;generalize t.days/2^(day%7).toNat=q at*;rw[ZmR q G (by omega),ZbB]
theorem Zwc {A:(α:Type)->α->List α->Int->α} (O:∀(α:Type) (d:α) (l:List α) (i:Int),A α d l i=l.getD i.toNat d) (f:Chg->Int) (G:f default=0) (l:List Chg) (i:Nat):(bif decide ((i:Int)<(l.length:Int))then f (A Chg default l (i:Int))else 0)=f (l.getD i default):=by
 rw[O,aV];by_cases h:i<l.length
 ·rw[decide_eq_true (show(i:Int)<(l.length:Int) by omega)];rfl
 rw[decide_eq_false (show¬(i:Int)<(l.length:Int) by omega),aA,List.getElem?_eq_none (by omega)];exact G.symm
theorem ZwR (z:Zone) (H:z.chs.length<=3):SC (fun _=>aB) 184 [Ze z] [] fun v h=>v=Zxi z/\h=[]:=by
 obtain⟨I,O⟩:=Zo;unfold Ze;simp only[Za O];refine QN Tryz.func184 (body:=Zj Tryz.f184) rfl (by decide+kernel) ?_;refine wS ?_;refine⟨?_,trivial⟩;have A:=Zwc O (fun c=>c.at_) rfl z.chs;have G:=Zwc O (fun c=>c.by_) rfl z.chs;simp only[A,G]
theorem Zyc (t:Train) (n:Int):SC (fun _=>aB) 182 [.agg (encTrain t),.iptr [.int .i64 fun _=>n] 0] [] fun v h=>v= .bool (fun _=>decide (t.number=n))/\h=[]:=by
 refine QN Tryz.func182 (body:=Zj Tryz.f182) rfl (by decide+kernel) ?_;refine wS ?_;exact⟨by simp only[ZbB],trivial⟩
theorem c75 (n:Int):SC (fun _=>aB) 147 [.int .i64 fun _=>n] [] fun v h=>v= .fn 182 [] [.iptr [.int .i64 fun _=>n] 0]/\h=[]:=by
 refine QN Tryz.func147 (body:=Zj Tryz.f147) rfl (by decide+kernel) ?_;exact wZ
def knA:Option Zone->AV
 |none=>.isl 0 (fun _=>0) (fun _=>[]) .nil
 |some z=>lst 3 Ze9 default (ZU z)
def Zwq (z:Zone):List AV:=[.int .i64 fun _=>z.base,.int .i64 fun _=>(z.chs.length:Int),
 .int .i64 fun _=>(z.chs.getD 0 default).at_,.int .i64 fun _=>(z.chs.getD 0 default).by_,.int .i64 fun _=>(z.chs.getD 1 default).at_,.int .i64 fun _=>(z.chs.getD 1 default).by_,.int .i64 fun _=>(z.chs.getD 2 default).at_,.int .i64 fun _=>(z.chs.getD 2 default).by_]
def Zfk:Option Zone->List AV
 |none=>[iA 0,iA 0,iA 0,iA 0,iA 0,iA 0,iA 0,iA 0]
 |some z=>Zwq z
theorem ZsP {z A:Zone} (h0:z.chs.length<=3) (Y:z.base=A.base) (V:z.chs.length=A.chs.length) (a0:(z.chs.getD 0 default).at_=(A.chs.getD 0 default).at_) (b0:(z.chs.getD 0 default).by_=(A.chs.getD 0 default).by_)
  (a1:(z.chs.getD 1 default).at_=(A.chs.getD 1 default).at_) (b1:(z.chs.getD 1 default).by_=(A.chs.getD 1 default).by_) (Z:(z.chs.getD 2 default).at_=(A.chs.getD 2 default).at_) (b2:(z.chs.getD 2 default).by_=(A.chs.getD 2 default).by_):z=A:=by
 obtain⟨b,l⟩:=z;obtain⟨b',l'⟩:=A;have ext:∀c G:Chg,c.at_=G.at_->c.by_=G.by_->c=G:=fun c G I H=>by cases c;cases G;simp_all
 dsimp only at*;subst Y;congr 1;refine List.ext_getElem V fun i I H=>?_;have U:=ext _ _ a0 b0;have J:=ext _ _ a1 b1;have S:=ext _ _ Z b2;have hi:i=0\/i=1\/i=2:=by omega
 simp only[aA]at U J S;rcases hi with rfl|rfl|rfl
 ·simpa [aD I,aD H]using U
 ·simpa [aD I,aD H]using J
 simpa [aD I,aD H]using S
theorem Zvg (b:Xs) (H m day G:Int) (o:Option Zone) (A:∀z∈b.zones,Zw z=0) (ho:∀z,o=some z->Zw z=0) (hz:0<=H/\H<b.zones.length) (hm:0<=m/\m<=10000) (hd:0<=day/\day<=100):
  SC (fun _=>aB) 183 [.int .i64 fun _=>H,.int .i64 fun _=>m,.ptr 0 0,.ptr 1 0,.ptr 2 0,.ptr 3 0,.ptr 4 0] [.cells [lst 2 encZone default b.zones,lst 3 encTrain default b.old,lst 3 encTrain default b.new,.int .i64 fun _=>b.night,.int .i64 fun _=>b.last],.cells [knA o],.cells (Zfk o),.cells [.int .i64 fun _=>day],.cells [.int .i64 fun _=>G]]
   fun v h=>v= .int .i64 (fun _=>Q7 (ZU (b.zones.getD H.toNat default)) (1440*day+m) G)/\h=[.cells [lst 2 encZone default b.zones,lst 3 encTrain default b.old,lst 3 encTrain default b.new,.int .i64 fun _=>b.night,.int .i64 fun _=>b.last],.cells [knA (some (b.zones.getD H.toNat default))],.cells (Zwq (b.zones.getD H.toNat default)),.cells [.int .i64 fun _=>day],.cells [.int .i64 fun _=>Q7 (ZU (b.zones.getD H.toNat default)) (1440*day+m) G]]:=by
 obtain⟨Z,O⟩:=Zo;obtain⟨k,rfl⟩:∃k:Nat,H=k:=⟨H.toNat,by omega⟩;have V:b.zones.getD (k:Int).toNat default=Z Zone default b.zones k:=by rw[O]
 have hv:=A _ (Qu (d:=default) O (l:=b.zones) (i:=k) (by omega));rw[V];refine QN Tryz.func183 (body:=Zj Tryz.f183) rfl (by decide+kernel) ?_;simp only[Za O];obtain⟨z,J⟩:∃z,Z Zone default b.zones (k:Int)=z:=⟨_,rfl⟩;rw[J]at hv V|-;have S:=(Zcn hv).2.2.1;cases o with
 |none=>
  unfold knA Zfk;refine wS ?_;simp only[J];refine ZcQ (ZwR z S) ?_;have I:=JI (ZaI hv);refine wS ?_;refine Br.isT rfl ?_;refine wS ?_;simp only[J];refine ZcQ (c90 z (ZaI hv)) ?_;generalize hL:ZU z=L at*;refine wS ?_;refine ZcQ (c91 day m (by omega) (by omega)) ?_;refine wS ?_;refine ZcQ (c92 L (1440*day+m) G (by omega) I.2.2 (by omega)) ?_;(cbv;try simp only[nc]at*);((try simp only[YE O,and_self,and_true,true_and]);(try rfl))
 |some Y=>
  have aa:=ho Y rfl;have ab:=JI (ZaI aa);unfold knA Zfk;simp only;generalize U:ZU Y=L' at*;simp only[Za O];refine wS ?_;simp only[J];refine ZcQ (ZwR z S) ?_;have I:=JI (ZaI hv);refine wS ?_;refine⟨fun A=>?_,fun A=>?_⟩
  ·refine wS ?_;simp only[J];refine ZcQ (c90 z (ZaI hv)) ?_;generalize hL:ZU z=L at*;refine wS ?_;refine ZcQ (c91 day m (by omega) (by omega)) ?_;refine wS ?_;refine ZcQ (c92 L (1440*day+m) G (by omega) I.2.2 (by omega)) ?_;(cbv;try simp only[nc]at*);((try simp only[YE O,and_self,and_true,true_and]);(try rfl))
  have he:z=Y:=by
   simp at A;exact ZsP S A.1 (by have:=A.2.1;omega) A.2.2.1 A.2.2.2.1 A.2.2.2.2.1 A.2.2.2.2.2.1 A.2.2.2.2.2.2.1 A.2.2.2.2.2.2.2
  subst he;rw[U]at I;refine wS ?_;refine ZcQ (c91 day m (by omega) (by omega)) ?_;refine wS ?_;refine ZcQ (c92 L' (1440*day+m) G (by omega) I.2.2 (by omega)) ?_;rw[U];(cbv;try simp only[nc]at*);((try simp only[YE O,and_self,and_true,true_and]);(try rfl))
def XM (c:Sp.Call):List AV:=[.int .i64 fun _=>c.station,.int .i64 fun _=>c.arrive,.int .i64 fun _=>c.depart]
def Zsn (t:Train) (day:Int) (l:List Sp.Call):AV:=.agg (encTrain t++[.int .i64 fun _=>day,lst 3 XM default l])
theorem c77 (b:Xs) (t:Train) (day:Int) (S:∀z∈b.zones,Zw z=0) (ht:∀s∈t.stops,(0<=s.zone/\s.zone<b.zones.length)/\(0<=s.arrive/\s.arrive<=10000)/\0<=s.depart/\s.depart<=10000) (ai:2<=t.stops.length/\t.stops.length<=1000) (hd:0<=day/\day<=100):
  SC (fun _=>aB) 149 [Zd b,.agg (encTrain t),.int .i64 fun _=>day] [] fun v h=>v=Zsn t day (calls b.zones t day)/\h=[]:=by
 obtain⟨I,O⟩:=Zo;refine SC.less (QN Tryz.func149 (body:=Zj Tryz.f149) rfl (by decide+kernel) ?_);unfold Zd;rw[show AV.agg (encTrain t)= .agg [.int .i64 fun _=>t.number,.int .i64 fun _=>t.days,.isl 4 (fun _=>(t.stops.length:Int)) (fun e=>QM (I Stop default t.stops (e ()))) .none] by unfold encTrain;rw[Za O]];refine wS ?_;refine ZJ false false [] [4,5,6,10,11,17,18,19] [.tok 3 fun _=>0] (fun(⟨i,G,o,out⟩:Nat×Int×Option Zone×List Sp.Call)=>[(11,.isl 3 (fun _=>(out.length:Int)) (fun e=>XM (I Sp.Call default out (e ()))) (.own 7)),(19,.int .i64 fun _=>i)])
  (fun⟨i,G,o,out⟩=>[(4,.cells [.int .i64 fun _=>G]),(5,.cells (Zfk o)),(6,.cells [knA o]),(7,.tok 3 fun _=>(out.length:Int))])
  (fun⟨i,G,o,out⟩=>(i<=t.stops.length/\out.length=i/\calls b.zones t day=out++Q5 b.zones day t.stops.length i G (t.stops.drop i))/\(∀z,o=some z->Zw z=0)/\(i=0↔o=none)) (fun i=>t.stops.length-i.1+0) (0,0,none,[]) ⟨⟨aW _,rfl,rfl⟩,(fun z h=>by cases h),by simp⟩ ?_ ?_
 ·(refine To.of [(3,false)] ?_;cbv;(try simp only[nc]);(repeat' (first|exact trivial|exact Zy.refl _|exact ZG.refl _|refine⟨?_,?_⟩|refine ZG.cells ?_|refine Zy.agg ?_|refine Zy.tup ?_));(all_goals (first|exact XQ|skip)))
 rintro⟨i,G,o,out⟩ ⟨⟨hi,ho,A⟩,hk,hio⟩
 have ac:∀k:Nat,k<t.stops.length->Zw (b.zones.getD (I Stop default t.stops (k:Int)).zone.toNat default)=0:=fun k hk=>S _ (by
  have:=ht _ (Qu (d:=default) O (l:=t.stops) (i:=k) hk)
  rw[aA,aD (by omega)];exact bM _)
 cases o with
 |none=>
  have ae:=hio.2 rfl;subst ae;unfold knA Zfk;refine wS ?_;refine Br.isT (by simp;omega) ?_;have ab:=Qi (d:=default) O (l:=t.stops) (i:=0) (by omega);have J:=ht _ (Qu (d:=default) O (l:=t.stops) (i:=0) (by omega));have V:=ac 0 (by omega);rw[ab,Q5,if_pos rfl,if_pos (by omega)]at A;have H:=Zvg b (I Stop default t.stops ((0:Nat):Int)).zone (I Stop default t.stops ((0:Nat):Int)).depart day G none S (fun z h=>by cases h) J.1 J.2.2 hd;simp only[knA,Zfk]at H;refine wS ?_;refine Br.isF rfl ?_;refine wS ?_;refine Br.isT (by simp;omega) ?_;refine wS ?_;generalize I Stop default t.stops ((0:Nat):Int)=s at*;refine cL0 [0,6,5,2,4] (H) fun r aa A=>?_;(try simp only[Ze,Zd,Za O]at A);obtain⟨rfl,rfl⟩:=A;try dsimp only at A
  generalize b.zones.getD s.zone.toNat default=z at*;generalize hL:ZU z=L at*;generalize Q7 L (1440*day+s.depart) G=d at*;refine wS ?_;refine Br.isT rfl ?_;refine wS ?_;refine⟨(1,d,some z,out++[⟨s.station,d,d⟩]),⟨⟨by omega,by simp only[bf,bF,cE];omega,by rw[A];simp⟩,fun Z h=>by cases h;exact V,by simp⟩,by show t.stops.length-1+0<t.stops.length-0+0;omega,?_⟩;simp only[knA,Zfk,hL];exact ZF
 |some Z=>
  have ae:0<i:=Nat.pos_of_ne_zero fun h=>by have:=hio.1 h;cases this
  unfold knA Zfk;simp only;generalize ah:ZU Z=L' at*;refine wS ?_;refine⟨fun hb=>?_,fun hb=>?_⟩
  ·simp only[decide_eq_true_eq]at hb;have ab:=Qi (d:=default) O (l:=t.stops) (i:=i) (by omega);have J:=ht _ (Qu (d:=default) O (l:=t.stops) (i:=i) (by omega));have V:=ac i (by omega);rw[ab,Q5,if_neg (by omega)]at A;have H:=Zvg b (I Stop default t.stops (i:Int)).zone (I Stop default t.stops (i:Int)).arrive day G (some Z) S hk J.1 J.2.1 hd;simp only[knA,Zfk,ah]at H;refine wS ?_;refine Br.isT (by simp;omega) ?_;refine wS ?_;generalize I Stop default t.stops (i:Int)=s at*;refine cL0 [0,6,5,2,4] (H) fun r aa A=>?_;(try simp only[Ze,Zd,Za O]at A);obtain⟨rfl,rfl⟩:=A;have U:=fun G=>Zvg b s.zone s.depart day G (some (b.zones.getD s.zone.toNat default)) S (fun z h=>by cases h;exact V) J.1 J.2.2 hd;try dsimp only at A
   simp only[knA,Zfk]at U;generalize b.zones.getD s.zone.toNat default=z at*;generalize hL:ZU z=L at*;generalize Q7 L (1440*day+s.arrive) G=a at*;refine wS ?_;refine⟨fun Y=>?_,fun Y=>?_⟩
   ·simp only[decide_eq_true_eq]at Y;rw[if_pos (by omega)]at A;refine wS ?_;refine cL0 [0,6,5,2,4] (U a) fun r aa A=>?_;(try simp only[Ze,Zd,Za O]at A);obtain⟨rfl,rfl⟩:=A;generalize Q7 L (1440*day+s.depart) a=d at*;refine wS ?_;refine Br.isF (by simp;omega) ?_;refine wS ?_;refine⟨(i+1,d,some z,out++[⟨s.station,a,d⟩]),⟨⟨by omega,by simp only[bf,bF,cE];omega,by rw[A];simp⟩,fun Z h=>by cases h;exact V,by simp⟩,by show t.stops.length-(i+1)+0<t.stops.length-i+0;omega,?_⟩;simp only[knA,Zfk,hL];exact ZF
   simp only[decide_eq_false_iff_not]at Y;rw[if_neg (by omega)]at A;refine wS ?_;refine Br.isF (by simp;omega) ?_;refine wS ?_;refine⟨(i+1,a,some z,out++[⟨s.station,a,a⟩]),⟨⟨by omega,by simp only[bf,bF,cE];omega,by rw[A];simp⟩,fun Z h=>by cases h;exact V,by simp⟩,by show t.stops.length-(i+1)+0<t.stops.length-i+0;omega,?_⟩;simp only[knA,Zfk,hL];exact ZF
  simp only[decide_eq_false_iff_not]at hb;rw[bB (by omega),Q5,List.append_nil]at A;rw[A];refine wS ?_;refine⟨Zsn t day out,[],?_,rfl,rfl⟩;unfold Zsn encTrain;simp only[Za O];exact ZF
theorem c74 (l:List Train) (n:Int) (S:l.length<=1000000):SC (fun _=>aB) 146 [lst 3 encTrain default l,.fn 182 [] [.iptr [.int .i64 fun _=>n] 0]] [] fun v h=>v= .int .i64 (fun _=>place l n)/\h=[]:=by
 obtain⟨I,O⟩:=Zo;rw[Za O];unfold place;refine QN Tryz.func146 (body:=Zj Tryz.f146) rfl (by decide+kernel) ?_;refine wS ?_;refine ZJ false false [] [0,1,7,8] [] (fun(i:Nat)=>[(8,.int .i64 fun _=>i)]) (fun _=>[]) (fun i=>i<=l.length/\Zt (fun t=>decide (t.number=n)) 0 l=Zt (fun t=>decide (t.number=n)) i (l.drop i)) (fun i=>l.length-i+0) 0 ⟨aW _,by simp⟩ ?_ ?_
 ·exact ZF
 rintro i ⟨U,A⟩;refine wS ?_;refine⟨fun H=>?_,fun H=>?_⟩
 ·simp only[decide_eq_true_eq]at H;have J:=Qi (d:=default) O (l:=l) (i:=i) (by omega);rw[J,Zt]at A;refine wS ?_;refine ZcQ (Zyc (I Train default l i) n) ?_;refine vS ?_;refine⟨fun G=>?_,fun G=>?_⟩
  ·rw[if_pos G]at A;refine wS ?_;exact⟨by rw[A],trivial⟩
  rw[if_neg (by rw[G];exact aS)]at A;refine wS ?_;refine⟨i+1,⟨by omega,A⟩,by show l.length-(i+1)+0<l.length-i+0;omega,?_⟩;exact ZF
 simp only[decide_eq_false_iff_not]at H;rw[bB (by omega),Zt]at A;refine wS ?_;exact⟨by rw[A],trivial⟩
theorem Qp {f:Nat->Int}:∀ {k i:Nat},Zm f i k=0->∀j,i<=j->j<i+k->f j=0
 |0,i,_,j,h1,h2=>by omega
 |k+1,i,h,j,h1,h2=>by
  unfold Zm at h;split at h
  ·rename_i G;exact absurd h G
  rename_i A;have A:f i=0:=bQ A;by_cases hj:j=i
  ·subst hj;exact A
  exact Qp h j (by omega) (by omega)
structure Zra (zones:Int) (s:Stop):Prop where
 station:0<=s.station/\s.station<=9
 zone:0<=s.zone/\s.zone<zones
 arrive:0<=s.arrive/\s.arrive<=4319
 depart:0<=s.depart/\s.depart<=4319
structure ZdW (zones:Int) (t:Train):Prop where
 number:1<=t.number/\t.number<=999
 days:1<=t.days/\t.days<=127
 len:2<=t.stops.length/\t.stops.length<=4
 stops:∀s∈t.stops,Zra zones s
structure Zl9 (b:Xs):Prop where
 zlen:1<=b.zones.length/\b.zones.length<=3
 zones:∀z∈b.zones,Zw z=0
 olen:b.old.length<=4
 nlen:b.new.length<=4
 old:∀t∈b.old,ZdW b.zones.length t
 new:∀t∈b.new,ZdW b.zones.length t
 last:0<=b.last/\b.last<=13
 night:0<=b.night/\b.night<=b.last+1
theorem Zay {n a b:Int} (h:YV n a b=true):a<=n/\n<=b:=by simpa [YV]using h
theorem Zdc {n a b:Int} (h:ZO n a b=0):a<=n/\n<=b:=by
 unfold ZO at h;split at h
 ·cases h
 split at h
 ·cases h
 omega
theorem Zsd {zones:Int} {l:List Stop} {i:Nat} (h:Xg zones l i=0):Zra zones (l.getD i default):=by
 unfold Xg Je at h;split at h
 ·cases h
 rename_i H;split at h
 ·cases h
 split at h
 ·cases h
 rename_i G;split at h
 ·cases h
 rename_i A;simp only[cG,fK,dC,not_or]at H G A;have J:=Zay H;have U:=Zay G;have S:=Zay A.1;have I:=Zay A.2;exact⟨J,by omega,S,I⟩
theorem J1 {α:Type} {d:α} {l:List α} {x:α} (h:x∈l):∃i,i<l.length/\l.getD i d=x:=by
 obtain⟨i,A,rfl⟩:=List.mem_iff_getElem.1 h;exact⟨i,A,by rw[aA,aD A];rfl⟩
theorem Zht {zones:Int} {l:List Train} (h:Qf zones l=0):l.length<=4/\∀t∈l,ZdW zones t:=by
 unfold Qf at h;split at h
 ·rename_i A;exact absurd h A
 rename_i G;have G:=Zdc (bQ G);refine⟨by omega,fun t U=>?_⟩;obtain⟨i,V,rfl⟩:=J1 (d:=default) U;have h:=Qp h i (by omega) (by omega);unfold QU at h;split at h
 ·cases h
 rename_i J;split at h
 ·cases h
 split at h
 ·cases h
 rename_i I;split at h
 ·rename_i A;exact absurd h A
 rename_i H;have H:=Zdc (bQ H);simp only[cG,fK]at J I;refine⟨Zay J,Zay I,by omega,fun s S=>?_⟩;obtain⟨j,Y,rfl⟩:=J1 (d:=default) S;exact Zsd (Qp h j (by omega) (by omega))
theorem ZcH {b:Xs} (h:Yx b=0):Zl9 b:=by
 unfold Yx at h;split at h
 ·rename_i A;exact absurd h A
 rename_i S;split at h
 ·rename_i A;exact absurd h A
 rename_i I;split at h
 ·rename_i A;exact absurd h A
 rename_i G;split at h
 ·rename_i A;exact absurd h A
 rename_i H;split at h
 ·cases h
 rename_i J;have S:=Zdc (bQ S);have I:=Qp (bQ I);have G:=Zht (bQ G);have H:=Zht (bQ H);simp only[cG,fK,dC,not_or]at J;refine⟨by omega,fun z U=>?_,G.1,H.1,G.2,H.2,Zay J.1,Zay J.2⟩;obtain⟨j,V,rfl⟩:=J1 (d:=default) U;exact I j (by omega) (by omega)
theorem ZfN {b:Xs} (h:Zl9 b) (day:Int):(Xt b day).length<=4/\∀t∈Xt b day,ZdW b.zones.length t:=by
 unfold Xt;split
 ·exact⟨h.olen,h.old⟩
 exact⟨h.nlen,h.new⟩
theorem XL {α:Type} {q:α->Bool}:∀ {l:List α} {i:Int},0<=i->Zt q i l<i+l.length/\(Zt q i l=-1\/i<=Zt q i l)
 |[],i,h=>by simp[Zt];omega
 |a::l,i,h=>by
  simp only[Zt];split
  ·simp;omega
  have:=XL (q:=q) (l:=l) (i:=i+1) (by omega);simp only[bF];omega
theorem c26 (b:Xs) (n day:Int) (hf:Xe b):SC (fun _=>aB) 93 [Zd b,.int .i64 fun _=>n,.int .i64 fun _=>day] [] fun v h=>v= .tup [lst 3 XM default (Run b n day).1,.int .i64 fun _=>(Run b n day).2]/\h=[]:=by
 obtain⟨I,O⟩:=Zo;refine SC.less (QN Tryz.func93 (body:=Zj Tryz.f93) rfl (by decide+kernel) ?_);unfold Zd Run;simp only[Za O];refine wS ?_;refine ZcQ (c28 b hf) ?_;have S:=fun h=>ZcH (b:=b) h;generalize Yx b=e at*;refine vS ?_;refine⟨fun A=>?_,fun A=>?_⟩
 ·simp only[bne_iff_ne,ne_eq]at A;rw[if_pos A];refine wS ?_;refine⟨_,[],?_,rfl,rfl⟩;exact ZF
 simp only[bne_eq_false_iff_eq]at A;have G:=S A;subst A;rw[if_neg (fun h=>h rfl)];refine wS ?_;refine ZcQ (c67 day 0 b.last) ?_;refine vS ?_;refine⟨fun A=>?_,fun A=>?_⟩
 ·rw[if_pos A];refine wS ?_;refine⟨_,[],?_,rfl,rfl⟩;exact ZF
 rw[if_neg (by rw[A];exact aS)];have ab:=Zay (by simpa using A:YV day 0 b.last=true);have Y:=G.last;have J:=ZfN G day;refine wS ?_;refine ZcQ (c73 b day) ?_;generalize Xt b day=l at*;refine wS ?_;refine ZcQ (c75 n) ?_;refine wS ?_;refine ZcQ (c74 l n (by omega)) ?_;have ac:place l n<l.length/\(place l n=-1\/0<=place l n):=by have:=XL (q:=fun t:Train=>decide (t.number=n)) (l:=l) (i:=0) (by omega);unfold place;omega
 generalize place l n=p at*;refine vS ?_;refine⟨fun A=>?_,fun A=>?_⟩
 ·simp only[decide_eq_true_eq]at A;rw[if_pos A];refine wS ?_;refine⟨_,[],?_,rfl,rfl⟩;exact ZF
 simp only[decide_eq_false_iff_not]at A;rw[if_neg A];refine wS ?_;obtain⟨k,rfl⟩:∃k:Nat,p=k:=⟨p.toNat,by omega⟩;have H:=J.2 _ (Qu (d:=default) O (l:=l) (i:=k) (by omega));have U:l.getD (k:Int).toNat default=I Train default l k:=by rw[O]
 rw[U];refine wS ?_;have V:=H.days;refine ZcQ (c76 (I Train default l k) day (by omega) (by omega)) ?_;refine vS ?_;refine⟨fun A=>?_,fun A=>?_⟩
 ·rw[if_pos A];refine wS ?_;refine⟨_,[],?_,rfl,rfl⟩;exact ZF
 rw[if_neg (by rw[A];exact aS)];refine wS ?_;have aa:=H.len;refine ZcQ (c77 b (I Train default l k) day G.zones (fun s Z=>by obtain⟨_,h1,h2,h3⟩:=H.stops s Z;omega) (by omega) (by omega)) ?_;unfold Zsn;generalize calls b.zones (I Train default l k) day=C at*;refine wS ?_;refine⟨_,[],?_,rfl,rfl⟩;simp only[YE O];exact ZF
end Vm
namespace Vm
open Go Go.Proofs Sp
open Go.ChangeShapes Go.WideShapes Go.ChangeAt Go.RowKit
section
variable {H:Type} {he:TypeId×Value->H} {P:Program} {w:World}
def Opn (G:TypeId×Value->H) (P:Program) (w:World) (t:TypeId) (s:Nat) {α:Type} (enc:α->List AV) (Q:α->Prop):Prop:=
 ∀(A:Nat) (cs:List Value) (x:DataW H×List MemPlace),DataW.trod G P w 0 (fun _=>true) true A t cs=some x->
  cs.length=s/\∃a,Q a/\(enc a).length=s/\∀(j:Nat) (c:AV),(enc a)[j]? =some c->PR w (fun b _ _=>b<w.heap.size) c (cs.getD j undef)
theorem Zsu {t:TypeId} (G:P.underlying t=some (.int .i64)):Opn he P w t 1 (fun n:Int=>[.int .i64 fun _=>n]) (fun n=>-9223372036854775808<=n/\n<=9223372036854775807):=fun H cs x h=>by
 obtain⟨n,rfl,_,hw⟩:=DataW.trod_int G h;refine⟨rfl,n,bounds_i64 hw,rfl,fun j c A=>?_⟩;cases j with
 |zero=>simp only[bJ,aC]at A;subst A;exact .int .i64 _
 |succ j=>simp at A
theorem Zs1 {w:World} {b o:Nat} {v:Value} (h:w.cell? ⟨b,o,none⟩=some v):b<w.heap.size:=by
 by_cases hb:b<w.heap.size
 ·exact hb
 rw[World.cell?,Array.getElem?_eq_none (Nat.le_of_not_lt hb)]at h;cases h
theorem Ye {t e:TypeId} {s:Nat} {α:Type} [Inhabited α] {enc:α->List AV} {Q:α->Prop} {d:α} (ht:P.underlying t=some (.slice e)) (hs:P.cellsOf e=s) (h0:0<s) (hE:Opn he P w e s enc Q):
  Opn he P w t 1 (fun l:List α=>[lst s enc d l]) (fun l=>(∀a∈l,Q a)/\(l.length:Int)<=9223372036854775807):=fun al cs x h=>by
 have one:∀(l:List α) (v:Value),PR w (fun b _ _=>b<w.heap.size) (lst s enc d l) v->∀(j:Nat) (c:AV),[lst s enc d l][j]? =some c->PR w (fun b _ _=>b<w.heap.size) c ([v].getD j undef):=fun l v hp j c G=>by
  cases j with
  |zero=>simp only[bJ,aC]at G;subst G;exact hp
  |succ j=>simp at G
 rcases Go.Deep.open_slice ht h with⟨rfl,_⟩|⟨a,len,aj,m,n,D,Pl,rfl,hb,hl,hm,S,_,hx⟩
 ·exact⟨rfl,[],⟨by simp,by simp⟩,rfl,one _ _ (.isl0 _ _ _ _ rfl rfl)⟩
 have S:m=aj:=by rw[S];rfl
 subst S;rcases cI m with I|I
 ·have ak:len=0:=by omega
  subst I ak;exact⟨rfl,[],⟨by simp,by simp⟩,rfl,one _ _ (.islE _ _ _ _ a rfl (.inl rfl))⟩
 rw[hs]at hx;obtain⟨b,o,ac⟩:=a;have U:ac=none:=by
  obtain⟨ae,Y,_⟩:=hx 0 I;obtain⟨_,aa,hc⟩:=World.cells?_some Y;have:=hc 0 h0;rw[aD (by omega)]at this;simpa [Addr.add]using World.cell?_spot this
 subst U;have V:∀i,i<m->∃a,Q a/\(enc a).length=s/\∀(j:Nat) (c:AV),(enc a)[j]? =some c->∃v,w.cell? ⟨b,o+i*s+j,none⟩=some v/\PR w (fun b _ _=>b<w.heap.size) c v:=fun i H=>by
  obtain⟨ae,Y,h2⟩:=hx i H;obtain⟨_,aa,hc⟩:=World.cells?_some Y;obtain⟨_,a,g1,g2,g3⟩:=hE _ _ _ h2;refine⟨a,g1,g2,fun j c G=>?_⟩;have ai:j<s:=by rw[<-g2];exact(aE.1 G).1
  have Z:=hc j ai;rw[Go.WideShapes.add_plain,Go.WideShapes.add_plain,aD (by omega)]at Z;refine⟨_,Z,?_⟩;have:=g3 j c G;rw[aA,aD (by omega)]at this;exact this
 obtain⟨A,J⟩:=Go.Deep.choose_lt V;have ah:b<w.heap.size:=by
  obtain⟨Y,h2,h3⟩:=J 0 I;obtain⟨v,hv,_⟩:=h3 0 _ (aD (by omega));exact Zs1 hv
 have hg:∀i,i<len->((aR len).map A).getD i d=A i:=fun i H=>by
  rw[aA];simp[H]
 have ab:(len:Int)<=9223372036854775807:=by unfold maxLen at hm;omega
 refine⟨rfl,(aR len).map A,⟨fun y hy=>?_,by simpa using ab⟩,rfl,one _ _ ?_⟩
 ·obtain⟨i,H,rfl⟩:=List.mem_map.1 hy;exact(J i (by have:=List.mem_range.1 H;omega)).1
 refine .isl _ _ _ _ b o len m (fun i j=>(w.cell? ⟨b,o+i*s+j,none⟩).getD undef) (by simp) hl (.inl rfl) (fun e=>by cases e) (fun i H=>?_) (fun i j c H G=>?_) (fun i j c H G=>?_) ah
 ·unfold Zb9;simp only[aV,hg i H];exact(J i (by omega)).2.1
 ·unfold Zb9 at G;simp only[aV,hg i H]at G;obtain⟨v,hv,_⟩:=(J i (by omega)).2.2 j c G;rw[hv];rfl
 unfold Zb9 at G;simp only[aV,hg i H]at G;obtain⟨v,hv,hp⟩:=(J i (by omega)).2.2 j c G;rw[hv];exact hp
def Zdk (A:TypeId×Value->H) (P:Program) (w:World) (f:Field) (o:Nat) {α:Type} (v:α->AV) (Q:α->Prop):Prop:=f.offset=o/\P.cellsOf f.type=1/\Opn A P w f.type 1 (fun a=>[v a]) Q
theorem Qw {A:Array Field} {m:Nat} {cs:List Value} {xs:List (DataW H×List MemPlace)} {i:Nat} {f:Field} {o:Nat} {α:Type} {v:α->AV} {Q:α->Prop} (I:A[i]? =some f) (Y:Zdk he P w f o v Q)
  (hx:∀(i:Nat) (f:Field),A[i]? =some f->DataW.trod he P w 0 (fun _=>true) true m f.type ((cs.drop f.offset).take (P.cellsOf f.type))=xs[i]?) (J:xs.length=A.size):∃a,Q a/\PR w (fun b _ _=>b<w.heap.size) (v a) (cs.getD o undef):=by
 obtain⟨h1,Z,U⟩:=Y;have G:=hx i f I;have V:i<xs.length:=by rw[J];exact(aM.1 I).1
 rw[aD V,h1,Z]at G;obtain⟨h5,a,h6,_,S⟩:=U _ _ _ G;refine⟨a,h6,?_⟩;have:=S 0 _ rfl;have e:((cs.drop o).take 1).getD 0 undef=cs.getD o undef:=by
  simp[aA,cZ,cY]
 rw[e]at this;exact this
theorem QB {w:World} {G:AV} {l:List AV} {cs:List Value} {k:Nat} (H:PR w (fun b _ _=>b<w.heap.size) G (cs.getD k undef)) (I:∀(j:Nat) (c:AV),l[j]? =some c->PR w (fun b _ _=>b<w.heap.size) c (cs.getD (k+1+j) undef)):
  ∀(j:Nat) (c:AV),(G::l)[j]? =some c->PR w (fun b _ _=>b<w.heap.size) c (cs.getD (k+j) undef):=fun j c A=>by
 cases j with
 |zero=>simp only[bJ,aC]at A;subst A;exact H
 |succ j=>rw[show k+(j+1)=k+1+j by omega];exact I j c (by simpa using A)
theorem ZcG {w:World} {cs:List Value} {k:Nat}:∀(j:Nat) (c:AV),([]:List AV)[j]? =some c->PR w (fun b _ _=>b<w.heap.size) c (cs.getD (k+j) undef):=fun j c A=>by simp at A
end
section
variable {H:Type} {he:TypeId×Value->H} {w:World}
def I64 (n:Int):Prop:=-9223372036854775808<=n/\n<=9223372036854775807
theorem Zp8 {P:Program} {t:TypeId} {f0 V:Field} {α I:Type} {S:α->AV} {J:I->AV} {Q0:α->Prop} {Z:I->Prop} {U:Type} {enc:U->List AV} (mk:α->I->U) (ht:P.underlying t=some (.struct #[f0,V])) (hc:P.cellsOf t=2)
  (h0:Zdk he P w f0 0 S Q0) (h1:Zdk he P w V 1 J Z) (G:∀a b,enc (mk a b)=[S a,J b]):Opn he P w t 2 enc (fun z=>∃a b,z=mk a b/\Q0 a/\Z b):=fun aa cs x h=>by
 obtain⟨xs,m,_,_,H,A,Y⟩:=DataW.trod_struct ht h;obtain⟨a,qa,pa⟩:=Qw (i:=0) rfl h0 Y A;obtain⟨b,qb,pb⟩:=Qw (i:=1) rfl h1 Y A;refine⟨H.trans hc,mk a b,⟨a,b,rfl,qa,qb⟩,by rw[G];rfl,?_⟩;rw[G];have:=QB (k:=0) pa (QB (k:=1) pb ZcG);simpa using this
theorem Opn.mono {P:Program} {t:TypeId} {s:Nat} {α:Type} {enc:α->List AV} {Q Q':α->Prop} (h:Opn he P w t s enc Q) (G:∀a,Q a->Q' a):Opn he P w t s enc Q':=fun A cs x J=>by
 obtain⟨S,a,I,H⟩:=h A cs x J;exact⟨S,a,G a I,H⟩
theorem Zi7 {P:Program} {t:TypeId} {s:Nat} {Z:Array Field} {α:Type} {enc:α->List AV} {Q:α->Prop} (G:P.underlying t=some (.struct Z)) (hO:Opn he P w t s enc Q) {base:Nat} {v:Value} {d:DataW H} {p:List MemPlace} (hv:Value.okWide P w .any base t v) (U:DataW.Trod he P w 0 (fun _=>true) true t v d p):
  ∃a,Q a/\VR (R0 w) (.agg (enc a)) v:=by
 obtain⟨cs,rfl,_⟩:=okWide_struct G hv;obtain⟨J,Y⟩:=U;obtain⟨A,a,S,h3,V⟩:=hO _ _ _ Y;have A:cs.size=s:=by simpa [Value.cells]using A
 refine⟨a,S,.agg _ _ (by omega) fun j c I=>?_⟩;have:=V j c I;refine .pure _ _ (show PR w (fun b _ _=>b<w.heap.size) c _ from ?_);simpa [Value.cells,aI,aA]using this
theorem ZmQ {P:Program} {t:TypeId} {α:Type} {x:α->AV} {Q:α->Prop} (V:Opn he P w t 1 (fun a=>[x a]) Q) {v:Value} {d:DataW H} {p:List MemPlace} (A:v.cells= #[v]) (J:DataW.Trod he P w 0 (fun _=>true) true t v d p):
  ∃a,Q a/\VR (R0 w) (x a) v:=by
 obtain⟨G,U⟩:=J;obtain⟨_,a,I,_,S⟩:=V _ _ _ U;refine⟨a,I,.pure _ _ ?_⟩;have:=S 0 _ rfl;rw[A]at this;exact this
theorem Zkp {P:Program} {r:Reach} {base:Nat} {t e:TypeId} {v:Value} (A:P.underlying t=some (.slice e)) (h:Value.okWide P w r base t v):v.cells= #[v]:=by
 obtain⟨a,l,c,rfl⟩:=okWide_slice A h;rfl
theorem ZnU {P:Program} {r:Reach} {base:Nat} {t:TypeId} {k:IntKind} {v:Value} (A:P.underlying t=some (.int k)) (h:Value.okWide P w r base t v):v.cells= #[v]:=by
 obtain⟨n,rfl⟩:=okWide_int A h;rfl
theorem ZpX {R:RC}:X0 R [] #[]:=⟨rfl,fun j c h=>by simp at h⟩
theorem ZaL {R:RC} {c:AV} {l:List AV} {v:Value} {vs:List Value} (H:VR R c v) (G:X0 R l vs.toArray):X0 R (c::l) (v::vs).toArray:=by
 refine⟨by have:=G.1;simp at this|-;exact this,fun j d A=>?_⟩;cases j with
 |zero=>simp only[bJ,aC]at A;subst A;exact H
 |succ j=>
  have:=G.2 j d (by simpa using A);simpa [aI]using this
def Zw3 (c:Chg):Prop:=I64 c.at_/\I64 c.by_
def ZwT (z:Zone):Prop:=I64 z.base/\(∀c∈z.chs,Zw3 c)/\(z.chs.length:Int)<=9223372036854775807
theorem on:Opn he aB w 3 1 (fun n:Int=>[.int .i64 fun _=>n]) I64:=Zsu Tryz.underlying3
theorem ol:Opn he aB w 33 1 (fun l:List Int=>[lst 1 Q9 0 l]) (fun l=>(l.length:Int)<=9223372036854775807):=(Ye (d:=0) Tryz.underlying33 (by decide+kernel) (by decide) on).mono fun _ h=>h.2
theorem oc:Opn he aB w 199 2 ZaC Zw3:=(Zp8 (enc:=ZaC) Chg.mk Tryz.underlying199 (by decide+kernel) ⟨rfl,by decide+kernel,on⟩ ⟨rfl,by decide+kernel,on⟩ fun _ _=>rfl).mono fun _ ⟨_,_,e,G,A⟩=>by subst e;exact⟨G,A⟩
theorem oz:Opn he aB w 113 2 encZone ZwT:=(Zp8 (enc:=encZone) Zone.mk Tryz.underlying113 (by decide+kernel) ⟨rfl,by decide+kernel,on⟩ ⟨rfl,by decide+kernel,Ye (d:=default) Tryz.underlying111 (by decide+kernel) (by decide) oc⟩ fun _ _=>rfl).mono fun _ ⟨_,_,e,G,A⟩=>by subst e;exact⟨G,A⟩
end
end Vm
namespace Sp
structure Z4 where
 number:Int
 day:Int
deriving DecidableEq,Inhabited
structure QV where
 feeder:Int
 train:Int
 station:Int
 minutes:Int
deriving DecidableEq,Inhabited
structure ZP where
 run:Int
 leg:Int
 by_:List Int
deriving DecidableEq,Inhabited
structure Zb where
 book:Xs
 runs:List Z4
 waits:List QV
 delays:List ZP
deriving Inhabited
structure Step where
 run:Int
 from_:Int
 to_:Int
deriving DecidableEq,Inhabited
structure ZI where
 from_:Int
 since:Int
 goal:Int
 steps:List Step
deriving DecidableEq,Inhabited
def ZM (l:List Call) (f st:Int):Int:=Zt (fun c=>decide (c.station=st)) (max 0 f) (l.drop (max 0 f).toNat)
def ZA (l:List Call) (st:Int):Int:=ZM l 1 st
def ZN (l:List Call) (st:Int):Int:=if ZM l 0 st<(l.length:Int)-1 then ZM l 0 st else-1
def QG (n lo hi:Int):Bool:= !YV n lo hi
def Zft (A no:Int):Int:=if no=0 then 1 else if A=0 then 2 else 3
def YB (l:List Call) (k:Nat):Int:=if(l.getD k default).arrive<=(l.getD (k-1) default).depart then 5 else 0
def Q8 (l:List Call):Int:=Zm (YB l) 1 (l.length-1)
def Yt (t:Zb) (r:Z4):List Call:=(Run t.book r.number r.day).1
def Jy (t:Zb) (i:Nat):Int:=
 if(Run t.book (t.runs.getD i default).number (t.runs.getD i default).day).2≠0 then(Run t.book (t.runs.getD i default).number (t.runs.getD i default).day).2
 else if Q8 (Yt t (t.runs.getD i default))≠0 then 5
 else if(t.runs.take i).any (fun x=>decide (x=t.runs.getD i default))then 4 else 0
def QQ (t:Zb):Int:=if t.runs.length=0 then 7 else if 4<t.runs.length then 6 else Zm (Jy t) 0 t.runs.length
def callsOf (t:Zb):List (List Call):=t.runs.map (Yt t)
def Qd (c:List (List Call)) (w:QV) (A:List QV):Int:=
 if QG w.feeder 0 (c.length-1)||QG w.train 0 (c.length-1)then 3
 else if w.feeder=w.train then 4
 else if ZA (c.getD w.feeder.toNat []) w.station<0\/ZN (c.getD w.train.toNat []) w.station<0 then 3
 else if QG w.minutes 0 60 then 1
 else if((c.getD w.train.toNat []).getD (ZN (c.getD w.train.toNat []) w.station).toNat default).depart<((c.getD w.feeder.toNat []).getD (ZA (c.getD w.feeder.toNat []) w.station).toNat default).arrive then 5
 else if A.any (fun x=>decide (x.feeder=w.feeder/\x.train=w.train/\x.station=w.station))then 4 else 0
def ZeB (l:List Int) (k:Nat):Int:=if QG (l.getD k 0) 0 240 then 1 else if 0<k/\l.getD k 0<=l.getD (k-1) 0 then 5 else 0
def Qm (c:List (List Call)) (d:ZP) (A:List ZP):Int:=
 if QG d.run 0 (c.length-1)||QG d.leg 0 ((c.getD d.run.toNat []).length-2)then 3
 else if d.by_.length=0 then 7
 else if 3<d.by_.length then 6
 else if Zm (ZeB d.by_) 0 d.by_.length≠0 then Zm (ZeB d.by_) 0 d.by_.length
 else if A.any (fun x=>decide (x.run=d.run/\x.leg=d.leg))then 4 else 0
def Zr (t:Zb):Int:=
 if Sp.Yx t.book≠0 then Sp.Yx t.book
 else if QQ t≠0 then QQ t
 else if 4<t.waits.length then 6
 else if Zm (fun i=>Qd (callsOf t) (t.waits.getD i default) (t.waits.take i)) 0 t.waits.length≠0 then Zm (fun i=>Qd (callsOf t) (t.waits.getD i default) (t.waits.take i)) 0 t.waits.length
 else if 6<t.delays.length then 6
 else Zm (fun i=>Qm (callsOf t) (t.delays.getD i default) (t.delays.take i)) 0 t.delays.length
end Sp
namespace Vm
open Go Go.Proofs Conc1
section
variable {T:Tb} {p:Unit->Program} {P:Program}
theorem YC.ofG (hT:T.Of (p ())) (hm:(p ()).follows .mixedOrders=true) (ai:T.fl=false) (au:T.rd=true) {id:Nat} {xs:List AV} {h:List Zh} {J:AV->List Zh->Prop} {s:List AV} {d:Zh6} {n m:Nat} {D:List AV->List Zh->Prop} (hD:∀s aa,D s aa->W T p (ZsT h.length id J) m [.code d.x] s aa []) (hi:h[id]? =some (.loop s d)) (ap:xs.length=d.ps.size)
  (hW:W T p (Zvo D id) n [.code d.a] (ZeZ d.ps.toList xs s) h []) (hz:zOk h=true:=by rfl):YC p id xs h J:=by
 have bc:∀e s U c,ZsT h.length id J e s U c->ZT c:=fun e s U c hk=>by cases e<;>exact(Z5 hk).1
 have bh:∀e s U c,Zvo D id e s U c->ZT c:=fun e s U c hk=>by
  cases e with
  |normal=>exact(Z5 hk).1
  |_=>exact hk.elim
 refine YC.ofN hz fun G R Y H aq ha=>?_;obtain⟨ae,a9⟩:=ha;obtain⟨l,b1,b2,b3,b4,b5,b6,b7,_⟩:=H.loopSet hi;have ah:id<R.m:=H.len▸(aE.1 hi).1;have az:Y.size=l.params.size:=by rw[b2,<-ap,ae]
 refine⟨_,_,_,_,run_yield b1 az,fun c cs=>?_⟩;let b:FBr T.rd:=⟨⟨l.fn,false,some (R.α id).b,[]⟩,fun hf=>by rw[au]at hf;cases hf⟩;have ba:SL R (ZeZ d.ps.toList xs s) ((l.params.zip Y).foldl (fun A (t,a)=>A.setIfInBounds t a) l.tmps):=by
  rw[<-Array.foldl_toList,Array.toList_zip,b2]
  exact ZjD _ _ _ (by rw[ae];simp) (fun j c V=>by
   have:=a9 j c V;rw[aI]at this;rw[aA,Array.getElem?_toList]
   exact this) b7
 obtain⟨e,s1,h1,R1,t1,bu,⟨c1,I⟩,i1,aw,d1,ac,A1⟩:=(Zl6 (R₀:=R) (h₀:=h) hT hm (fun h=>by rw[ai]at h;cases h) bh n _ _ h [] hW).2 R _ (Inv.refl H (by rw[aq];exact aJ _)) ba b [] [.beginRound,.code d.x] (c::cs) ⟨[],rfl,List.nodup_nil,fun r hr=>by cases hr⟩;have x1:=i1.ext;have l1:=i1.le;cases e with
 |exit _=>exact I.elim
 |ret=>exact I.elim
 |normal=>
 have ac:=ac (by simp[b]);subst ac;obtain⟨_,I⟩:=Z5 I;split at I;case h_2=>exact I.elim
 rename_i s2 d2 ar;obtain⟨l2,e1,e2,e3,e4,e5,e6,e7,e8⟩:=i1.hr.loopSet ar;have al:R1.α id=R.α id:=x1.α id ah;split at I;case h_2=>exact I.elim
 rename_i Z;obtain⟨R2,w2,bo,H2,x2,S⟩:=e8 .busy d2.pe;have aj:(Instr.beginRound (R.α id).b).run (p ()) R1.w= .ok () R2.w:=by
  rw[w2,<-al,<-e6];exact run_beginRound e1 (e5.trans Z)
 have i2:Inv R h R2 (h1.set id (.loop s2 {d2 with st:=.busy})):=i1.step H2 x2 S;obtain⟨e,s3,h3,R3,t3,bw,⟨c3,ab⟩,i3,bq,d3,bp,A3⟩:=(Zl6 (R₀:=R) (h₀:=h) hT hm (fun h=>by rw[ai]at h;cases h) bc m _ _ _ [] (hD _ _ I)).2 R2 _ i2 (aw.mono S) b [] [] (c::cs) (d1.ext i1.hr x2);have bk:Steps (p ()) R.cx (ZH (Frame.round (R.α id).b l.fn ((l.params.zip Y).foldl (fun A (t,a)=>A.setIfInBounds t a) l.tmps) l.assign l.body .normal) (c::cs) R.w) (ZH (mkF b.1 t1 [] [.code d.x]) (c::cs) R2.w):=by
  have bg:Frame.round (R.α id).b l.fn ((l.params.zip Y).foldl (fun A (t,a)=>A.setIfInBounds t a) l.tmps) l.assign l.body .normal=mkF b.1 ((l.params.zip Y).foldl (fun A (t,a)=>A.setIfInBounds t a) l.tmps) [] ([.code d.a]++[.beginRound,.code d.x]):=by
   rw[<-b3,<-b4];rfl
  rw[bg];exact Steps.trans A1 (.one (Zhb rfl aj))
 have fin:∀(j:Option Code),Zkf h.length id j J h3->(∀v w',(Instr.endRound (R.α id).b j).run (p ()) R3.w= .ok v w'->Steps (p ()) R.cx (ZH (mkF b.1 t1 [] [.code d.x]) (c::cs) R2.w) (ZH (c.finish v) cs w'))->
   ∃v R' r U,Steps (p ()) R.cx (ZH (Frame.round (R.α id).b l.fn ((l.params.zip Y).foldl (fun A (t,a)=>A.setIfInBounds t a) l.tmps) l.assign l.body .normal) (c::cs) R.w) (ZH (c.finish v) cs R'.w)/\HR G R' U/\Xd R h R' U/\R.le R'/\VR R' r v/\J r U:=fun j V Z=>by
  unfold Zkf at V;split at V;case h_2=>exact V.elim
  rename_i s4 d4 bl;obtain⟨l4,f1,f2,f3,f4,f5,f6,f7,f8⟩:=i3.hr.loopSet bl;obtain⟨R4,w4,bt,H4,x4,ao⟩:=f8 (if j.isNone then .ready else .done) j;have am:R3.α id=R.α id:=i3.ext.α id ah;have ak:(Instr.endRound (R.α id).b j).run (p ()) R3.w= .ok (.bool j.isNone) R4.w:=by
   rw[w4,<-am];exact run_endRound j f1
  have i4:=i3.step H4 x4 ao;obtain⟨R5,w5,H5,x5,l5,_⟩:=i4.leave H (Zaj h.length (aJ _) (by rw[H.len,i4.hr.len];exact i4.le.m));exact⟨_,R5,.bool fun _=>j.isNone,_,by rw[w5];exact Steps.trans bk (Z _ _ ak),H5,x5,l5,.pure _ _ (.bool _),V⟩
 cases e with
 |normal=>
  exact fin none (Z5 ab).2 fun v w' hr=>Steps.trans (Ys (l1.trans S) A3) (.one (ZfP rfl rfl (.inl ⟨rfl,rfl⟩) hr))
 |exit i=>
  obtain⟨bx,q1,q2⟩:=A3;exact fin (some (.exit i)) (Z5 ab).2 fun v w' hr=>Steps.trans (Ys (l1.trans S) q2) (.one (ZfP rfl rfl (.inr (.inr ⟨i,_,rfl,rfl,by rw[q1];rfl⟩)) hr))
 |ret=>
  obtain⟨bm,q2⟩:=A3;exact fin (some .ret) (Z5 ab).2 fun v w' hr=>Steps.trans (Ys (l1.trans S) q2) (.one (ZfP rfl rfl (.inr (.inl ⟨rfl,_,rfl⟩)) hr))
end
def tbR (kp rs:Bool) (cs:List Nat):Tb:={tb with kp,rs,cuts:=cs,rd:=true}
theorem hTR (kp rs:Bool) (cs:List Nat):(tbR kp rs cs).Of ((fun _=>aB:Unit->Program) ()):=⟨Zba,Za9,Zbb⟩
theorem Zc3 (kp rs:Bool) (cs:List Nat) {id:Nat} {xs:List AV} {h:List Zh} {G:AV->List Zh->Prop} {s:List AV} {d:Zh6} (hi:h[id]? =some (.loop s d)) (H:xs.length=d.ps.size)
  (hW:Dn (tbR kp rs cs) (fun _=>aB) (Zvo (fun s A=>Dn (tbR kp rs cs) (fun _=>aB) (ZsT h.length id G) 100 .none [.code d.x] s A []) id) 20 .none [.code d.a] (ZeZ d.ps.toList xs s) h []) (I:zOk h=true:=by rfl):YC (fun _=>aB) id xs h G:=
 YC.ofG (T:=tbR kp rs cs) (m:=100*4000) (n:=20*4000) (D:=fun s A=>Dn (tbR kp rs cs) (fun _=>aB) (ZsT h.length id G) 100 .none [.code d.x] s A []) (hTR kp rs cs) hm rfl rfl (fun s A J=>Zg7 100 .none _ _ _ _ J) hi H (Zg7 20 .none _ _ _ _ hW) I
theorem Zp1 {f:Operand} {ps:Array Tmp} {a x:Code} {Q:Ex->List AV->List Zh->Prop} {s:List AV} {h:List Zh} {fid:FuncId} {first cap:List AV} (G:strip (ev s f)= .fn fid first cap) (I:ZT (Zas (ev s f)))
  (H:SC (fun _=>aB) fid (first++[.yld h.length]++cap) (h++[.loop s ⟨ps,a,x,.ready,none⟩]) fun _ A=>Zai Q s h.length A):CB (fun _=>aB) (.rangeFunc f ps a x) Q s h:=CB.of G I H
theorem YC.less {p:Unit->Program} {id:Nat} {xs:List AV} {h:List Zh} {J:AV->List Zh->Prop} (H:YC p id xs h fun r Y=>∃A I,To [r] Y [A] I/\J A I):YC p id xs h J:=
 ⟨fun G R vs hr ha=>let ⟨f,tmps,a,x,h1,h2⟩:=H.run G R vs hr ha;⟨f,tmps,a,x,h1,fun c cs=>by
  obtain⟨v,R',r,Y,b1,b3,b4,b5,b6,A,I,U,b7⟩:=h2 c cs
  obtain⟨V,c1,c2,c3,Z,c5⟩:=U G R' #[v] b3 ⟨rfl,fun i a S=>by
   cases i with
   |zero=>simp at S;subst S;exact b6
   |succ i=>simp at S⟩
  exact⟨v,V,A,I,by rw[c1];exact b1,c2,b4.trans c3,b5.trans Z,c5.2 0 A rfl,b7⟩⟩⟩
theorem Zf4 {f:Operand} {ps:Array Tmp} {a x:Code} {Q:Ex->List AV->List Zh->Prop} {s:List AV} {h:List Zh} (L:List Nat) (ex:List Zh) (A:List (Nat×Zh)) {fid:FuncId} {first cap:List AV}
  (G:To s h (Vm.keep L s) (Ym (h++ex) A)) (S:strip (ev (Vm.keep L s) f)= .fn fid first cap) (I:ZT (Zas (ev (Vm.keep L s) f)))
  (H:SC (fun _=>aB) fid (first++[.yld (Ym (h++ex) A).length]++cap) (Ym (h++ex) A++[.loop (Vm.keep L s) ⟨ps,a,x,.ready,none⟩]) fun _ J=>Zai Q (Vm.keep L s) (Ym (h++ex) A).length J):CB (fun _=>aB) (.rangeFunc f ps a x) Q s h:=CB.to G (CB.of S I H)
theorem Zui (kp rs:Bool) (cs:List Nat) {x:Code} {Q:Ex->List AV->List Zh->Prop} {s:List AV} {h:List Zh} {ι:Type} (L:List Nat) (ex:List Zh) (ch:ι->List (Nat×AV)) (A:ι->List (Nat×Zh)) (inv:ι->Prop) (H:ι->Nat) (i:ι)
  (hi:inv i) (G:To (Vm.keep L s) h (Y9 (Vm.keep L s) (ch i)) (Ym (h++ex) (A i)))
  (step:∀i,inv i->Dn (tbR kp rs cs) (fun _=>aB) (Zfq L (fun i=>Y9 (Vm.keep L s) (ch i)) (fun i=>Ym (h++ex) (A i)) inv H i (h++ex).length Q) 100 .none [.code x] (Y9 (Vm.keep L s) (ch i)) (Ym (h++ex) (A i)) []):LP true (fun _=>aB) x Q s h:=
 LP.indD (T:=tbR kp rs cs) (hTR kp rs cs) hm rfl L (fun i=>Y9 (Vm.keep L s) (ch i)) (fun i=>Ym (h++ex) (A i)) inv H i (h++ex).length (fun _=>ZbX _ _) hi G step
end Vm
namespace Vm
attribute [local irreducible] Dn
open Go Go.Proofs Sp
set_option maxRecDepth 100000
set_option maxHeartbeats 1600000
theorem ZdP (n lo hi:Int):SC (fun _=>aB) 81 [.int .i64 fun _=>n,.int .i64 fun _=>lo,.int .i64 fun _=>hi] [] fun r h=>r= .bool (fun _=>QG n lo hi)/\h=[]:=by
 refine QN Tryz.func81 (body:=Zj Tryz.f81) rfl (by decide+kernel) ?_;refine wS ?_;refine⟨?_,trivial⟩;congr 1;funext _;unfold QG YV;by_cases h1:n<lo
 ·have:¬lo<=n:=by omega
  simp[h1,this]
 have:lo<=n:=by omega
 by_cases h2:hi<n
 ·have:¬n<=hi:=by omega
  simp[h1,h2,this]
 have:n<=hi:=by omega
 simp[h1,h2,this];omega
theorem ZxB (H no:Int):SC (fun _=>aB) 116 [.int .i64 fun _=>H,.int .i64 fun _=>no] [] fun r h=>r= .int .i64 (fun _=>Zft H no)/\h=[]:=by
 refine QN Tryz.func116 (body:=Zj Tryz.f116) rfl (by decide+kernel) ?_;unfold Zft;refine wS ?_;refine⟨fun G=>?_,fun G=>?_⟩
 ·have G:=eq_of_beq G;rw[if_pos G];(cbv;(try simp only[nc]at*);(try refine Chk.mk (ZE) ?_));(try first|exact⟨rfl,trivial⟩|exact⟨trivial,trivial⟩)
 have G:=ne_of_beq_false G;rw[if_neg G];refine wS ?_;refine⟨fun A=>?_,fun A=>?_⟩
 ·have A:=eq_of_beq A;rw[if_pos A];(cbv;(try simp only[nc]at*);(try refine Chk.mk (ZE) ?_));(try first|exact⟨rfl,trivial⟩|exact⟨trivial,trivial⟩)
 have A:=ne_of_beq_false A;rw[if_neg A];(cbv;(try simp only[nc]at*);(try refine Chk.mk (ZE) ?_));(try first|exact⟨rfl,trivial⟩|exact⟨trivial,trivial⟩)
theorem ZnV (l:List Sp.Call) (f st:Int) (Y:l.length<=1000000) (hf:f<=1000000):SC (fun _=>aB) 150 [lst 3 XM default l,.int .i64 fun _=>f,.int .i64 fun _=>st] [] fun r h=>r= .int .i64 (fun _=>ZM l f st)/\h=[]:=by
 obtain⟨Z,O⟩:=Zo;rw[Za O];unfold ZM;refine QN Tryz.func150 (body:=Zj Tryz.f150) rfl (by decide+kernel) ?_;refine wS ?_;obtain⟨A,S⟩:∃A:Nat,max 0 f=(A:Int):=⟨(max 0 f).toNat,by omega⟩;have I:(0<f->f=(A:Int))/\(f<=0->A=0):=by omega
 rw[S,aV];refine ZJ false false [] [0,2,7] [] (fun(i:Nat)=>[(7,.int .i64 fun _=>i)]) (fun _=>[]) (fun i=>A<=i/\i<=max A l.length/\Zt (fun c=>decide (c.station=st)) (A:Int) (l.drop A)=Zt (fun c=>decide (c.station=st)) i (l.drop i)) (fun i=>max A l.length-i+0) A ⟨aJ _,by omega,rfl⟩ ?_ ?_
 ·(refine To.of [] ?_;cbv;(try simp only[nc]);(repeat' (first|exact trivial|exact Zy.refl _|exact ZG.refl _|refine⟨?_,?_⟩|refine ZG.cells ?_|refine Zy.agg ?_|refine Zy.tup ?_));(all_goals (first|exact XQ|skip)))
  refine .int ?_;show(if(0:Int)<f then f else 0)=_;by_cases h0:0<f
  ·rw[if_pos h0];exact I.1 h0
  rw[if_neg h0,I.2 (by omega)];rfl
 rintro i ⟨V,hi,H⟩;refine wS ?_;refine⟨fun J=>?_,fun J=>?_⟩
 ·simp only[decide_eq_true_eq]at J;have U:=Qi (d:=default) O (l:=l) (i:=i) (by omega);rw[U,Zt]at H;refine wS ?_;refine⟨fun G=>?_,fun G=>?_⟩
  ·have G:=eq_of_beq G;rw[if_pos (by simpa using G)]at H;refine wS ?_;exact⟨by rw[H],trivial⟩
  have G:=ne_of_beq_false G;rw[if_neg (by simpa using G)]at H;refine wS ?_;refine⟨i+1,⟨by omega,by omega,H⟩,by show max A l.length-(i+1)+0<max A l.length-i+0;omega,?_⟩;exact ZF
 simp only[decide_eq_false_iff_not]at J;rw[show l.drop i=[]from bB (by omega),Zt]at H;refine wS ?_;exact⟨by rw[H],trivial⟩
theorem Zu9 (l:List Sp.Call) (st:Int) (G:l.length<=1000000):SC (fun _=>aB) 95 [lst 3 XM default l,.int .i64 fun _=>st] [] fun r h=>r= .int .i64 (fun _=>ZA l st)/\h=[]:=by
 obtain⟨I,O⟩:=Zo;rw[Za O];refine QN Tryz.func95 (body:=Zj Tryz.f95) rfl (by decide+kernel) ?_;refine wS ?_;refine ZL (ZnV l 1 st G (by omega)) (by first|rfl|(simp only[Ze,Zd,Za O];rfl)) fun r H A=>?_;(try simp only[Ze,Zd,Za O]at A);obtain⟨rfl,rfl⟩:=A;(cbv;(try simp only[nc]at*);(try refine Chk.mk (ZE) ?_));(try first|exact⟨rfl,trivial⟩|exact⟨trivial,trivial⟩)
theorem ZwG (l:List Sp.Call) (st:Int) (H:l.length<=1000000):SC (fun _=>aB) 96 [lst 3 XM default l,.int .i64 fun _=>st] [] fun r h=>r= .int .i64 (fun _=>ZN l st)/\h=[]:=by
 obtain⟨J,O⟩:=Zo;rw[Za O];unfold ZN;refine QN Tryz.func96 (body:=Zj Tryz.f96) rfl (by decide+kernel) ?_;refine wS ?_;refine ZL (ZnV l 0 st H (by omega)) (by first|rfl|(simp only[Ze,Zd,Za O];rfl)) fun r I G=>?_;(try simp only[Ze,Zd,Za O]at G);obtain⟨rfl,rfl⟩:=G;refine wS ?_;refine⟨fun A=>?_,fun A=>?_⟩
 ·simp only[decide_eq_true_eq]at A;rw[if_pos A];(cbv;(try simp only[nc]at*);(try refine Chk.mk (ZE) ?_));(try first|exact⟨rfl,trivial⟩|exact⟨trivial,trivial⟩)
 simp only[decide_eq_false_iff_not]at A;rw[if_neg A];(cbv;(try simp only[nc]at*);(try refine Chk.mk (ZE) ?_));(try first|exact⟨rfl,trivial⟩|exact⟨trivial,trivial⟩)
def Zi (d:Z4):List AV:=[.int .i64 fun _=>d.number,.int .i64 fun _=>d.day]
def Qk (w:Sp.QV):List AV:=[.int .i64 fun _=>w.feeder,.int .i64 fun _=>w.train,.int .i64 fun _=>w.station,.int .i64 fun _=>w.minutes]
def Zq (d:Sp.ZP):List AV:=[.int .i64 fun _=>d.run,.int .i64 fun _=>d.leg,lst 1 Q9 0 d.by_]
def Zf (t:Zb):AV:=.agg [lst 2 encZone default t.book.zones,lst 3 encTrain default t.book.old,lst 3 encTrain default t.book.new,.int .i64 fun _=>t.book.night,.int .i64 fun _=>t.book.last,
 lst 2 Zi default t.runs,lst 4 Qk default t.waits,lst 3 Zq default t.delays]
def Zc (l:List Sp.Call):List AV:=[lst 3 XM default l]
theorem ZqH (a b:Z4):(a.number==b.number&&(a.day==b.day&&true))=decide (b=a):=by
 cases a;cases b;simp only[Z4.mk.injEq,Bool.and_true];rw[ew];simp only[Bool.and_eq_true,beq_iff_eq,decide_eq_true_eq];exact⟨fun h=>⟨h.1.symm,h.2.symm⟩,fun h=>⟨h.1.symm,h.2.symm⟩⟩
theorem Zxq (l:List Z4) (d:Z4) (V:l.length<=1000000):SC (fun _=>aB) 192 [lst 2 Zi default l,.agg (Zi d)] [] fun v h=>v= .int .i64 (fun _=>Zt (fun x=>decide (x=d)) 0 l)/\h=[]:=by
 obtain⟨I,O⟩:=Zo;rw[Za O];refine QN Tryz.func192 (body:=Zj Tryz.f192) rfl (by decide+kernel) ?_;refine wS ?_;refine ZJ false false [] [0,3,7,8] [] (fun(i:Nat)=>[(8,.int .i64 fun _=>i)]) (fun _=>[]) (fun i=>i<=l.length/\Zt (fun x=>decide (x=d)) 0 l=Zt (fun x=>decide (x=d)) i (l.drop i)) (fun i=>l.length-i+0) 0 ⟨aW _,by simp⟩ ?_ ?_
 ·exact ZF
 rintro i ⟨Y,A⟩;refine wS ?_;refine⟨fun H=>?_,fun H=>?_⟩
 ·simp only[decide_eq_true_eq]at H;have U:=Qi (d:=default) O (l:=l) (i:=i) (by omega);rw[U,Zt]at A;have J:=ZqH d (I Z4 default l i);generalize S:I Z4 default l i=x at*;refine vS ?_;simp only[S];refine Chk.mk (ZE) ?_;refine⟨fun G=>?_,fun G=>?_⟩
  ·rw[if_pos (by rw[<-J];exact G)]at A;refine wS ?_;exact⟨by rw[A],trivial⟩
  rw[if_neg (by rw[<-J,G];exact aS)]at A;refine wS ?_;refine⟨i+1,⟨by omega,A⟩,by show l.length-(i+1)+0<l.length-i+0;omega,?_⟩;exact ZF
 simp only[decide_eq_false_iff_not]at H;rw[bB (by omega),Zt]at A;refine wS ?_;exact⟨by rw[A],trivial⟩
theorem Zxu (l:List Z4) (d:Z4) (G:l.length<=1000000):SC (fun _=>aB) 175 [lst 2 Zi default l,.agg (Zi d)] [] fun v h=>v= .bool (fun _=>l.any fun x=>decide (x=d))/\h=[]:=by
 obtain⟨I,O⟩:=Zo;rw[Za O];refine QN Tryz.func175 (body:=Zj Tryz.f175) rfl (by decide+kernel) ?_;refine wS ?_;refine ZL (Zxq l d G) (by first|rfl|(simp only[Ze,Zd,Za O];rfl)) fun r H A=>?_;(try simp only[Ze,Zd,Za O]at A);obtain⟨rfl,rfl⟩:=A;refine wS ?_;refine⟨?_,trivial⟩;congr 1;funext _;exact Zax _ l 0 (by omega)
theorem Y5 (G:List Zone) (day:Int) (many:Nat):∀(l:List Stop) (i:Nat) (A:Int),(Q5 G day many i A l).length=l.length
 |[],_,_=>rfl
 |s::r,i,A=>by
  unfold Q5;split
  ·simp[Y5 G day many r]
  simp[Y5 G day many r]
theorem Zdu (b:Xs) (n day:Int):(Run b n day).1.length<=4/\((Run b n day).2=0->2<=(Run b n day).1.length):=by
 unfold Run;split
 ·exact⟨by simp,fun h=>absurd h (by assumption)⟩
 rename_i H;have G:=ZcH (bQ H);split
 ·exact⟨by simp,fun h=>by cases h⟩
 split
 ·exact⟨by simp,fun h=>by cases h⟩
 rename_i I;split
 ·exact⟨by simp,fun h=>by cases h⟩
 have A:=ZfN G day;have J:=XL (q:=fun t:Train=>decide (t.number=n)) (l:=Xt b day) (i:=0) (by omega)
 have hm:=A.2 ((Xt b day).getD (place (Xt b day) n).toNat default) (by
  have:(place (Xt b day) n).toNat<(Xt b day).length:=by unfold place at*;omega
  rw[List.getD_eq_getElem?_getD,List.getElem?_eq_getElem this]
  exact List.getElem_mem _)
 have:=hm.len;simp only[Sp.calls,Y5];exact⟨by omega,fun _=>by omega⟩
theorem Qh {f:Nat->Int} {i n:Nat} (h:i<n):Zm f i (n-i)=if f i≠0 then f i else Zm f (i+1) (n-(i+1)):=by
 rw[show n-i=(n-(i+1))+1 by omega,Zm]
theorem Qt {f:Nat->Int} {i n:Nat} (h:n<=i):Zm f i (n-i)=0:=by
 rw[show n-i=0 by omega,Zm]
theorem Xz {A:(α:Type)->α->List α->Int->α} (O:∀(α:Type) (d:α) (l:List α) (i:Int),A α d l i=l.getD i.toNat d) {α:Type} (d:α) (l:List α) (i:Nat):l.getD i d=A α d l i:=by rw[O];rfl
theorem ZxA (t:Zb) (hf:Xe t.book) (hr:t.runs.length<=1000000):SC (fun _=>aB) 132 [Zf t] [] fun v h=>v= .tup [lst 1 Zc [] (if QQ t=0 then callsOf t else []),.int .i64 fun _=>QQ t]/\h=[]:=by
 obtain⟨U,O⟩:=Zo;refine SC.less (QN Tryz.func132 (body:=Zj Tryz.f132) rfl (by decide+kernel) ?_);have Y:QQ t=if t.runs.length=0 then 7 else if 4<t.runs.length then 6 else Zm (Jy t) 0 t.runs.length:=rfl
 obtain⟨R,J⟩:∃R,R=if QQ t=0 then callsOf t else []:=⟨_,rfl⟩
 rw[<-J];generalize QQ t=e at*;unfold Zf;simp only[Za O];refine wS ?_;refine⟨fun A=>?_,fun A=>?_⟩
 ·have A:=eq_of_beq A;rw[if_pos (by omega)]at Y;subst Y;rw[if_neg (by decide)]at J;subst J;refine wS ?_;refine⟨_,[],?_,rfl,rfl⟩;exact ZF
 have A:=ne_of_beq_false A;rw[if_neg (by omega)]at Y;refine wS ?_;refine⟨fun ab=>?_,fun ab=>?_⟩
 ·simp only[decide_eq_true_eq]at ab;rw[if_pos (by omega)]at Y;subst Y;rw[if_neg (by decide)]at J;subst J;refine wS ?_;refine⟨_,[],?_,rfl,rfl⟩;exact ZF
 simp only[decide_eq_false_iff_not]at ab;rw[if_neg (by omega)]at Y;refine wS ?_;refine ZJ false false [] [1,4,21,22,23] [.tok 1 fun _=>0] (fun(⟨i,out⟩:Nat×List (List Sp.Call))=>[(4,.isl 1 (fun _=>(out.length:Int)) (fun e=>Zc (U (List Sp.Call) [] out (e ()))) (.own 1)),(23,.int .i64 fun _=>i)])
  (fun⟨i,out⟩=>[(1,.tok 1 fun _=>(out.length:Int))])
  (fun⟨i,out⟩=>i<=t.runs.length/\e=Zm (Jy t) i (t.runs.length-i)/\out=(t.runs.take i).map (Yt t)) (fun i=>t.runs.length-i.1+0) (0,[]) ⟨aW _,Y,by simp⟩ ?_ ?_
 ·(refine To.of [(1,false)] ?_;cbv;(try simp only[nc]);(repeat' (first|exact trivial|exact Zy.refl _|exact ZG.refl _|refine⟨?_,?_⟩|refine ZG.cells ?_|refine Zy.agg ?_|refine Zy.tup ?_));(all_goals (first|exact XQ|skip)))
 rintro⟨i,out⟩ ⟨hi,H,ho⟩;have al:out.length=i:=by rw[ho];simp;omega
 refine wS ?_;refine⟨fun A=>?_,fun A=>?_⟩
 ·simp only[decide_eq_true_eq]at A;rw[Qh (by omega)]at H;have ae:=XW (d:=default) O (l:=t.runs) (i:=i) (by omega);have G:Jy t i=if(Run t.book (U Z4 default t.runs i).number (U Z4 default t.runs i).day).2≠0 then(Run t.book (U Z4 default t.runs i).number (U Z4 default t.runs i).day).2
   else if Q8 (Yt t (U Z4 default t.runs i))≠0 then 5
   else if(t.runs.take i).any (fun x=>decide (x=U Z4 default t.runs i))then 4 else 0:=by unfold Jy;rw[Xz O]
  have aj:=Xz O default t.runs i;generalize hd:U Z4 default t.runs i=d at*;refine vS ?_;simp only[hd];refine Chk.mk (ZE) ?_;have Z:=c26 t.book d.number d.day hf;have V:=Zdu t.book d.number d.day;have ac:Yt t d=(Run t.book d.number d.day).1:=rfl;unfold Zd at Z;simp only[Za O]at Z;generalize Run t.book d.number d.day=r at*;obtain⟨C,er⟩:=r;refine ZL (Z) (by first|rfl|(simp only[Ze,Zd,Zf,Za O];rfl)) fun r ai H=>?_;(try simp only[Ze,Zd,Zf,Za O]at H);obtain⟨rfl,rfl⟩:=H;dsimp only at G V ac;refine wS ?_;refine⟨fun A=>?_,fun A=>?_⟩
  ·simp only[bne_iff_ne,ne_eq]at A;rw[if_pos A]at G;rw[G,if_pos A]at H;subst H;rw[if_neg A]at J;subst J;refine wS ?_;refine⟨_,[],?_,rfl,rfl⟩;exact ZF
  simp only[bne_eq_false_iff_eq]at A;subst A;rw[if_neg (fun h=>h rfl),ac]at G;have ak:=V.2 rfl;have am:=V.1;clear Z V;refine wS ?_;refine XX fun Q hQ=>?_;refine ZJ false false [] [1,4,5,6,7,9,21,22,23] [] (fun(j:Nat)=>[(9,.int .i64 fun _=>((j+1:Nat):Int))]) (fun _=>[]) (fun j=>j+1<=C.length/\Q8 C=Zm (YB C) (j+1) (C.length-(j+1))) (fun j=>C.length-(j+1)+0) 0 ⟨by omega,rfl⟩ ?_ ?_
  ·exact ZF
  rintro j ⟨hk,S⟩;refine wS ?_;refine⟨fun A=>?_,fun A=>?_⟩
  ·simp only[decide_eq_true_eq]at A;rw[Qh (by omega)]at S;have aa:YB C (j+1)=if(U Sp.Call default C ((j+1:Nat):Int)).arrive<=(U Sp.Call default C (((j+1:Nat):Int)-1)).depart then 5 else 0:=by
    unfold YB;rw[Xz O,Xz O,show((j+1-1:Nat):Int)=((j+1:Nat):Int)-1 by omega]
   refine wS ?_;refine⟨fun I=>?_,fun I=>?_⟩
   ·simp only[decide_eq_true_eq]at I;rw[if_pos I]at aa;rw[aa,if_pos (by decide)]at S;rw[S,if_pos (by decide)]at G;rw[G,if_pos (by decide)]at H;subst H;rw[if_neg (by decide)]at J;subst J;refine wS ?_;refine hQ _ _ _ ?_;refine wS ?_;refine⟨_,[],?_,rfl,rfl⟩;exact ZF
   simp only[decide_eq_false_iff_not]at I;rw[if_neg I]at aa;rw[aa,if_neg (fun h=>h rfl)]at S;refine wS ?_;refine⟨j+1,⟨by omega,by rw[S]⟩,by show C.length-(j+1+1)+0<C.length-(j+1)+0;omega,?_⟩;exact ZF
  simp only[decide_eq_false_iff_not]at A;rw[Qt (by omega)]at S;rw[S,if_neg (fun h=>h rfl)]at G;refine wS ?_;refine hQ _ _ _ ?_;refine wS ?_;refine JC (Zxu (t.runs.take i) d (by simp;omega)) (by(try simp only[Ze,Zd,Zf,Za O]);exact ZF) (by first|rfl|(simp only[Ze,Zd,Zf,Za O];rfl)) fun r ai H=>?_;(try simp only[Ze,Zd,Zf,Za O]at H);obtain⟨rfl,rfl⟩:=H;refine wS ?_;refine⟨fun I=>?_,fun I=>?_⟩
  ·rw[if_pos I]at G;rw[G,if_pos (by decide)]at H;subst H;rw[if_neg (by decide)]at J;subst J;refine wS ?_;refine⟨_,[],?_,rfl,rfl⟩;exact ZF
  rw[if_neg (by rw[I];exact aS)]at G;rw[G,if_neg (fun h=>h rfl)]at H;refine wS ?_;refine⟨(i+1,out++[C]),⟨by omega,by rw[H],by rw[ae,List.map_append,ho];simp[ac]⟩,by show t.runs.length-(i+1)+0<t.runs.length-i+0;omega,?_⟩;refine toR ?_;exact .snoc O rfl rfl (by simp only[Zc,Za O];rfl)
 simp only[decide_eq_false_iff_not]at A;rw[Qt (by omega)]at H;subst H;rw[if_pos rfl]at J;have ah:out=R:=by rw[ho,J,List.take_of_length_le (by omega)];rfl
 subst ah;refine wS ?_;refine⟨_,[],?_,rfl,rfl⟩;exact ZF
end Vm
end Go.Proofs.YtjgpiclllehgmaaGreat
