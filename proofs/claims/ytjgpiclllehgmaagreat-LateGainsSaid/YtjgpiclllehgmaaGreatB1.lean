/- Lemmas. -/
import Derived.Test.YtjgpiclllehgmaaGreatRows
import Derived.WalkKit
import Derived.ProofKit
import Derived.OpenShut
import Derived.ShutString
import Derived.ChangeOld
import Derived.Below
import Derived.Deep.Slices
import Derived.Test.YtjgpiclllehgmaaGreatB0
import Derived.Test.YtjgpiclllehgmaaGreatCxPhase5
set_option linter.all false
open Array renaming getD_eq_getD_getElem?->aI,getElem?_eq_getElem->aY,getElem?_eq_some_iff->aM,getElem?_map->cA,getElem?_setIfInBounds_ne->aF
open Bool renaming eq_iff_iff->eo,false_eq_true->aX,false_ne_true->aO,false_or->cC,not_eq_false->fJ,not_eq_false'->eI,not_eq_true'->cG,not_true->d9,or_eq_true->cX
open Decidable renaming of_not_not->bO
open Go.Frame renaming enter->dO
open Int renaming le_of_lt->gA,pow_pos->gN,toNat_natCast->aW
open List renaming drop_eq_nil_of_le->bB,getD_eq_getElem?_getD->aA,getElem?_cons_zero->bJ,getElem?_drop->cT,getElem?_eq_getElem->aC,getElem?_eq_some_iff->aE,getElem?_take->cR,getElem_mem->bL,length_append->bf,length_cons->bF,length_nil->cE,mem_cons->bG,range->aT
open Nat renaming eq_zero_or_pos->cJ,le_refl->aJ,zero_le->aV
open Option.some renaming injEq->aD
open Go.Proofs.Tryz renaming prog->aB
namespace Go.Proofs.YtjgpiclllehgmaaGreat
namespace Sp
structure Chg where
 at_:Int
 by_:Int
deriving DecidableEq,Inhabited
structure Zone where
 base:Int
 chs:List Chg
deriving Inhabited
structure Pc where
 fr:Int
 bef:Int
 ahd:Int
deriving DecidableEq,Inhabited
def Y6 (n lo hi:Int):Bool:=decide (lo<=n)&&decide (n<=hi)
def leP:Option Int->Int->Bool
 |some a,x=>decide (x<=a)
 |none,_=>false
def Jo:Option Int->List Chg->Int
 |_,[]=>0
 |p,c::r=>if !Y6 c.at_ 0 43200 then 1 else if leP p c.at_ then 5 else if !Y6 c.by_ (-180) 180||decide (c.by_=0)then 1 else Jo (some c.at_) r
theorem Y3 (p:Option Int) (c:Chg) (r:List Chg):Jo p (c::r)=if !Y6 c.at_ 0 43200 then 1 else if leP p c.at_ then 5 else if !Y6 c.by_ (-180) 180||decide (c.by_=0)then 1 else Jo (some c.at_) r:=by cases p<;>rfl
theorem Zdm (p:Option Int):Jo p []=0:=by cases p<;>rfl
def ZB (z:Zone):Int:=if !Y6 z.base (-720) 720 then 1 else if 3<z.chs.length then 6 else Jo none z.chs
def XO:Int:=1099511627776
def Xa:Int->Int->List Chg->List Pc
 |fr,a,[]=>[⟨fr,XO,a⟩]
 |fr,a,c::r=>if fr<c.at_ then⟨fr,c.at_,a⟩::Xa c.at_ (a+c.by_) r else Xa c.at_ (a+c.by_) r
def ZW (z:Zone):List Pc:=Xa 0 z.base z.chs
def Xl:List Pc->Int->Int->Int
 |[],_,_=>XO
 |p::l,r,after=>if max p.fr (max after (r-p.ahd))<p.bef then max p.fr (max after (r-p.ahd))else Xl l r after
structure Stop where
 station:Int
 zone:Int
 arrive:Int
 depart:Int
deriving DecidableEq,Inhabited
structure Train where
 number:Int
 days:Int
 stops:List Stop
deriving DecidableEq,Inhabited
structure Xv where
 zones:List Zone
 old:List Train
 new:List Train
 night:Int
 last:Int
deriving Inhabited
structure Call where
 station:Int
 arrive:Int
 depart:Int
deriving DecidableEq,Inhabited
structure ZbV where
 fr:Int
 to_:Int
deriving DecidableEq,Inhabited
def Zr {α:Type} (q:α->Bool):Int->List α->Int
 |_,[]=>-1
 |i,a::l=>if q a then i else Zr q (i+1) l
def ZS (n A G:Int):Int:=if n<A then 7 else if G<n then 6 else 0
def Y4 (A:List Stop) (s:Stop) (inner:Bool) (zones:Int):Int:=
 if !Y6 s.station 0 9 then 1 else if A.any (λx=>decide (x.station=s.station))then 4 else if !Y6 s.zone 0 (zones-1)then 3
 else if !Y6 s.arrive 0 4319|| !Y6 s.depart 0 4319 then 1 else if inner&&decide (s.depart<s.arrive)then 5 else 0
end Sp
namespace Vm
open Go Go.Proofs Sp
set_option maxRecDepth 100000
set_option maxHeartbeats 4000000
def iA (n:Int):AV:=.int .i64 λ_=>n
def ZaL (c:Chg):List AV:=[.int .i64 λ_=>c.at_,.int .i64 λ_=>c.by_]
def Zfn (p:Pc):List AV:=[.int .i64 λ_=>p.fr,.int .i64 λ_=>p.bef,.int .i64 λ_=>p.ahd]
def Ze (z:Zone):AV:=.agg [.int .i64 λ_=>z.base,lst 2 ZaL default z.chs]
theorem c67 (n a b:Int):SC (λ_=>aB) 144 [.int .i64 λ_=>n,.int .i64 λ_=>a,.int .i64 λ_=>b] [] λr h=>r= .bool (λ_=>Y6 n a b)/\h=[]:=by
 refine QO Tryz.func144 (body:=Zj Tryz.f144) rfl (by decide+kernel) ?_;cbv;try simp only[nc]at*
 refine⟨by simp[XD,XC,XS,XB,Cn.p],?_,trivial⟩;congr 1;funext _;unfold Y6;cases decide (a<=n)<;>rfl
theorem c92 (l:List Pc) (r a:Int) (V:l.length<=1000000) (U:∀p∈l,-1000000<=p.ahd/\p.ahd<=1000000) (hr:-1000000<=r/\r<=1000000):SC (λ_=>aB) 186 [lst 3 Zfn default l,.int .i64 λ_=>r,.int .i64 λ_=>a] [] λv h=>v= .int .i64 (λ_=>Xl l r a)/\h=[]:=by
 obtain⟨J,O⟩:=Zn;rw[Za O];refine QO Tryz.func186 (body:=Zj Tryz.f186) rfl (by decide+kernel) ?_;cbv;try simp only[nc]at*
 refine Zke [1,2,10,11,12] (λi:Nat=>mkS 30 [(1,.int .i64 λ_=>r),(2,.int .i64 λ_=>a),(10,.isl 3 (λ_=>(l.length:Int)) (λe=>Zfn (J Pc default l (e ()))) .none),(11,.int .i64 λ_=>(l.length:Int)),(12,.int .i64 λ_=>(i:Int))]) (λ_=>[])
  (λi=>i<=l.length/\Xl l r a=Xl (l.drop i) r a) (λi=>l.length-i+0) 0 0 (λ_=>rfl) ⟨aV _,by simp⟩ (To.of [] ?_) ?_
 ·cbv
  exact⟨⟨.refl _,.refl _,.refl _,.refl _,.int rfl,trivial⟩,trivial⟩
 intro i I;cbv;try simp only[nc]at*
 refine⟨λA=>?_,λA=>?_⟩
 ·simp only[nc,iR]at A;have G:i<l.length:=by omega
  have hm:=U _ (QC (d:=default) O G);have H:=Qs (d:=default) O G;cbv;try simp only[nc]at*
  obtain⟨p,S⟩:∃p,J Pc default l (i:Int)=p:=⟨_,rfl⟩;rw[S]at hm H;rw[S];refine⟨by simp only[XD,XC,XS,XB,Cn.p,and_true];omega,λA=>?_,λA=>?_⟩
  ·simp only[iR]at A;cbv;try simp only[nc]at*
   refine⟨?_,trivial⟩;congr 1;funext _;rw[I.2,H,Xl];omega
  simp only[iS]at A;cbv;try simp only[nc]at*
  refine⟨by simp only[nc,XD,XC,XS,XB,Cn.p,and_true];omega,⟨i+1,⟨by omega,?_⟩,by omega,To.of [] ?_⟩⟩
  ·rw[I.2,H,Xl,iP (by omega)]
  cbv
  exact⟨⟨.refl _,.refl _,.refl _,.refl _,.int (by simp only[nc];omega),trivial⟩,trivial⟩
 simp only[nc,iS]at A;have:l.drop i=[]:=bB (by omega);cbv;try simp only[nc]at*
 refine⟨?_,trivial⟩;congr 1;funext _;rw[I.2,this];rfl
theorem c91 (d m:Int) (G:-1000<=d/\d<=1000) (A:-10000<=m/\m<=10000):SC (λ_=>aB) 187 [.int .i64 λ_=>d,.int .i64 λ_=>m] [] λr h=>r= .int .i64 (λ_=>1440*d+m)/\h=[]:=by
 refine QO Tryz.func187 (body:=Zj Tryz.f187) rfl (by decide+kernel) ?_;cbv;try simp only[nc]at*
 exact⟨by simp only[XD,XC,XS,XB,Cn.p,and_true];omega,trivial⟩
structure Zry (z:Zone):Prop where
 base:-1000<=z.base/\z.base<=1000
 many:z.chs.length<=100
 by_:∀c∈z.chs,-1000<=c.by_/\c.by_<=1000
theorem Zfc:∀(l:List Chg) (fr a m:Int),(∀c∈l,-1000<=c.by_/\c.by_<=1000)->-m<=a/\a<=m->∀p∈Xa fr a l,-(m+1000*l.length)<=p.ahd/\p.ahd<=m+1000*l.length
 |[],fr,a,m,_,h,p,A=>by simp[Xa]at A;subst A;simpa using h
 |c::r,fr,a,m,hl,h,p,A=>by
  have I:=hl c (List.mem_cons_self ..);have G:=Zfc r c.at_ (a+c.by_) (m+1000) (λx H=>hl x (List.mem_cons_of_mem _ H)) (by omega);simp only[Xa]at A;simp only[bF];split at A
  ·rcases bG.1 A with rfl|A
   ·show _<=a/\a<=_;omega
   have:=G p A;omega
  have:=G p A;omega
theorem ZaX:∀(l:List Chg) (fr a:Int),1<=(Xa fr a l).length/\(Xa fr a l).length<=l.length+1
 |[],fr,a=>by simp[Xa]
 |c::r,fr,a=>by
  have:=ZaX r c.at_ (a+c.by_);simp only[Xa,bF];split
  ·simp only[bF];omega
  omega
theorem c90 (z:Zone) (I:Zry z):SC (λ_=>aB) 185 [Ze z] [] λv h=>v=lst 3 Zfn default (ZW z)/\h=[]:=by
 obtain⟨G,O⟩:=Zn;unfold Ze;rw[Za O];refine SC.less (QO Tryz.func185 (body:=Zj Tryz.f185) rfl (by decide+kernel) ?_);cbv;try simp only[nc]at*
 refine⟨by simp only[XD,XC,XS,XB,Cn.p,and_true];decide+kernel,?_⟩
 refine Zke [1,3,4,5,11,12,13] (λ(⟨i,fr,a,out⟩:Nat×Int×Int×List Pc)=>mkS 42 [(1,.ptr 0 0),(3,.isl 3 (λ_=>(out.length:Int)) (λe=>Zfn (G Pc default out (e ()))) (.own 1)),(4,.int .i64 λ_=>fr),(5,.int .i64 λ_=>a),
   (11,.isl 2 (λ_=>(z.chs.length:Int)) (λe=>ZaL (G Chg default z.chs (e ()))) .none),(12,.int .i64 λ_=>(z.chs.length:Int)),(13,.int .i64 λ_=>(i:Int))])
  (λ⟨i,fr,a,out⟩=>[.cells [.int .i64 λ_=>z.base,.isl 2 (λ_=>(z.chs.length:Int)) (λe=>ZaL (G Chg default z.chs (e ()))) .none],.tok 3 λ_=>(out.length:Int)])
  (λ⟨i,fr,a,out⟩=>i<=z.chs.length/\ZW z=out++Xa fr a (z.chs.drop i)/\out.length<=i/\-(1000+1000*i)<=a/\a<=1000+1000*i) (λi=>z.chs.length-i.1+0) (0,0,z.base,[]) 2 (λ_=>rfl)
  ⟨aV _,by simp[ZW],by simp,by have:=I.base;simp;omega⟩ (To.of [(3,false)] ?_) ?_
 ·cbv
  exact⟨⟨.refl _,.nilOwn (by decide) (by decide) rfl,.refl _,.refl _,.refl _,.refl _,.int rfl,trivial⟩,.refl _,.tok rfl,trivial⟩
 rintro⟨i,fr,a,out⟩ ⟨hi,hp,ho,ha⟩;have U:=I.many;cbv;try simp only[nc]at*
 refine⟨λA=>?_,λA=>?_⟩
 ·simp only[nc,iR]at A;have H:i<z.chs.length:=by omega
  have hm:=I.by_ _ (QC (d:=default) O H);have J:=Qs (d:=default) O H;cbv;try simp only[nc]at*
  obtain⟨c,S⟩:∃c,G Chg default z.chs (i:Int)=c:=⟨_,rfl⟩;rw[S]at hm J;rw[S];rw[J,Xa]at hp;refine⟨by simp only[XD,XC,XS,XB,Cn.p,and_true];omega,λA=>?_,λA=>?_⟩
  ·simp only[gt_iff_lt,iR]at A;rw[iQ A]at hp;cbv;try simp only[nc]at*
   refine⟨by simp only[nc,XD,XC,XS,XB,Cn.p,and_true,bF,cE];(repeat' apply And.intro)<;>first|omega|decide+kernel,⟨(i+1,c.at_,a+c.by_,out++[⟨fr,c.at_,a⟩]),⟨by omega,by rw[hp];simp,by simp;omega,by dsimp only;omega,by dsimp only;omega⟩,by show z.chs.length-(i+1)+0<z.chs.length-i+0;omega,To.of [] ?_⟩⟩;cbv;try simp only[nc]at*
   exact⟨⟨.refl _,.snoc O rfl rfl rfl,.refl _,.refl _,.refl _,.refl _,.int rfl,trivial⟩,.refl _,.tok (by simp),trivial⟩
  simp only[gt_iff_lt,iS]at A;rw[iP A]at hp;cbv;try simp only[nc]at*
  refine⟨by simp only[nc,XD,XC,XS,XB,Cn.p,and_true,bF,cE];(repeat' apply And.intro)<;>first|omega|decide+kernel,⟨(i+1,c.at_,a+c.by_,out),⟨by omega,hp,by dsimp only;omega,by dsimp only;omega,by dsimp only;omega⟩,by show z.chs.length-(i+1)+0<z.chs.length-i+0;omega,To.of [] ?_⟩⟩;cbv;try simp only[nc]at*
  exact⟨⟨.refl _,.refl _,.refl _,.refl _,.refl _,.refl _,.int rfl,trivial⟩,.refl _,.refl _,trivial⟩
 simp only[nc,iS]at A;have:z.chs.drop i=[]:=bB (by omega);rw[this,Xa]at hp;rw[hp];cbv;try simp only[nc]at*
 refine⟨by simp only[nc,XD,XC,XS,XB,Cn.p,and_true,bF,cE];(repeat' apply And.intro)<;>first|omega|decide+kernel,lst 3 Zfn default (out++[⟨fr,XO,a⟩]),[],To.of [] ⟨⟨.snocL O rfl rfl rfl,trivial⟩,trivial⟩,rfl,rfl⟩
theorem JU {z:Zone} (A:Zry z):(ZW z).length<=101/\1<=(ZW z).length/\∀p∈ZW z,-1000000<=p.ahd/\p.ahd<=1000000:=by
 have I:=ZaX z.chs 0 z.base;have H:=Zfc z.chs 0 z.base 1000 A.by_ A.base;have J:=A.many;refine⟨?_,I.1,λp G=>?_⟩
 ·unfold ZW;omega
 have:=H p G;omega
theorem c79 (z:Zone) (aa:z.chs.length<=1000000):SC (λ_=>aB) 173 [Ze z] [] λv h=>v= .int .i64 (λ_=>ZB z)/\h=[]:=by
 obtain⟨I,O⟩:=Zn;unfold Ze ZB;rw[Za O];refine QO Tryz.func173 (body:=Zj Tryz.f173) rfl (by decide+kernel) ?_;cbv;try simp only[nc]at*
 refine ZL (c67 _ _ _) rfl λr S G=>?_;obtain⟨rfl,rfl⟩:=G;cbv;try simp only[nc]at*
 refine⟨λA=>?_,λA=>?_⟩
 ·simp only[cG]at A;cbv;try simp only[nc]at*
  refine⟨?_,trivial⟩;congr 1;funext _;simp[A]
 simp only[eI]at A;simp only[A,d9,aX,if_false];refine⟨λA=>?_,λA=>?_⟩
 ·simp only[iR]at A;cbv;try simp only[nc]at*
  refine⟨?_,trivial⟩;congr 1;funext _;rw[iQ (by omega)]
 simp only[iS]at A;rw[iP (show¬3<z.chs.length by omega)];cbv;try simp only[nc]at*
 refine Zke [1,14,15,16] (λ(i:Nat)=>mkS 50 [(1,.ptr 0 0),(14,.isl 2 (λ_=>(z.chs.length:Int)) (λe=>ZaL (I Chg default z.chs (e ()))) .none),(15,.int .i64 λ_=>(z.chs.length:Int)),(16,.int .i64 λ_=>(i:Int))])
  (λ_=>[.cells [.int .i64 λ_=>z.base,.isl 2 (λ_=>(z.chs.length:Int)) (λe=>ZaL (I Chg default z.chs (e ()))) .none]])
  (λi=>i<=z.chs.length/\Jo none z.chs=Jo (if i=0 then none else some (I Chg default z.chs ((i:Int)-1)).at_) (z.chs.drop i)) (λi=>z.chs.length-i+0) 0 1 (λ_=>rfl) ⟨aV _,by simp⟩ (To.of [] ?_) ?_
 ·cbv
  exact⟨⟨.refl _,.refl _,.refl _,.int rfl,trivial⟩,.refl _,trivial⟩
 rintro i ⟨hi,G⟩;cbv;try simp only[nc]at*
 refine⟨λA=>?_,λA=>?_⟩
 ·simp only[iR]at A;have Z:i<z.chs.length:=by omega
  have Y:=Qs (d:=default) O Z;cbv;try simp only[nc]at*
  obtain⟨c,V⟩:∃p,I Chg default z.chs (i:Int)=p:=⟨_,rfl⟩;rw[V]at Y;rw[V];rw[Y,Y3]at G;refine⟨by simp only[XD,XC,XS,XB,Cn.p,and_true];omega,?_⟩;refine ZL (c67 _ _ _) rfl λr S J=>?_;obtain⟨rfl,rfl⟩:=J;cbv;try simp only[nc]at*
  refine⟨λA=>?_,λA=>?_⟩
  ·simp only[cG]at A;cbv;try simp only[nc]at*
   refine⟨?_,trivial⟩;congr 1;funext _;rw[G];simp[A]
  simp only[eI]at A;simp only[A,d9,aX,if_false]at G;cbv;try simp only[nc]at*
  refine⟨by simp only[nc,XD,XC,XS,XB,Cn.p,and_true,true_and,iR,imp_self];(repeat' (first|apply And.intro|intro _))<;>first|omega|decide+kernel,?_⟩;have U:(bif decide (0<(i:Int))then decide (c.at_<=(I Chg default z.chs ((i:Int)-1)).at_)else false)=leP (if i=0 then none else some (I Chg default z.chs ((i:Int)-1)).at_) c.at_:=by
   by_cases h0:i=0
   ·subst h0;rfl
   rw[iP h0,iX (show 0<(i:Int) by omega)];rfl
  rw[<-U]at G;refine⟨λA=>?_,λA=>?_⟩
  ·cbv
   try simp only[nc]at*
   rw[iQ A]at G;refine⟨?_,trivial⟩;rw[G]
  rw[iP (by rw[A];exact aO)]at G;cbv;try simp only[nc]at*
  refine ZL (c67 _ _ _) rfl λr S J=>?_;obtain⟨rfl,rfl⟩:=J;cbv;try simp only[nc]at*
  refine⟨λA=>?_,λA=>?_⟩
  ·simp only[cG]at A;rw[iQ (by simp[A])]at G;cbv;try simp only[nc]at*
   refine Br.isT (by simp[A]) ?_;cbv;refine⟨?_,trivial⟩;rw[G]
  simp only[eI]at A;cbv;try simp only[nc]at*
  refine⟨λH=>?_,λH=>?_⟩
  ·simp only[beq_iff_eq]at H;rw[iQ (by simp[H])]at G;cbv;try simp only[nc]at*
   refine⟨?_,trivial⟩;rw[G]
  simp only[beq_eq_false_iff_ne,ne_eq]at H;rw[iP (by simp[A,H])]at G;cbv;try simp only[nc]at*
  refine⟨by simp only[nc,XD,XC,XS,XB,Cn.p,and_true,true_and,iR,imp_self];(repeat' (first|apply And.intro|intro _))<;>first|omega|decide+kernel,⟨i+1,⟨by omega,?_⟩,by show z.chs.length-(i+1)+0<z.chs.length-i+0;omega,To.of [] ?_⟩⟩
  ·rw[G,iP (Nat.succ_ne_zero i),show((i+1:Nat):Int)-1=i by omega,V]
  cbv
  exact⟨⟨.refl _,.refl _,.refl _,.int rfl,trivial⟩,.refl _,trivial⟩
 simp only[iS]at A;have:z.chs.drop i=[]:=bB (by omega);rw[this,Zdm]at G;cbv;try simp only[nc]at*
 refine⟨?_,trivial⟩;rw[G]
def Xd (n:Int):List AV:=[.int .i64 λ_=>n]
theorem ZaQ {z:Zone} (h:ZB z=0):Zry z:=by
 unfold ZB at h;split at h
 ·cases h
 rename_i I;split at h
 ·cases h
 rename_i U;have V:-720<=z.base/\z.base<=720:=by
  simp only[Y6,cG,fJ]at I;simpa using I
 refine⟨by omega,by omega,?_⟩;have H:∀(l:List Chg) (p:Option Int),Jo p l=0->∀c∈l,-1000<=c.by_/\c.by_<=1000:=by
  intro l;induction l with
  |nil=>intro p _ c G;cases G
  |cons a l J=>
   intro p A c G;rw[Y3]at A;split at A
   ·cases A
   split at A
   ·cases A
   split at A
   ·cases A
   rename_i S;rcases bG.1 G with rfl|G
   ·simp[Y6]at S;omega
   exact J _ A c G
 exact H _ _ h
open Go Go.Proofs
open Go.ChangeShapes Go.WideShapes Go.ChangeAt Go.RowKit
def R0 (w:World):RC:=⟨w,0,0,λ_=>⟨0,0⟩,λ_=>0,λ_=>undef,λb _ _=>b<w.heap.size,none⟩
theorem own:ownKnob aB.godebug=none:=by kernel_rfl
theorem ZdR:laidOutB aB=true:=by kernel_rfl
end Vm
namespace Conc1
open Go Go.Conc
theorem ZjU {P:Program} {Q:Machine->Outcome->World->Trace->Prop}:∀(N:Nat) (m:Machine) (t:Trace) (G:Machine) (H:Trace),runNT P N m t=(.next G,H)->
  (∃n last o w A,runNT P (n+1) G H=(.ended o w,A)/\runN P n G= .next last/\step P last= .ended o w/\Q last o w A)->∃n last o w A,runNT P (n+1) m t=(.ended o w,A)/\runN P n m= .next last/\step P last= .ended o w/\Q last o w A
 |0,m,t,G,H,h,hq=>by
  simp only[runNT,Prod.mk.injEq,Stepped.next.injEq]at h;obtain⟨rfl,rfl⟩:=h;exact hq
 |N+1,m,t,G,H,h,hq=>by
  cases hs:stepT P m with
  |mk r ops=>
   cases r with
   |next V=>
    simp only[runNT,hs]at h;obtain⟨n,last,o,w,A,S,I,U,J⟩:=ZjU N V _ G H h hq;exact⟨n+1,last,o,w,A,by simp only[runNT,hs];exact S,by simp only[runN,step,hs];exact I,U,J⟩
   |ended o w=>simp[runNT,hs]at h
def EndAt (P:Program) (A:Value->World->Prop) (fr:Frame) (w:World):Prop:=
 ∀d,∃v es,stepG P true (G fr []) (w.at d)= .ended (.done v) (w.at d) es/\(∀e∈es,YI (λ_=>False) e)/\A v (w.at d)
def Zmw (P:Program) (H:Value->World->Prop) (I:Nat) (m:Machine) (t:Trace):Prop:=
 ∃(A:Array Goroutine) (fr:Frame) (w:World) (sl:Option (Nat×Nat)) (q:Nat->Nat),m=crowd A w sl/\A[0]? =some (G fr [])/\EndAt P H fr w/\Leavers P t A q/\XX t/\I=ConcN.sumTo A.size q
theorem ZqZ {P:Program} {V:Value->World->Prop} (μ:Nat) (m:Machine) (t:Trace) (h:Zmw P V μ m t):
  (∃o w ops,stepT P m=(.ended o w,ops)/\Go.Conc.Good P V m o w (t++ops))\/(∃m' ops ai,stepT P m=(.next m',ops)/\ai<μ/\Zmw P V ai m' (t++ops)):=by
 obtain⟨J,fr,w,sl,q,rfl,h0,hE,hL,hP,rfl⟩:=h;have Z:(G fr []).status= .running:=rfl;have ao:∀g∈J,awake g:=by
  intro g hg;obtain⟨i,H,rfl⟩:=Array.mem_iff_getElem.1 hg;rcases cJ i with rfl|Y
  ·have:J[0]=G fr []:=by simpa [aY H]using h0
   rw[this];exact awake_of (.inl Z)
  exact awake_of ((hL.old i _ Y (aY H)).status.elim .inl λx=>.inr (.inr x))
 obtain⟨i,g,d,aa,H,hg,ae⟩:=crowd_pick (P:=P) (w:=w) (sl:=sl) ao ⟨0,_,h0,Z⟩;rcases cJ i with rfl|Y
 ·obtain rfl:g=G fr []:=by rw[h0]at H;exact(Option.some.inj H).symm
  obtain⟨v,es,al,ar,ab⟩:=hE d;have A:=runT_many_ended (P:=P) (sl:=aa) (i:=0) H (show stepG P (0==0) (G fr []) (w.at d)=_ from al);have ah:=hP.own (fn:=(G fr []).frame.fn) (pos:=(G fr []).frame.place) ar;refine .inl ⟨_,_,_,ae.trans A,v,rfl,ab,ah.clean,ah.over,⟨λx S=>?_,rfl⟩,λj x S U=>?_⟩
  ·obtain⟨j,U⟩:=List.mem_iff_getElem?.1 S;rw[cT]at U;exact⟨_,(hL.old (1+j) x (by omega) (by simpa [crowd]using U)).leaves⟩
  have hq:=hL.old j x (by omega) S;refine⟨q j,?_⟩;have e:(t++MemOp.ofEvents 0 (G fr []).frame.fn (G fr []).frame.place es).deaf j (t++MemOp.ofEvents 0 (G fr []).frame.fn (G fr []).frame.place es).size=Deaf t j:=
   Deaf_other t (g:=j) (g':=0) (by omega) _ (λop I=>by obtain⟨e,_,rfl⟩:=Conc.mem_ofEvents I;rfl)
  rw[e];exact hq.hears _
 have hq:=hL.old i g Y H;have au:(i==0)=false:=by simp;omega
 have ac:i<J.size:=(aM.1 H).1;cases hqi:q i with
 |zero=>rw[hqi]at hq;rw[hq.1]at hg;cases hg
 |succ k=>
  rw[hqi]at hq;rcases hq with⟨hf,_⟩|⟨_,g',es,hm,ak,aq⟩
  ·rw[hf]at hg;cases hg
  have A:=runT_crowd_go (P:=P) (sl:=aa) (i:=i) H (by rw[au];exact ak (w.at d));have ap:((J.map (woken P g g' (w.at d))).setIfInBounds i g').size=J.size:=by simp
  have aw:ConcN.sumTo J.size (ConcN.upd q i k)+(k+1)=ConcN.sumTo J.size q+k:=by
   have:=ConcN.sumTo_upd q k id ac;simpa [hqi]using this
  refine .inr ⟨_,_,ConcN.sumTo J.size (ConcN.upd q i k),ae.trans A,by omega,_,fr,w.at d,aa,ConcN.upd q i k,rfl,?_,λd'=>hE d',⟨λj x U S=>?_,λj U=>?_⟩,hP.mute (by omega) hm,by rw[ap]⟩
  ·have am:i≠0:=by omega
   rw[aF am,cA,h0];simp[woken_run Z]
  ·by_cases hji:i=j
   ·subst hji;rw[Array.getElem?_setIfInBounds_self_of_lt (by simpa using ac)]at S;obtain rfl:=Option.some.inj S;rw[ConcN.upd_same,Deaf_own];exact aq
   rw[aF hji,cA]at S;obtain⟨y,hy,rfl⟩:=Option.map_eq_some_iff.1 S;have aj:=hL.old j y U hy;rw[woken_quitsD aj,ConcN.upd_ne q k (Ne.symm hji),Deaf_other t hji _ (λop I=>by obtain⟨e,_,rfl⟩:=Conc.mem_ofEvents I;rfl)];exact aj
  rw[Deaf_other t (g':=i) (by simp at U;omega) _ (λop I=>by obtain⟨e,_,rfl⟩:=Conc.mem_ofEvents I;rfl)];exact hL.above j (by simpa using U)
theorem Zmi {P:Program} {A:Value->World->Prop} {St:Frame->List Frame->World->Prop} (H:∀fr cs w,St fr cs w->cs=[]/\EndAt P A fr w) {m:Machine} {t:Trace} (h:QY P St m t):
  ∃n last o w G,runNT P (n+1) m t=(.ended o w,G)/\runN P n m= .next last/\step P last= .ended o w/\Go.Conc.Good P A last o w G:=by
 obtain⟨N,V,fr,cs,w,sl,U,q,Y,J,h3,S,Z⟩:=h;obtain⟨rfl,I⟩:=H _ _ _ h3;exact ZjU N m t _ U Y (run_of_inv Nat.lt_wfRel.wf (Zmw P A) (Go.Conc.Good P A) ZqZ _ _ _ ⟨V,fr,w,sl,q,rfl,J,I,S,Z,rfl⟩)
end Conc1
namespace Vm
open Go Go.Conc Go.Proofs Conc1
open Go.ChangeShapes Go.WideShapes Go.ChangeAt Go.RowKit
def R1 (w:World):RC:=⟨w,1,0,λ_=>⟨0,0⟩,λ_=>0,λ_=>undef,λb _ _=>b<w.heap.size,none⟩
theorem Zxm (w:World):HR (λ_ _ _=>True) (R1 w) [.main]:=
 ⟨rfl,λb o n=>⟨λh=>⟨h,trivial,λid blk A=>by
  cases id with
  |zero=>cases A;exact λG=>G
  |succ id=>simp at A⟩,λh=>h.1⟩,λid blk A=>by
  cases id with
  |zero=>cases A;exact rfl
  |succ id=>simp at A,λi j J U b I A S G=>by
  cases i with
  |zero=>cases A;exact G.elim
  |succ i=>simp at A,λ_ _ _ _ _ _ _ _=>trivial,λ_ _ _ _=>trivial,λid blk b A H=>by
  cases id with
  |zero=>cases A;cases H
  |succ id=>simp at A,aV 1⟩
def Zxn (W:World) (v:Value) (w:World):Prop:=v= .bool true/\w.os=W.os/\w.output=W.output/\W.heap.size<=w.heap.size/\∀k,k<W.heap.size->w.heap[k]? =W.heap[k]?
def Znm (P:Program) (f:FuncId) (W:World) (fr:Frame) (cs:List Frame) (w:World):Prop:=
 cs=[]/\∃(b:FB) (t:Array Value) (A:List Item) (fn:Func),fr={mkF b t [] A with mode:=.returning}/\b.df=false/\b.fn=f/\P.funcs[f]? =some fn/\∃G d v,(results fn t).run P (re w G d)= .ok v (re w G d)/\Zxn W v w
def Zrw (P:Program) (f:FuncId) (W:World):Fc->Prop
 |.one a=>Znm P f W a.fr a.cs a.w
 |.two _ _ _ _=>False
theorem ZsL {P:Program} {f:FuncId} {W:World} {fr:Frame} {cs:List Frame} {w:World} (hi:P.inits.idxOf? f=none) (h:Znm P f W fr cs w/\w.tape=W.tape):cs=[]/\EndAt P (λv w'=>v= .bool true/\Below W.heap.size W w') fr w:=by
 obtain⟨⟨rfl,b,t,ab,fn,rfl,Z,aa,hf,H,A,v,hr,I⟩,ht⟩:=h;refine⟨rfl,λd=>?_⟩;have V:(results fn t).runT P (re w H A) #[]=(.ok v (re w H A),(results fn t).events P (re w H A) #[]):=by rw[Sem.runT_eq,hr]
 generalize (results fn t).events P (re w H A) #[]=es at V;have S:∀e∈es,YI (λ_=>False) e:=λe S=>(ZA.events P (λ_ h=>h) (results fn t) (λ_=>False) _ _ _ _ _ ZdO (λ_ h=>h.elim) V e S).elim (λh=>by simp at h) id;have J:=(Zbn P (results fn t) _ _ _ _ _ V λe h=>(S e h).out).2.2 w.tape d λi hi=>by
  have hi:i<A-A:=hi;omega
 have e2:re (re w H A) w.tape (d+((re w H A).drawn-(re w H A).drawn))=w.at d:=by
  rw[show d+((re w H A).drawn-(re w H A).drawn)=d by omega];rfl
 rw[e2]at J;have J:(results fn t).runT P (w.at d) #[]=(.ok v (w.at d),es):=J;refine⟨v,seen P f es,?_,λe hx=>S e (mem_seen hx),I.1,I.2.1,ht,I.2.2.1,I.2.2.2.1,I.2.2.2.2⟩;have hk:b.kind= .normal:=by simp[FB.kind,Z]
 have Y:=congrArg Prod.fst J;have U:=congrArg Prod.snd J;rw[Sem.runT_eq]at Y U;simp only at Y U;simp[G,stepG,unwind,doReturn,mkF,hk,aa,hf,Y,U,hi,GStep.after]
theorem ZnN {T:Fc->Fc->Prop} {Stop:Fc->Prop} (hT:∀a b,T a b->b.w.tape=a.w.tape) {A:Tape} {a:Fc} (h:ZcZ T Stop Fc.re (λa=>a.w.tape) a):a.w.tape=A->ZcZ T (λb=>Stop b/\b.w.tape=A) Fc.re (λa=>a.w.tape) a:=by
 induction h with
 |stop h=>exact λe=>.stop ⟨h,e⟩
 | @step a f h1 h2 ih=>
  refine λe=>.step f h1 λd=>ih d ?_;rw[hT _ _ (h1 d)];have:(Fc.re a a.w.tape d).w.tape=a.w.tape:=by cases a<;>rfl
  rw[this];exact e
theorem ZnL:XX #[]:=⟨λG=>by rintro⟨i,j,_,⟨a,b,A,_⟩,_⟩;simp[Trace.act?]at A,λi a A=>by simp[touchAt,Trace.act?]at A,rfl⟩
theorem Zs5 {f:FuncId} {xs:List AV} {vs:Array Value} {W:World} (hi:aB.inits.idxOf? f=none) (hx:∀t d,Yf (R1 (re W t d)) xs vs) (H:SC (λ_=>aB) f xs [.main] λr _=>r= .bool λ_=>true):
  ∃M last o I J,runNT aB (M+1) (solo (G (dO aB f vs .normal) []) W) #[]=(.ended o I,J)/\runN aB M (solo (G (dO aB f vs .normal) []) W)= .next last/\step aB last= .ended o I/\Go.Conc.Good aB (λv I=>v= .bool true/\Below W.heap.size W I) last o I J:=by
 have hS:∀a t d,Zrw aB f W (Fc.re a t d)->Zrw aB f W a:=λa t d h=>by
  cases a with
  |one a=>exact h
  |two _ _ _ _=>exact h
 have hm:ZcZ (T aB (kf aB)) (Zrw aB f W) Fc.re (λa=>a.w.tape) (.one ⟨dO aB f vs .normal,[],W⟩):=by
  refine ZiV (ZmZ hS) λt d=>?_;obtain⟨v,V,r,h',⟨b,J,Y,fn,h1,h2,h3,h4,Z⟩,_,A,_,hv,rfl⟩:=H.run (λ_ _ _=>True) (R1 (re W t d)) vs (Zxm _) (hx t d) [];refine⟨.one ⟨_,[],V.w⟩,StepsC.main h1,rfl,b,J,Y,fn,rfl,h2,Z,by rw[<-Z];exact h3,V.w.tape,V.w.drawn,v,h4,hv.bool_inv,A.os,A.output,A.size,λk hk=>A.frame k hk λid blk S hp=>?_⟩;cases id with
  |zero=>cases S;exact hp
  |succ id=>simp at S
 have hg:=ZhC (St:=λfr cs w=>Znm aB f W fr cs w/\w.tape=W.tape) (λa U=>by
  cases a with
  |two _ _ _ _=>exact U.1.elim
  |one a=>
   refine λgs sl t q d h0 hL hP=>⟨0,gs,a.fr,a.cs,a.w.at d,sl,t,q,rfl,h0,⟨?_,U.2⟩,hL,hP⟩
   exact U.1) (ZnN (λa b h=>(ZmZ hS).tape h) hm rfl)
 have hc:QY aB (λfr cs w=>Znm aB f W fr cs w/\w.tape=W.tape) (crowd #[G (dO aB f vs .normal) []] W none) #[]:=hg #[G (dO aB f vs .normal) []] none #[] (λ_=>0) W.drawn rfl (leavers_one _ _) ZnL;exact Zmi (λfr cs w h=>ZsL hi h) hc
end Vm
namespace Sp
def Zo (f:Nat->Int):Nat->Nat->Int
 |_,0=>0
 |i,k+1=>if f i≠0 then f i else Zo f (i+1) k
def Xb (zones:Int) (l:List Stop) (i:Nat):Int:=Y4 (l.take i) (l.getD i default) (decide (0<i)&&decide ((i:Int)<l.length-1)) zones
def Ym (zones:Int) (l:List Stop):Int:=Zo (Xb zones l) 0 l.length
def QP (zones:Int) (l:List Train) (i:Nat):Int:=
 if !Y6 (l.getD i default).number 1 999 then 1 else if(l.take i).any (λx=>decide (x.number=(l.getD i default).number))then 4 else if !Y6 (l.getD i default).days 1 127 then 1
 else if ZS (l.getD i default).stops.length 2 4≠0 then ZS (l.getD i default).stops.length 2 4 else Ym zones (l.getD i default).stops
def Qe (zones:Int) (l:List Train):Int:=if ZS l.length 0 4≠0 then ZS l.length 0 4 else Zo (QP zones l) 0 l.length
def Yq (b:Xv):Int:=
 if ZS b.zones.length 1 3≠0 then ZS b.zones.length 1 3
 else if Zo (λi=>ZB (b.zones.getD i default)) 0 b.zones.length≠0 then Zo (λi=>ZB (b.zones.getD i default)) 0 b.zones.length
 else if Qe b.zones.length b.old≠0 then Qe b.zones.length b.old
 else if Qe b.zones.length b.new≠0 then Qe b.zones.length b.new
 else if !Y6 b.last 0 13|| !Y6 b.night 0 (b.last+1)then 1 else 0
def QS (b:Xv) (day:Int):List Train:=if day<b.night then b.old else b.new
def Zb4 (t:Train) (day:Int):Bool:=decide (t.days/2^(day%7).toNat%2=1)
def Xj (A:List Zone) (day:Int) (many:Nat):Nat->Int->List Stop->List Call
 |_,_,[]=>[]
 |i,now,s::r=>
  if i=0 then
   let d:=if i+1<many then Xl (ZW (A.getD s.zone.toNat default)) (1440*day+s.depart) now else 0
   ⟨s.station,d,d⟩::Xj A day many (i+1) d r
  else
   let a:=Xl (ZW (A.getD s.zone.toNat default)) (1440*day+s.arrive) now;let d:=if i+1<many then Xl (ZW (A.getD s.zone.toNat default)) (1440*day+s.depart) a else a
   ⟨s.station,a,d⟩::Xj A day many (i+1) d r
def calls (A:List Zone) (t:Train) (day:Int):List Call:=Xj A day t.stops.length 0 0 t.stops
def place (l:List Train) (number:Int):Int:=Zr (λt=>decide (t.number=number)) 0 l
def J1 (b:Xv) (number day:Int):List Call×Int:=
 if Yq b≠0 then([],Yq b)else if !Y6 day 0 b.last then([],1)
 else if place (QS b day) number<0 then([],3)
 else if !Zb4 ((QS b day).getD (place (QS b day) number).toNat default) day then([],11)
 else(calls b.zones ((QS b day).getD (place (QS b day) number).toNat default) day,0)
end Sp
namespace Vm
attribute [local irreducible] Dn
open Go Go.Proofs Sp
set_option maxRecDepth 100000
set_option maxHeartbeats 1600000
def Q5 (s:Stop):List AV:=[.int .i64 λ_=>s.station,.int .i64 λ_=>s.zone,.int .i64 λ_=>s.arrive,.int .i64 λ_=>s.depart]
def encTrain (t:Train):List AV:=[.int .i64 λ_=>t.number,.int .i64 λ_=>t.days,lst 4 Q5 default t.stops]
def encZone (z:Zone):List AV:=[.int .i64 λ_=>z.base,lst 2 ZaL default z.chs]
def Zd (b:Xv):AV:=.agg [lst 2 encZone default b.zones,lst 3 encTrain default b.old,lst 3 encTrain default b.new,.int .i64 λ_=>b.night,.int .i64 λ_=>b.last]
theorem ZcX {f:FuncId} {xs I:List AV} {h:List Zi} {A Q:AV->List Zi->Prop} {B:Prop} (H:SC (λ_=>aB) f I [] Q) (k:B) (t:SC (λ_=>aB) f I [] Q->HdW B->SC (λ_=>aB) f xs h A:=by intro S hW;refine ZL S (by first|rfl|(simp only[Ze,Zd,Za O];rfl)) λr J G=>?_;(try simp only[Ze,Zd,Za O]at G);obtain⟨rfl,rfl⟩:=G;exact hW.out):SC (λ_=>aB) f xs h A:=t H ⟨k⟩
theorem Jt {A:(α:Type)->α->List α->Int->α} (O:∀(α:Type) (d:α) (l:List α) (i:Int),A α d l i=l.getD i.toNat d) {α:Type} (enc:α->List AV) (d:α) (l:List α):Zev enc d l=λe=>enc (A α d l (e ())):=by
 funext e;show enc (l.getD _ d)=_;rw[O]
theorem lit_nt {H:(α:Type)->α->List α->Int->α} (O:∀(α:Type) (d:α) (l:List α) (i:Int),H α d l i=l.getD i.toNat d) {α:Type} {n k sz:Nat} (enc:α->List AV) (d:α) (l:List α) (A:List (List AV)) (hr:A=l.map enc):
  ZC n k (.isl sz (λ_=>(A.length:Int)) (λe=>A.getD (e ()).toNat (A.headD [])) .exact) (.isl sz (λ_=>(l.length:Int)) (λe=>enc (H α d l (e ()))) .none):=by
 subst hr;refine .none (by simp) λi G=>?_;have G:i<l.length:=by simpa using G
 show(l.map enc).getD i _=enc (H α d l (i:Int));rw[O];simp[aA,aC G]
theorem Zvq (l:List Nat) {f:FuncId} {xs I:List AV} {h V:List Zi} {G Q:AV->List Zi->Prop} (H:SC (λ_=>aB) f I V Q) (J:To xs h I h) (U:l.Nodup) (S:∀i∈l,i<h.length) (hx:I.map (QE false l h 5)=I) (Z:sel false l h=V) (Y:∀r A,Q r A->G (ren (Jg l h.length) 5 r) (back l h A)):SC (λ_=>aB) f xs h G:=
 SC.to J (ZP l H U S hx Z Y)
theorem ZbI (a b:Int):(a==b)=decide (a=b):=by by_cases h:a=b<;>simp[h]
theorem c78 (n a b:Int):SC (λ_=>aB) 172 [.int .i64 λ_=>n,.int .i64 λ_=>a,.int .i64 λ_=>b] [] λr h=>r= .int .i64 (λ_=>ZS n a b)/\h=[]:=by
 refine QO Tryz.func172 (body:=Zj Tryz.f172) rfl (by decide+kernel) ?_;refine wS ?_;unfold ZS;refine⟨λG=>?_,λG=>?_⟩
 ·simp only[iR]at G;refine vS ?_;refine⟨?_,trivial⟩;congr 1;funext _;rw[iQ G]
 simp only[iS]at G;refine vS ?_;refine⟨λA=>?_,λA=>?_⟩
 ·simp only[iR]at A;refine vS ?_;refine⟨?_,trivial⟩;congr 1;funext _;rw[iP G,iQ A]
 simp only[iS]at A;refine vS ?_;refine⟨?_,trivial⟩;congr 1;funext _;rw[iP G,iP A]
theorem ZyH (x s:Stop):SC (λ_=>aB) 197 [.agg (Q5 x),.ptr 0 0] [.cells (Q5 s)] λv h=>v= .bool (λ_=>decide (x.station=s.station))/\h=[.cells (Q5 s)]:=by
 refine QO Tryz.func197 (body:=Zj Tryz.f197) rfl (by decide+kernel) ?_;refine wS ?_;exact⟨by simp only[ZbI],trivial⟩
theorem cL0 (l:List Nat) {f:FuncId} {xs I:List AV} {h J:List Zi} {G Q:AV->List Zi->Prop} (H:SC (λ_=>aB) f I J Q) (S:∀ r A,Q r A->G (ren (Jg l h.length) 5 r) (back l h A)) (Z:l.Nodup:=by decide) (U:∀ i∈l,i<h.length:=by simp) (Y:xs.map (QE false l h 5)=I:=by first|rfl|(simp only[Ze,Zd,Za O];rfl)) (V:sel false l h=J:=by first|rfl|(simp only[Ze,Zd,Za O];rfl)):SC (λ_=>aB) f xs h G:=ZP l H Z U Y V S
theorem ZyG (l:List Stop) (s:Stop) (U:l.length<=1000000):SC (λ_=>aB) 199 [lst 4 Q5 default l,.fn 197 [] [.ptr 0 0]] [.cells (Q5 s)] λv h=>v= .int .i64 (λ_=>Zr (λx=>decide (x.station=s.station)) 0 l)/\h=[.cells (Q5 s)]:=by
 obtain⟨S,O⟩:=Zn;rw[Za O];refine QO Tryz.func199 (body:=Zj Tryz.f199) rfl (by decide+kernel) ?_;refine wS ?_;refine ZJ false false [] [0,1,7,8] [] (λ(i:Nat)=>[(8,.int .i64 λ_=>i)]) (λ_=>[]) (λi=>i<=l.length/\Zr (λx=>decide (x.station=s.station)) 0 l=Zr (λx=>decide (x.station=s.station)) i (l.drop i)) (λi=>l.length-i+0) 0 ⟨aV _,by simp⟩ ?_ ?_
 ·exact ZG
 rintro i ⟨V,A⟩;refine wS ?_;refine⟨λH=>?_,λH=>?_⟩
 ·simp only[iR]at H;have I:=Qs (d:=default) O (l:=l) (i:=i) (by omega);rw[I,Zr]at A;refine wS ?_;refine cL0 [0] (ZyH (S Stop default l i) s) λr J A=>?_;(try simp only[Ze,Zd,Za O]at A);obtain⟨rfl,rfl⟩:=A;refine vS ?_;refine⟨λG=>?_,λG=>?_⟩
  ·rw[iQ G]at A;refine wS ?_;exact⟨by rw[A],trivial⟩
  rw[iP (by rw[G];exact aO)]at A;refine wS ?_;refine⟨i+1,⟨by omega,A⟩,by show l.length-(i+1)+0<l.length-i+0;omega,?_⟩;exact ZG
 simp only[iS]at H;rw[bB (by omega),Zr]at A;refine wS ?_;exact⟨by rw[A],trivial⟩
theorem ZaF {α:Type} (q:α->Bool):∀(l:List α) (i:Int),0<=i->decide (0<=Zr q i l)=l.any q
 |[],i,h=>by simp[Zr]
 |a::l,i,h=>by
  simp only[Zr,List.any_cons];by_cases A:q a=true
  ·simp[A,h]
  have A:q a=false:=by simpa using A
  simp only[A,aX,if_false,cC];exact ZaF q l (i+1) (by omega)
theorem ZyI (l:List Stop) (s:Stop) (H:l.length<=1000000):SC (λ_=>aB) 196 [lst 4 Q5 default l,.fn 197 [] [.ptr 0 0]] [.cells (Q5 s)] λv h=>v= .bool (λ_=>l.any λx=>decide (x.station=s.station))/\h=[.cells (Q5 s)]:=by
 obtain⟨I,O⟩:=Zn;rw[Za O];refine QO Tryz.func196 (body:=Zj Tryz.f196) rfl (by decide+kernel) ?_;refine wS ?_;refine cL0 [0] (ZyG l s H) λr G A=>?_;(try simp only[Ze,Zd,Za O]at A);obtain⟨rfl,rfl⟩:=A;refine wS ?_;refine⟨?_,trivial⟩;congr 1;funext _;exact ZaF _ l 0 (by omega)
theorem take_nt {A:(α:Type)->α->List α->Int->α} (O:∀(α:Type) (d:α) (l:List α) (i:Int),A α d l i=l.getD i.toNat d) {α:Type} {n k sz:Nat} {enc:α->List AV} {d:α} {l:List α} {i:Nat} (hi:i<=l.length) {tk:Tk}:
  ZC n k (.isl sz (λ_=>(i:Int)) (λe=>enc (A α d l (e ()))) tk) (.isl sz (λ_=>((l.take i).length:Int)) (λe=>enc (A α d (l.take i) (e ()))) .none):=
 .none (by simp;omega) λj G=>by
  have G:j<i:=by omega
  show enc (A α d l (j:Int))=enc (A α d (l.take i) (j:Int));rw[O,O];simp[aA,cR,G]
theorem ZyJ (l:List Stop) (i:Nat) (zones:Int) (hi:i<l.length) (Y:l.length<=1000000) (Z:0<=zones/\zones<=1000000):SC (λ_=>aB) 191 [lst 4 Q5 default l,.int .i64 λ_=>(i:Int),.int .i64 λ_=>zones] [] λv h=>v= .int .i64 (λ_=>Xb zones l i)/\h=[]:=by
 obtain⟨J,O⟩:=Zn;rw[Za O];refine QO Tryz.func191 (body:=Zj Tryz.f191) rfl (by decide+kernel) ?_;have I:Xb zones l i=Y4 (l.take i) (J Stop default l i) (decide (0<i)&&decide ((i:Int)<l.length-1)) zones:=by unfold Xb;rw[O];rfl
 rw[I];unfold Y4;refine wS ?_;generalize J Stop default l i=s at*;refine ZcX (c67 s.station 0 9) ?_;refine vS ?_;refine⟨λA=>?_,λA=>?_⟩
 ·rw[iQ A];exact zW
 rw[iP (by rw[A];exact aO)];refine wS ?_;have V:∀lo hi:Int,(!Y6 s.zone lo hi)=(!Y6 s.zone lo hi):=λ_ _=>rfl;refine Zvq [0] (ZyI (l.take i) s (by simp;omega)) (by(try simp only[Ze,Zd,Za O]);exact ZG) (by decide) (by simp) (by first|rfl|(simp only[Ze,Zd,Za O];rfl)) rfl λr S H=>?_;(try simp only[Ze,Zd,Za O]at H);obtain⟨rfl,rfl⟩:=H;refine vS ?_;refine⟨λA=>?_,λA=>?_⟩
 ·rw[iQ A];exact zW
 rw[iP (by rw[A];exact aO)];refine wS ?_;refine ZcX (c67 s.zone 0 (zones-1)) ?_;refine vS ?_;refine⟨λA=>?_,λA=>?_⟩
 ·rw[iQ A];exact zW
 rw[iP (by rw[A];exact aO)];refine wS ?_;refine ZcX (c67 s.arrive 0 4319) ?_;refine vS ?_;refine⟨λA=>?_,λA=>?_⟩
 ·rw[iQ (by simp[A])];refine wS ?_;refine Br.isT A ?_;exact zW
 refine wS ?_;refine ZcX (c67 s.depart 0 4319) ?_;refine vS ?_;refine⟨λG=>?_,λG=>?_⟩
 ·rw[iQ (by simp[G])];exact zW
 rw[iP (by simp[A,G])];refine wS ?_;have U:(decide (0<i)&&decide ((i:Int)<l.length-1)&&decide (s.depart<s.arrive))=(bif bif decide (0<(i:Int))then decide ((i:Int)<(l.length:Int)-1)else false then decide (s.depart<s.arrive)else false):=by
  rw[show decide (0<i)=decide (0<(i:Int))from by rw[eo];simp];cases decide (0<(i:Int))<;>cases decide ((i:Int)<(l.length:Int)-1)<;>rfl
 rw[U];refine⟨λA=>?_,λA=>?_⟩
 ·rw[iQ A];exact zW
 rw[iP (by rw[A];exact aO)];exact zW
theorem c80 (l:List Train) (zones:Int) (hz:0<=zones/\zones<=1000000) (hl:l.length<=1000000) (hs:∀t∈l,t.stops.length<=1000000):SC (λ_=>aB) 174 [lst 3 encTrain default l,.int .i64 λ_=>zones] [] λv h=>v= .int .i64 (λ_=>Qe zones l)/\h=[]:=by
 obtain⟨J,O⟩:=Zn;rw[Za O];refine QO Tryz.func174 (body:=Zj Tryz.f174) rfl (by decide+kernel) ?_;unfold Qe;refine wS ?_;refine ZcX (c78 (l.length:Int) 0 4) ?_;generalize ZS l.length 0 4=e at*;refine vS ?_;refine⟨λA=>?_,λA=>?_⟩
 ·simp only[bne_iff_ne,ne_eq]at A;rw[iQ A];exact zW
 simp only[iY]at A;subst A;rw[iP (λh=>h rfl)];refine wS ?_;refine ZJ false false [] [1,6,19,20,21] [] (λ(i:Nat)=>[(21,.int .i64 λ_=>i)]) (λi=>[(0,.mapB λe _=>(l.take i).any λx=>decide (x.number=e ()))])
  (λi=>i<=l.length/\Zo (QP zones l) 0 l.length=Zo (QP zones l) i (l.length-i)) (λi=>l.length-i+0) 0 ⟨aV _,by simp⟩ ?_ ?_
 ·exact ZG
 rintro i ⟨hi,H⟩;refine wS ?_;refine⟨λA=>?_,λA=>?_⟩
 ·simp only[iR]at A;obtain⟨q,Z⟩:∃q,l.length-i=q+1:=⟨l.length-i-1,by omega⟩;rw[Z,Zo]at H;have S:=Yb (d:=default) O (l:=l) (i:=i) (by omega);have V:=hs _ (QC (d:=default) O (l:=l) (i:=i) (by omega));have G:QP zones l i=if !Y6 (J Train default l i).number 1 999 then 1 else if(l.take i).any (λx=>decide (x.number=(J Train default l i).number))then 4 else if !Y6 (J Train default l i).days 1 127 then 1
   else if ZS (J Train default l i).stops.length 2 4≠0 then ZS (J Train default l i).stops.length 2 4 else Ym zones (J Train default l i).stops:=by unfold QP;rw[O];rfl
  refine wS ?_;generalize J Train default l i=t at*;refine ZcX (c67 t.number 1 999) ?_;refine vS ?_;refine⟨λA=>?_,λA=>?_⟩
  ·rw[iQ A]at G;rw[G,iQ (by decide)]at H;refine wS ?_;rw[H];(try first|exact⟨rfl,trivial⟩|exact⟨trivial,trivial⟩)
  rw[iP (by rw[A];exact aO)]at G;refine vS ?_;refine⟨λA=>?_,λA=>?_⟩
  ·rw[iQ A]at G;rw[G,iQ (by decide)]at H;refine wS ?_;rw[H];(try first|exact⟨rfl,trivial⟩|exact⟨trivial,trivial⟩)
  rw[iP (by rw[A];exact aO)]at G;refine vS ?_;refine ZcX (c67 t.days 1 127) ?_;refine vS ?_;refine⟨λA=>?_,λA=>?_⟩
  ·rw[iQ A]at G;rw[G,iQ (by decide)]at H;refine wS ?_;rw[H];(try first|exact⟨rfl,trivial⟩|exact⟨trivial,trivial⟩)
  rw[iP (by rw[A];exact aO)]at G;refine vS ?_;refine ZcX (c78 (t.stops.length:Int) 2 4) ?_;generalize ZS t.stops.length 2 4=e at*;refine vS ?_;refine⟨λA=>?_,λA=>?_⟩
  ·simp only[bne_iff_ne,ne_eq]at A;rw[iQ A]at G;rw[G,iQ A]at H;refine wS ?_;rw[H];(try first|exact⟨rfl,trivial⟩|exact⟨trivial,trivial⟩)
  simp only[iY]at A;subst A;rw[iP (λh=>h rfl)]at G;refine wS ?_;refine X3 λQ U=>?_;refine ZJ false false [] [1,6,8,19,20,21,52,53] [] (λ(j:Nat)=>[(53,.int .i64 λ_=>j)]) (λ_=>[])
   (λj=>j<=t.stops.length/\Ym zones t.stops=Zo (Xb zones t.stops) j (t.stops.length-j)) (λj=>t.stops.length-j+0) 0 ⟨aV _,by simp[Ym]⟩ ?_ ?_
  ·exact ZG
  rintro j ⟨hj,I⟩;refine wS ?_;refine⟨λA=>?_,λA=>?_⟩
  ·simp only[iR]at A;obtain⟨q',Y⟩:∃q,t.stops.length-j=q+1:=⟨t.stops.length-j-1,by omega⟩;rw[Y,Zo]at I;refine wS ?_;refine ZcX (ZyJ t.stops j zones (by omega) V hz) ?_;generalize Xb zones t.stops j=e at*;refine vS ?_;refine⟨λA=>?_,λA=>?_⟩
   ·simp only[bne_iff_ne,ne_eq]at A;rw[iQ A]at I;rw[G,I,iQ A]at H;refine wS ?_;refine U _ _ _ ?_;refine wS ?_;rw[H];(try first|exact⟨rfl,trivial⟩|exact⟨trivial,trivial⟩)
   simp only[iY]at A;rw[iP (λh=>h A)]at I;refine wS ?_;refine⟨j+1,⟨by omega,by rw[I];congr 1;omega⟩,by show t.stops.length-(j+1)+0<t.stops.length-j+0;omega,?_⟩;exact ZG
  simp only[iS]at A;rw[show t.stops.length-j=0 by omega,Zo]at I;rw[G,I,iP (λh=>h rfl)]at H;refine wS ?_;refine U _ _ _ ?_;refine wS ?_;refine⟨i+1,⟨by omega,by rw[H];congr 1;omega⟩,by show l.length-(i+1)+0<l.length-i+0;omega,?_⟩;refine toR ?_;exact .map λx=>by
   rw[S,List.any_append];show(if x=t.number then true else(l.take i).any λy=>decide (y.number=x))=_;by_cases hx:x=t.number
   ·simp[hx]
   rw[iP hx];simp[Ne.symm hx]
 simp only[iS]at A;rw[show l.length-i=0 by omega,Zo]at H;refine wS ?_;rw[H];(try first|exact⟨rfl,trivial⟩|exact⟨trivial,trivial⟩)
structure Xt (b:Xv):Prop where
 zones:b.zones.length<=1000000
 old:b.old.length<=1000000
 new:b.new.length<=1000000
 chs:∀z∈b.zones,z.chs.length<=1000000
 stops:(∀t∈b.old,t.stops.length<=1000000)/\∀t∈b.new,t.stops.length<=1000000
theorem c28 (b:Xv) (A:Xt b):SC (λ_=>aB) 131 [Zd b] [] λv h=>v= .int .i64 (λ_=>Yq b)/\h=[]:=by
 obtain⟨V,O⟩:=Zn;unfold Zd Yq;simp only[Za O];obtain⟨U,ho,hn,hc,Y⟩:=A;refine QO Tryz.func131 (body:=Zj Tryz.f131) rfl (by decide+kernel) ?_;refine wS ?_;refine ZcX (c78 (b.zones.length:Int) 1 3) ?_;generalize ZS b.zones.length 1 3=e at*;refine vS ?_;refine⟨λA=>?_,λA=>?_⟩
 ·simp only[bne_iff_ne,ne_eq]at A;rw[iQ A];exact zW
 simp only[iY]at A;subst A;rw[iP (λh=>h rfl)];refine wS ?_;refine X3 λQ G=>?_;refine ZJ false false [] [1,18,19,20] [] (λ(i:Nat)=>[(20,.int .i64 λ_=>i)]) (λ_=>[])
  (λi=>i<=b.zones.length/\Zo (λi=>ZB (b.zones.getD i default)) 0 b.zones.length=Zo (λi=>ZB (b.zones.getD i default)) i (b.zones.length-i)) (λi=>b.zones.length-i+0) 0 ⟨aV _,by simp⟩ ?_ ?_
 ·exact ZG
 rintro i ⟨Z,I⟩;refine wS ?_;refine⟨λA=>?_,λA=>?_⟩
 ·simp only[iR]at A;obtain⟨q,hq⟩:∃q,b.zones.length-i=q+1:=⟨b.zones.length-i-1,by omega⟩;rw[hq,Zo]at I;have aa:=hc _ (QC (d:=default) O (l:=b.zones) (i:=i) (by omega));have U:b.zones.getD i default=V Zone default b.zones i:=by rw[O];rfl
  rw[U]at I;refine wS ?_;generalize V Zone default b.zones i=z at*;refine ZcX (c79 z aa) ?_;generalize ZB z=e at*;refine vS ?_;refine⟨λA=>?_,λA=>?_⟩
  ·simp only[bne_iff_ne,ne_eq]at A;rw[iQ A]at I;rw[I,iQ A]at G;refine wS ?_;refine G _ _ _ ?_;exact zW
  simp only[iY]at A;rw[iP (λh=>h A)]at I;refine wS ?_;refine⟨i+1,⟨by omega,by rw[I];congr 1;omega⟩,by show b.zones.length-(i+1)+0<b.zones.length-i+0;omega,?_⟩;exact ZG
 simp only[iS]at A;rw[show b.zones.length-i=0 by omega,Zo]at I;rw[I,iP (λh=>h rfl)]at G;refine wS ?_;refine G _ _ _ ?_;clear G;refine wS ?_;refine X3 λQ G=>?_;refine ZJ false false [] [1,34,35,36] [] (λ(i:Nat)=>[(36,.int .i64 λ_=>i)]) (λ_=>[])
  (λi=>i=0\/(i=1/\Qe b.zones.length b.old=0)\/(i=2/\Qe b.zones.length b.old=0/\Qe b.zones.length b.new=0)) (λi=>3-i+0) 0 (.inl rfl) ?_ ?_
 ·exact ZG
 rintro i Z;rcases Z with rfl|⟨rfl,S⟩|⟨rfl,S,h2⟩
 ·refine wS ?_;refine Br.isT (by simp) ?_;refine wS ?_;refine ZcX (c80 b.old (b.zones.length:Int) (by omega) ho Y.1) ?_;generalize Qe b.zones.length b.old=e at*;refine vS ?_;refine⟨λA=>?_,λA=>?_⟩
  ·simp only[bne_iff_ne,ne_eq]at A;rw[iQ A]at G;refine wS ?_;refine G _ _ _ ?_;exact zW
  simp only[iY]at A;refine wS ?_;refine⟨1,.inr (.inl ⟨rfl,A⟩),by decide,?_⟩;exact ZG
 ·refine wS ?_;refine Br.isT (by simp) ?_;refine wS ?_;refine ZcX (c80 b.new (b.zones.length:Int) (by omega) hn Y.2) ?_;rw[iP (λh=>h S)]at G;generalize Qe b.zones.length b.new=e at*;refine vS ?_;refine⟨λA=>?_,λA=>?_⟩
  ·simp only[bne_iff_ne,ne_eq]at A;rw[iQ A]at G;refine wS ?_;refine G _ _ _ ?_;exact zW
  simp only[iY]at A;refine wS ?_;refine⟨2,.inr (.inr ⟨rfl,S,A⟩),by decide,?_⟩;exact ZG
 rw[iP (λh=>h S),iP (λh=>h h2)]at G;refine wS ?_;refine Br.isF (by simp) ?_;refine wS ?_;refine G _ _ _ ?_;clear G;refine wS ?_;have J:=c67 b.last 0 13;rcases hI:Y6 b.last 0 13 with _|_
 ·rw[hI]at J;simp only[Bool.not_false,Bool.true_or,if_true];refine ZcX (J) ?_;refine vS ?_;refine Chk.mk (by simp[XD,XB,XC,Cn.p]) ?_;refine Br.isF (by rfl) ?_;refine wS ?_;refine Br.isT (by rfl) ?_;exact zW
 have ab:0<=b.last/\b.last<=13:=by simpa [Y6]using hI
 rw[hI]at J;simp only[d9,cC];refine ZcX (J) ?_;refine wS ?_;refine Br.isT (by rfl) ?_;refine wS ?_;refine ZcX (c67 b.night 0 (b.last+1)) ?_;refine wS ?_;refine⟨λH=>?_,λH=>?_⟩
 ·have H:Y6 b.night 0 (b.last+1)=false:=by simpa using H
  refine wS ?_;simp[H]
 have H:Y6 b.night 0 (b.last+1)=true:=by simpa using H
 refine wS ?_;simp[H]
end Vm
namespace Vm
open Sp
def Asc:Int->List Chg->Prop
 |_,[]=>True
 |lo,c::r=>lo<=c.at_/\Asc (c.at_+1) r
def af:Int->List Chg->Int->Int
 |a,[],_=>a
 |a,c::r,k=>if c.at_<=k then af (a+c.by_) r k else a
theorem Zcv {z:Zone} (h:ZB z=0):Asc 0 z.chs/\(∀c∈z.chs,0<=c.at_/\c.at_<=43200/\-180<=c.by_/\c.by_<=180)/\z.chs.length<=3/\-720<=z.base/\z.base<=720:=by
 unfold ZB at h;split at h
 ·cases h
 rename_i Z;split at h
 ·cases h
 rename_i h2;have H:∀(l:List Chg) (p:Option Int),Jo p l=0->(Asc (match p with|none=>0|some a=>a+1) l)/\∀c∈l,0<=c.at_/\c.at_<=43200/\-180<=c.by_/\c.by_<=180:=by
  intro l;induction l with
  |nil=>intro p _;exact⟨trivial,λc G=>by cases G⟩
  |cons a l Y=>
   intro p A;rw[Y3]at A;split at A
   ·cases A
   rename_i V;split at A
   ·cases A
   rename_i S;split at A
   ·cases A
   rename_i g3;simp[Y6]at V g3;obtain⟨J,i2⟩:=Y _ A;refine⟨⟨?_,J⟩,λc G=>?_⟩
   ·cases p with
    |none=>simp only;omega
    |some q=>simp[leP]at S;simp only;omega
   rcases bG.1 G with rfl|G
   ·omega
   exact i2 c G
 obtain⟨I,U⟩:=H _ _ h;simp[Y6]at Z;exact⟨I,U,by omega,by omega,by omega⟩
attribute [local irreducible] Dn
open Go Go.Proofs Sp
set_option maxRecDepth 100000
set_option maxHeartbeats 1600000
def ZxI (z:Zone):AV:=.agg [.int .i64 λ_=>z.base,.int .i64 λ_=>(z.chs.length:Int),
 .int .i64 λ_=>(z.chs.getD 0 default).at_,.int .i64 λ_=>(z.chs.getD 0 default).by_,.int .i64 λ_=>(z.chs.getD 1 default).at_,.int .i64 λ_=>(z.chs.getD 1 default).by_,.int .i64 λ_=>(z.chs.getD 2 default).at_,.int .i64 λ_=>(z.chs.getD 2 default).by_]
theorem c73 (b:Xv) (day:Int):SC (λ_=>aB) 145 [Zd b,.int .i64 λ_=>day] [] λv h=>v=lst 3 encTrain default (QS b day)/\h=[]:=by
 refine QO Tryz.func145 (body:=Zj Tryz.f145) rfl (by decide+kernel) ?_;unfold Zd QS;refine wS ?_;refine⟨λA=>?_,λA=>?_⟩
 ·simp only[iR]at A;rw[iQ A];exact zW
 simp only[iS]at A;rw[iP A];exact zW
theorem Zni (n:Int) (h:0<=n) (A:n<=1000000000):IntKind.i64.wrap ((BitVec.ofInt IntKind.i64.bits n&&&BitVec.ofInt IntKind.i64.bits 1).toNat:Int)=n%2:=by
 have e:(BitVec.ofInt IntKind.i64.bits n&&&BitVec.ofInt IntKind.i64.bits 1).toNat=n.toNat%2:=by
  rw[BitVec.toNat_and,BitVec.toNat_ofInt,BitVec.toNat_ofInt];show(n%((2^ 64:Nat):Int)).toNat&&&(1%((2^ 64:Nat):Int)).toNat=_;rw[show(1%((2^ 64:Nat):Int)).toNat=1 from rfl,Nat.and_one_is_mod,show n%((2^ 64:Nat):Int)=n from Int.emod_eq_of_lt h (by omega)]
 rw[e];have:((n.toNat%2:Nat):Int)=n%2:=by omega
 rw[this];simp only[IntKind.wrap,IntKind.signed,IntKind.bits];simp;omega
theorem c76 (t:Train) (day:Int) (G:0<=day/\day<=1000000) (A:0<=t.days/\t.days<=1000000):SC (λ_=>aB) 148 [.agg (encTrain t),.int .i64 λ_=>day] [] λv h=>v= .bool (λ_=>Zb4 t day)/\h=[]:=by
 refine QO Tryz.func148 (body:=Zj Tryz.f148) rfl (by decide+kernel) ?_;have e:=(ZtF day 7).1 G.1;refine vS ?_;rw[e];refine Chk.mk (ZH) ?_;refine vS ?_;refine⟨?_,trivial⟩;congr 1;funext _;rw[Nat.min_eq_left (show(day%7).toNat<=IntKind.i64.bits by show _<=64;omega),Int.fdiv_eq_ediv_of_nonneg _ (gA (gN (by omega)))];have H:0<=t.days/2^(day%7).toNat:=Int.ediv_nonneg A.1 (gA (gN (by omega)));have I:t.days/2^(day%7).toNat<=t.days:=Int.ediv_le_self _ A.1;unfold Zb4;generalize t.days/2^(day%7).toNat=q at*;rw[Zni q H (by omega),ZbI]
theorem Zwy {A:(α:Type)->α->List α->Int->α} (O:∀(α:Type) (d:α) (l:List α) (i:Int),A α d l i=l.getD i.toNat d) (f:Chg->Int) (G:f default=0) (l:List Chg) (i:Nat):(bif decide ((i:Int)<(l.length:Int))then f (A Chg default l (i:Int))else 0)=f (l.getD i default):=by
 rw[O,aW];by_cases h:i<l.length
 ·rw[iX (show(i:Int)<(l.length:Int) by omega)];rfl
 rw[iW (show¬(i:Int)<(l.length:Int) by omega),aA,List.getElem?_eq_none (by omega)];exact G.symm
theorem Zxh (z:Zone) (I:z.chs.length<=3):SC (λ_=>aB) 184 [Ze z] [] λv h=>v=ZxI z/\h=[]:=by
 obtain⟨H,O⟩:=Zn;unfold Ze;simp only[Za O];refine QO Tryz.func184 (body:=Zj Tryz.f184) rfl (by decide+kernel) ?_;refine wS ?_;refine⟨?_,trivial⟩;have A:=Zwy O (λc=>c.at_) rfl z.chs;have G:=Zwy O (λc=>c.by_) rfl z.chs;simp only[A,G]
theorem ZyK (t:Train) (n:Int):SC (λ_=>aB) 182 [.agg (encTrain t),.iptr [.int .i64 λ_=>n] 0] [] λv h=>v= .bool (λ_=>decide (t.number=n))/\h=[]:=by
 refine QO Tryz.func182 (body:=Zj Tryz.f182) rfl (by decide+kernel) ?_;refine wS ?_;exact⟨by simp only[ZbI],trivial⟩
theorem c75 (n:Int):SC (λ_=>aB) 147 [.int .i64 λ_=>n] [] λv h=>v= .fn 182 [] [.iptr [.int .i64 λ_=>n] 0]/\h=[]:=by
 refine QO Tryz.func147 (body:=Zj Tryz.f147) rfl (by decide+kernel) ?_;exact wZ
def knA:Option Zone->AV
 |none=>.isl 0 (λ_=>0) (λ_=>[]) .nil
 |some z=>lst 3 Zfn default (ZW z)
def ZwP (z:Zone):List AV:=[.int .i64 λ_=>z.base,.int .i64 λ_=>(z.chs.length:Int),
 .int .i64 λ_=>(z.chs.getD 0 default).at_,.int .i64 λ_=>(z.chs.getD 0 default).by_,.int .i64 λ_=>(z.chs.getD 1 default).at_,.int .i64 λ_=>(z.chs.getD 1 default).by_,.int .i64 λ_=>(z.chs.getD 2 default).at_,.int .i64 λ_=>(z.chs.getD 2 default).by_]
def Zfx:Option Zone->List AV
 |none=>[iA 0,iA 0,iA 0,iA 0,iA 0,iA 0,iA 0,iA 0]
 |some z=>ZwP z
theorem Zs9 {z A:Zone} (h0:z.chs.length<=3) (hb:z.base=A.base) (Y:z.chs.length=A.chs.length) (V:(z.chs.getD 0 default).at_=(A.chs.getD 0 default).at_) (b0:(z.chs.getD 0 default).by_=(A.chs.getD 0 default).by_)
  (Z:(z.chs.getD 1 default).at_=(A.chs.getD 1 default).at_) (b1:(z.chs.getD 1 default).by_=(A.chs.getD 1 default).by_) (a2:(z.chs.getD 2 default).at_=(A.chs.getD 2 default).at_) (b2:(z.chs.getD 2 default).by_=(A.chs.getD 2 default).by_):z=A:=by
 obtain⟨b,l⟩:=z;obtain⟨b',l'⟩:=A;have ext:∀c G:Chg,c.at_=G.at_->c.by_=G.by_->c=G:=λc G I H=>by cases c;cases G;simp_all
 dsimp only at*;subst hb;congr 1;refine List.ext_getElem Y λi I H=>?_;have J:=ext _ _ V b0;have S:=ext _ _ Z b1;have U:=ext _ _ a2 b2;have hi:i=0\/i=1\/i=2:=by omega
 simp only[aA]at J S U;rcases hi with rfl|rfl|rfl
 ·simpa [aC I,aC H]using J
 ·simpa [aC I,aC H]using S
 simpa [aC I,aC H]using U
theorem Zvz (b:Xv) (H m day G:Int) (o:Option Zone) (A:∀z∈b.zones,ZB z=0) (ho:∀z,o=some z->ZB z=0) (hz:0<=H/\H<b.zones.length) (hm:0<=m/\m<=10000) (hd:0<=day/\day<=100):
  SC (λ_=>aB) 183 [.int .i64 λ_=>H,.int .i64 λ_=>m,.ptr 0 0,.ptr 1 0,.ptr 2 0,.ptr 3 0,.ptr 4 0] [.cells [lst 2 encZone default b.zones,lst 3 encTrain default b.old,lst 3 encTrain default b.new,.int .i64 λ_=>b.night,.int .i64 λ_=>b.last],.cells [knA o],.cells (Zfx o),.cells [.int .i64 λ_=>day],.cells [.int .i64 λ_=>G]]
   λv h=>v= .int .i64 (λ_=>Xl (ZW (b.zones.getD H.toNat default)) (1440*day+m) G)/\h=[.cells [lst 2 encZone default b.zones,lst 3 encTrain default b.old,lst 3 encTrain default b.new,.int .i64 λ_=>b.night,.int .i64 λ_=>b.last],.cells [knA (some (b.zones.getD H.toNat default))],.cells (ZwP (b.zones.getD H.toNat default)),.cells [.int .i64 λ_=>day],.cells [.int .i64 λ_=>Xl (ZW (b.zones.getD H.toNat default)) (1440*day+m) G]]:=by
 obtain⟨nt,O⟩:=Zn;obtain⟨k,rfl⟩:∃k:Nat,H=k:=⟨H.toNat,by omega⟩;have U:b.zones.getD (k:Int).toNat default=nt Zone default b.zones k:=by rw[O]
 have hv:=A _ (QC (d:=default) O (l:=b.zones) (i:=k) (by omega));rw[U];refine QO Tryz.func183 (body:=Zj Tryz.f183) rfl (by decide+kernel) ?_;simp only[Za O];obtain⟨z,J⟩:∃z,nt Zone default b.zones (k:Int)=z:=⟨_,rfl⟩;rw[J]at hv U|-;have S:=(Zcv hv).2.2.1;cases o with
 |none=>
  unfold knA Zfx;refine wS ?_;simp only[J];refine ZcX (Zxh z S) ?_;have I:=JU (ZaQ hv);refine wS ?_;refine Br.isT rfl ?_;refine wS ?_;simp only[J];refine ZcX (c90 z (ZaQ hv)) ?_;generalize hL:ZW z=L at*;refine wS ?_;refine ZcX (c91 day m (by omega) (by omega)) ?_;refine wS ?_;refine ZcX (c92 L (1440*day+m) G (by omega) I.2.2 (by omega)) ?_;(cbv;try simp only[nc]at*);((try simp only[Jt O,and_self,and_true,true_and]);(try rfl))
 |some Y=>
  have Z:=ho Y rfl;have aa:=JU (ZaQ Z);unfold knA Zfx;simp only;generalize V:ZW Y=L' at*;simp only[Za O];refine wS ?_;simp only[J];refine ZcX (Zxh z S) ?_;have I:=JU (ZaQ hv);refine wS ?_;refine⟨λA=>?_,λA=>?_⟩
  ·refine wS ?_;simp only[J];refine ZcX (c90 z (ZaQ hv)) ?_;generalize hL:ZW z=L at*;refine wS ?_;refine ZcX (c91 day m (by omega) (by omega)) ?_;refine wS ?_;refine ZcX (c92 L (1440*day+m) G (by omega) I.2.2 (by omega)) ?_;(cbv;try simp only[nc]at*);((try simp only[Jt O,and_self,and_true,true_and]);(try rfl))
  have he:z=Y:=by
   simp at A;exact Zs9 S A.1 (by have:=A.2.1;omega) A.2.2.1 A.2.2.2.1 A.2.2.2.2.1 A.2.2.2.2.2.1 A.2.2.2.2.2.2.1 A.2.2.2.2.2.2.2
  subst he;rw[V]at I;refine wS ?_;refine ZcX (c91 day m (by omega) (by omega)) ?_;refine wS ?_;refine ZcX (c92 L' (1440*day+m) G (by omega) I.2.2 (by omega)) ?_;rw[V];(cbv;try simp only[nc]at*);((try simp only[Jt O,and_self,and_true,true_and]);(try rfl))
def X2 (c:Sp.Call):List AV:=[.int .i64 λ_=>c.station,.int .i64 λ_=>c.arrive,.int .i64 λ_=>c.depart]
def ZsJ (t:Train) (day:Int) (l:List Sp.Call):AV:=.agg (encTrain t++[.int .i64 λ_=>day,lst 3 X2 default l])
theorem c77 (b:Xv) (t:Train) (day:Int) (U:∀z∈b.zones,ZB z=0) (ht:∀s∈t.stops,(0<=s.zone/\s.zone<b.zones.length)/\(0<=s.arrive/\s.arrive<=10000)/\0<=s.depart/\s.depart<=10000) (ai:2<=t.stops.length/\t.stops.length<=1000) (hd:0<=day/\day<=100):
  SC (λ_=>aB) 149 [Zd b,.agg (encTrain t),.int .i64 λ_=>day] [] λv h=>v=ZsJ t day (calls b.zones t day)/\h=[]:=by
 obtain⟨I,O⟩:=Zn;refine SC.less (QO Tryz.func149 (body:=Zj Tryz.f149) rfl (by decide+kernel) ?_);unfold Zd;rw[show AV.agg (encTrain t)= .agg [.int .i64 λ_=>t.number,.int .i64 λ_=>t.days,.isl 4 (λ_=>(t.stops.length:Int)) (λe=>Q5 (I Stop default t.stops (e ()))) .none] by unfold encTrain;rw[Za O]];refine wS ?_;refine ZJ false false [] [4,5,6,10,11,17,18,19] [.tok 3 λ_=>0] (λ(⟨i,G,o,out⟩:Nat×Int×Option Zone×List Sp.Call)=>[(11,.isl 3 (λ_=>(out.length:Int)) (λe=>X2 (I Sp.Call default out (e ()))) (.own 7)),(19,.int .i64 λ_=>i)])
  (λ⟨i,G,o,out⟩=>[(4,.cells [.int .i64 λ_=>G]),(5,.cells (Zfx o)),(6,.cells [knA o]),(7,.tok 3 λ_=>(out.length:Int))])
  (λ⟨i,G,o,out⟩=>(i<=t.stops.length/\out.length=i/\calls b.zones t day=out++Xj b.zones day t.stops.length i G (t.stops.drop i))/\(∀z,o=some z->ZB z=0)/\(i=0↔o=none)) (λi=>t.stops.length-i.1+0) (0,0,none,[]) ⟨⟨aV _,rfl,rfl⟩,(λz h=>by cases h),by simp⟩ ?_ ?_
 ·(refine To.of [(3,false)] ?_;cbv;(try simp only[nc]);(repeat' first|exact xT|refine⟨?_,?_⟩|refine ZM.cells ?_|refine ZC.agg ?_|refine ZC.tup ?_);all_goals try exact XZ)
 rintro⟨i,G,o,out⟩ ⟨⟨hi,ho,A⟩,hk,hio⟩
 have ac:∀k:Nat,k<t.stops.length->ZB (b.zones.getD (I Stop default t.stops (k:Int)).zone.toNat default)=0:=λk hk=>U _ (by
  have:=ht _ (QC (d:=default) O (l:=t.stops) (i:=k) hk)
  rw[aA,aC (by omega)];exact bL _)
 cases o with
 |none=>
  have ae:=hio.2 rfl;subst ae;unfold knA Zfx;refine wS ?_;refine Br.isT (by simp;omega) ?_;have ab:=Qs (d:=default) O (l:=t.stops) (i:=0) (by omega);have J:=ht _ (QC (d:=default) O (l:=t.stops) (i:=0) (by omega));have Z:=ac 0 (by omega);rw[ab,Xj,iQ rfl,iQ (by omega)]at A;have H:=Zvz b (I Stop default t.stops ((0:Nat):Int)).zone (I Stop default t.stops ((0:Nat):Int)).depart day G none U (λz h=>by cases h) J.1 J.2.2 hd;simp only[knA,Zfx]at H;refine wS ?_;refine Br.isF rfl ?_;refine wS ?_;refine Br.isT (by simp;omega) ?_;refine wS ?_;generalize I Stop default t.stops ((0:Nat):Int)=s at*;refine cL0 [0,6,5,2,4] (H) λr Y A=>?_;(try simp only[Ze,Zd,Za O]at A);obtain⟨rfl,rfl⟩:=A;try dsimp only at A
  generalize b.zones.getD s.zone.toNat default=z at*;generalize hL:ZW z=L at*;generalize Xl L (1440*day+s.depart) G=d at*;refine wS ?_;refine Br.isT rfl ?_;refine wS ?_;refine⟨(1,d,some z,out++[⟨s.station,d,d⟩]),⟨⟨by omega,by simp only[bf,bF,cE];omega,by rw[A];simp⟩,λV h=>by cases h;exact Z,by simp⟩,by show t.stops.length-1+0<t.stops.length-0+0;omega,?_⟩;simp only[knA,Zfx,hL];exact ZG
 |some V=>
  have ae:0<i:=Nat.pos_of_ne_zero λh=>by have:=hio.1 h;cases this
  unfold knA Zfx;simp only;generalize ah:ZW V=L' at*;refine wS ?_;refine⟨λhb=>?_,λhb=>?_⟩
  ·simp only[iR]at hb;have ab:=Qs (d:=default) O (l:=t.stops) (i:=i) (by omega);have J:=ht _ (QC (d:=default) O (l:=t.stops) (i:=i) (by omega));have Z:=ac i (by omega);rw[ab,Xj,iP (by omega)]at A;have H:=Zvz b (I Stop default t.stops (i:Int)).zone (I Stop default t.stops (i:Int)).arrive day G (some V) U hk J.1 J.2.1 hd;simp only[knA,Zfx,ah]at H;refine wS ?_;refine Br.isT (by simp;omega) ?_;refine wS ?_;generalize I Stop default t.stops (i:Int)=s at*;refine cL0 [0,6,5,2,4] (H) λr Y A=>?_;(try simp only[Ze,Zd,Za O]at A);obtain⟨rfl,rfl⟩:=A;have S:=λG=>Zvz b s.zone s.depart day G (some (b.zones.getD s.zone.toNat default)) U (λz h=>by cases h;exact Z) J.1 J.2.2 hd;try dsimp only at A
   simp only[knA,Zfx]at S;generalize b.zones.getD s.zone.toNat default=z at*;generalize hL:ZW z=L at*;generalize Xl L (1440*day+s.arrive) G=a at*;refine wS ?_;refine⟨λaa=>?_,λaa=>?_⟩
   ·simp only[iR]at aa;rw[iQ (by omega)]at A;refine wS ?_;refine cL0 [0,6,5,2,4] (S a) λr Y A=>?_;(try simp only[Ze,Zd,Za O]at A);obtain⟨rfl,rfl⟩:=A;generalize Xl L (1440*day+s.depart) a=d at*;refine wS ?_;refine Br.isF (by simp;omega) ?_;refine wS ?_;refine⟨(i+1,d,some z,out++[⟨s.station,a,d⟩]),⟨⟨by omega,by simp only[bf,bF,cE];omega,by rw[A];simp⟩,λV h=>by cases h;exact Z,by simp⟩,by show t.stops.length-(i+1)+0<t.stops.length-i+0;omega,?_⟩;simp only[knA,Zfx,hL];exact ZG
   simp only[iS]at aa;rw[iP (by omega)]at A;refine wS ?_;refine Br.isF (by simp;omega) ?_;refine wS ?_;refine⟨(i+1,a,some z,out++[⟨s.station,a,a⟩]),⟨⟨by omega,by simp only[bf,bF,cE];omega,by rw[A];simp⟩,λV h=>by cases h;exact Z,by simp⟩,by show t.stops.length-(i+1)+0<t.stops.length-i+0;omega,?_⟩;simp only[knA,Zfx,hL];exact ZG
  simp only[iS]at hb;rw[bB (by omega),Xj,List.append_nil]at A;rw[A];refine wS ?_;refine⟨ZsJ t day out,[],?_,rfl,rfl⟩;unfold ZsJ encTrain;simp only[Za O];exact ZG
theorem c74 (l:List Train) (n:Int) (S:l.length<=1000000):SC (λ_=>aB) 146 [lst 3 encTrain default l,.fn 182 [] [.iptr [.int .i64 λ_=>n] 0]] [] λv h=>v= .int .i64 (λ_=>place l n)/\h=[]:=by
 obtain⟨J,O⟩:=Zn;rw[Za O];unfold place;refine QO Tryz.func146 (body:=Zj Tryz.f146) rfl (by decide+kernel) ?_;refine wS ?_;refine ZJ false false [] [0,1,7,8] [] (λ(i:Nat)=>[(8,.int .i64 λ_=>i)]) (λ_=>[]) (λi=>i<=l.length/\Zr (λt=>decide (t.number=n)) 0 l=Zr (λt=>decide (t.number=n)) i (l.drop i)) (λi=>l.length-i+0) 0 ⟨aV _,by simp⟩ ?_ ?_
 ·exact ZG
 rintro i ⟨U,A⟩;refine wS ?_;refine⟨λH=>?_,λH=>?_⟩
 ·simp only[iR]at H;have I:=Qs (d:=default) O (l:=l) (i:=i) (by omega);rw[I,Zr]at A;refine wS ?_;refine ZcX (ZyK (J Train default l i) n) ?_;refine vS ?_;refine⟨λG=>?_,λG=>?_⟩
  ·rw[iQ G]at A;refine wS ?_;exact⟨by rw[A],trivial⟩
  rw[iP (by rw[G];exact aO)]at A;refine wS ?_;refine⟨i+1,⟨by omega,A⟩,by show l.length-(i+1)+0<l.length-i+0;omega,?_⟩;exact ZG
 simp only[iS]at H;rw[bB (by omega),Zr]at A;refine wS ?_;exact⟨by rw[A],trivial⟩
theorem ZZ {f:Nat->Int}:∀ {k i:Nat},Zo f i k=0->∀j,i<=j->j<i+k->f j=0
 |0,i,_,j,h1,h2=>by omega
 |k+1,i,h,j,h1,h2=>by
  unfold Zo at h;split at h
  ·rename_i G;exact absurd h G
  rename_i A;have A:f i=0:=bO A;by_cases hj:j=i
  ·subst hj;exact A
  exact ZZ h j (by omega) (by omega)
structure Zrx (zones:Int) (s:Stop):Prop where
 station:0<=s.station/\s.station<=9
 zone:0<=s.zone/\s.zone<zones
 arrive:0<=s.arrive/\s.arrive<=4319
 depart:0<=s.depart/\s.depart<=4319
structure Zd5 (zones:Int) (t:Train):Prop where
 number:1<=t.number/\t.number<=999
 days:1<=t.days/\t.days<=127
 len:2<=t.stops.length/\t.stops.length<=4
 stops:∀s∈t.stops,Zrx zones s
structure Zmx (b:Xv):Prop where
 zlen:1<=b.zones.length/\b.zones.length<=3
 zones:∀z∈b.zones,ZB z=0
 olen:b.old.length<=4
 nlen:b.new.length<=4
 old:∀t∈b.old,Zd5 b.zones.length t
 new:∀t∈b.new,Zd5 b.zones.length t
 last:0<=b.last/\b.last<=13
 night:0<=b.night/\b.night<=b.last+1
theorem ZaG {n a b:Int} (h:Y6 n a b=true):a<=n/\n<=b:=by simpa [Y6]using h
theorem Zdl {n a b:Int} (h:ZS n a b=0):a<=n/\n<=b:=by
 unfold ZS at h;split at h
 ·cases h
 split at h
 ·cases h
 omega
theorem ZsB {zones:Int} {l:List Stop} {i:Nat} (h:Xb zones l i=0):Zrx zones (l.getD i default):=by
 unfold Xb Y4 at h;split at h
 ·cases h
 rename_i H;split at h
 ·cases h
 split at h
 ·cases h
 rename_i G;split at h
 ·cases h
 rename_i A;simp only[cG,fJ,cX,not_or]at H G A;have J:=ZaG H;have U:=ZaG G;have S:=ZaG A.1;have I:=ZaG A.2;exact⟨J,by omega,S,I⟩
theorem JB {α:Type} {d:α} {l:List α} {x:α} (h:x∈l):∃i,i<l.length/\l.getD i d=x:=by
 obtain⟨i,A,rfl⟩:=List.mem_iff_getElem.1 h;exact⟨i,A,by rw[aA,aC A];rfl⟩
theorem ZhO {zones:Int} {l:List Train} (h:Qe zones l=0):l.length<=4/\∀t∈l,Zd5 zones t:=by
 unfold Qe at h;split at h
 ·rename_i A;exact absurd h A
 rename_i J;have J:=Zdl (bO J);refine⟨by omega,λt U=>?_⟩;obtain⟨i,Y,rfl⟩:=JB (d:=default) U;have h:=ZZ h i (by omega) (by omega);unfold QP at h;split at h
 ·cases h
 rename_i H;split at h
 ·cases h
 split at h
 ·cases h
 rename_i G;split at h
 ·rename_i A;exact absurd h A
 rename_i I;have I:=Zdl (bO I);simp only[cG,fJ]at H G;refine⟨ZaG H,ZaG G,by omega,λs S=>?_⟩;obtain⟨j,V,rfl⟩:=JB (d:=default) S;exact ZsB (ZZ h j (by omega) (by omega))
theorem ZcO {b:Xv} (h:Yq b=0):Zmx b:=by
 unfold Yq at h;split at h
 ·rename_i A;exact absurd h A
 rename_i S;split at h
 ·rename_i A;exact absurd h A
 rename_i I;split at h
 ·rename_i A;exact absurd h A
 rename_i H;split at h
 ·rename_i A;exact absurd h A
 rename_i G;split at h
 ·cases h
 rename_i J;have S:=Zdl (bO S);have I:=ZZ (bO I);have H:=ZhO (bO H);have G:=ZhO (bO G);simp only[cG,fJ,cX,not_or]at J;refine⟨by omega,λz U=>?_,H.1,G.1,H.2,G.2,ZaG J.1,ZaG J.2⟩;obtain⟨j,V,rfl⟩:=JB (d:=default) U;exact I j (by omega) (by omega)
theorem Zf1 {b:Xv} (h:Zmx b) (day:Int):(QS b day).length<=4/\∀t∈QS b day,Zd5 b.zones.length t:=by
 unfold QS;split
 ·exact⟨h.olen,h.old⟩
 exact⟨h.nlen,h.new⟩
theorem Xi {α:Type} {q:α->Bool}:∀ {l:List α} {i:Int},0<=i->Zr q i l<i+l.length/\(Zr q i l=-1\/i<=Zr q i l)
 |[],i,h=>by simp[Zr];omega
 |a::l,i,h=>by
  simp only[Zr];split
  ·simp;omega
  have:=Xi (q:=q) (l:=l) (i:=i+1) (by omega);simp only[bF];omega
theorem c26 (b:Xv) (n day:Int) (hf:Xt b):SC (λ_=>aB) 93 [Zd b,.int .i64 λ_=>n,.int .i64 λ_=>day] [] λv h=>v= .tup [lst 3 X2 default (J1 b n day).1,.int .i64 λ_=>(J1 b n day).2]/\h=[]:=by
 obtain⟨I,O⟩:=Zn;refine SC.less (QO Tryz.func93 (body:=Zj Tryz.f93) rfl (by decide+kernel) ?_);unfold Zd J1;simp only[Za O];refine wS ?_;refine ZcX (c28 b hf) ?_;have J:=λh=>ZcO (b:=b) h;generalize Yq b=e at*;refine vS ?_;refine⟨λA=>?_,λA=>?_⟩
 ·simp only[bne_iff_ne,ne_eq]at A;rw[iQ A];refine wS ?_;refine⟨_,[],?_,rfl,rfl⟩;exact ZG
 simp only[iY]at A;have H:=J A;subst A;rw[iP (λh=>h rfl)];refine wS ?_;refine ZcX (c67 day 0 b.last) ?_;refine vS ?_;refine⟨λA=>?_,λA=>?_⟩
 ·rw[iQ A];refine wS ?_;refine⟨_,[],?_,rfl,rfl⟩;exact ZG
 rw[iP (by rw[A];exact aO)];have aa:=ZaG (by simpa using A:Y6 day 0 b.last=true);have Y:=H.last;have S:=Zf1 H day;refine wS ?_;refine ZcX (c73 b day) ?_;generalize QS b day=l at*;refine wS ?_;refine ZcX (c75 n) ?_;refine wS ?_;refine ZcX (c74 l n (by omega)) ?_;have ab:place l n<l.length/\(place l n=-1\/0<=place l n):=by have:=Xi (q:=λt:Train=>decide (t.number=n)) (l:=l) (i:=0) (by omega);unfold place;omega
 generalize place l n=p at*;refine vS ?_;refine⟨λA=>?_,λA=>?_⟩
 ·simp only[iR]at A;rw[iQ A];refine wS ?_;refine⟨_,[],?_,rfl,rfl⟩;exact ZG
 simp only[iS]at A;rw[iP A];refine wS ?_;obtain⟨k,rfl⟩:∃k:Nat,p=k:=⟨p.toNat,by omega⟩;have G:=S.2 _ (QC (d:=default) O (l:=l) (i:=k) (by omega));have U:l.getD (k:Int).toNat default=I Train default l k:=by rw[O]
 rw[U];refine wS ?_;have V:=G.days;refine ZcX (c76 (I Train default l k) day (by omega) (by omega)) ?_;refine vS ?_;refine⟨λA=>?_,λA=>?_⟩
 ·rw[iQ A];refine wS ?_;refine⟨_,[],?_,rfl,rfl⟩;exact ZG
 rw[iP (by rw[A];exact aO)];refine wS ?_;have Z:=G.len;refine ZcX (c77 b (I Train default l k) day H.zones (λs hs=>by obtain⟨_,h1,h2,h3⟩:=G.stops s hs;omega) (by omega) (by omega)) ?_;unfold ZsJ;generalize calls b.zones (I Train default l k) day=C at*;refine wS ?_;refine⟨_,[],?_,rfl,rfl⟩;simp only[Jt O];exact ZG
end Vm
namespace Vm
open Go Go.Proofs Sp
open Go.ChangeShapes Go.WideShapes Go.ChangeAt Go.RowKit
section
variable {H:Type} {he:TypeId×Value->H} {P:Program} {w:World}
def Opn (G:TypeId×Value->H) (P:Program) (w:World) (t:TypeId) (s:Nat) {α:Type} (enc:α->List AV) (Q:α->Prop):Prop:=
 ∀(A:Nat) (cs:List Value) (x:DataW H×List MemPlace),DataW.trod G P w 0 (λ_=>true) true A t cs=some x->
  cs.length=s/\∃a,Q a/\(enc a).length=s/\∀(j:Nat) (c:AV),(enc a)[j]? =some c->PR w (λb _ _=>b<w.heap.size) c (cs.getD j undef)
theorem ZsQ {t:TypeId} (H:P.underlying t=some (.int .i64)):Opn he P w t 1 (λn:Int=>[.int .i64 λ_=>n]) (λn=>-9223372036854775808<=n/\n<=9223372036854775807):=λG cs x h=>by
 obtain⟨n,rfl,_,hw⟩:=DataW.trod_int H h;refine⟨rfl,n,bounds_i64 hw,rfl,λj c A=>?_⟩;cases j with
 |zero=>simp only[bJ,aD]at A;subst A;exact .int .i64 _
 |succ j=>simp at A
theorem Ztk {w:World} {b o:Nat} {v:Value} (h:w.cell? ⟨b,o,none⟩=some v):b<w.heap.size:=by
 by_cases hb:b<w.heap.size
 ·exact hb
 rw[World.cell?,Array.getElem?_eq_none (Nat.le_of_not_lt hb)]at h;cases h
theorem X8 {t e:TypeId} {s:Nat} {α:Type} [Inhabited α] {enc:α->List AV} {Q:α->Prop} {d:α} (ht:P.underlying t=some (.slice e)) (hs:P.cellsOf e=s) (h0:0<s) (hE:Opn he P w e s enc Q):
  Opn he P w t 1 (λl:List α=>[lst s enc d l]) (λl=>(∀a∈l,Q a)/\(l.length:Int)<=9223372036854775807):=λal cs x h=>by
 have one:∀(l:List α) (v:Value),PR w (λb _ _=>b<w.heap.size) (lst s enc d l) v->∀(j:Nat) (c:AV),[lst s enc d l][j]? =some c->PR w (λb _ _=>b<w.heap.size) c ([v].getD j undef):=λl v hp j c G=>by
  cases j with
  |zero=>simp only[bJ,aD]at G;subst G;exact hp
  |succ j=>simp at G
 rcases Go.Deep.open_slice ht h with⟨rfl,_⟩|⟨a,len,aj,m,n,D,Pl,rfl,hb,hl,hm,J,_,hx⟩
 ·exact⟨rfl,[],⟨by simp,by simp⟩,rfl,one _ _ (.isl0 _ _ _ _ rfl rfl)⟩
 have J:m=aj:=by rw[J];rfl
 subst J;rcases cJ m with I|I
 ·have ah:len=0:=by omega
  subst I ah;exact⟨rfl,[],⟨by simp,by simp⟩,rfl,one _ _ (.islE _ _ _ _ a rfl (.inl rfl))⟩
 rw[hs]at hx;obtain⟨b,o,aa⟩:=a;have Y:aa=none:=by
  obtain⟨ak,U,_⟩:=hx 0 I;obtain⟨_,ab,hc⟩:=World.cells?_some U;have:=hc 0 h0;rw[aC (by omega)]at this;simpa [Addr.add]using World.cell?_spot this
 subst Y;have V:∀i,i<m->∃a,Q a/\(enc a).length=s/\∀(j:Nat) (c:AV),(enc a)[j]? =some c->∃v,w.cell? ⟨b,o+i*s+j,none⟩=some v/\PR w (λb _ _=>b<w.heap.size) c v:=λi H=>by
  obtain⟨ak,U,h2⟩:=hx i H;obtain⟨_,ab,hc⟩:=World.cells?_some U;obtain⟨_,a,g1,g2,g3⟩:=hE _ _ _ h2;refine⟨a,g1,g2,λj c G=>?_⟩;have ai:j<s:=by rw[<-g2];exact(aE.1 G).1
  have Z:=hc j ai;rw[Go.WideShapes.add_plain,Go.WideShapes.add_plain,aC (by omega)]at Z;refine⟨_,Z,?_⟩;have:=g3 j c G;rw[aA,aC (by omega)]at this;exact this
 obtain⟨A,S⟩:=Go.Deep.choose_lt V;have ae:b<w.heap.size:=by
  obtain⟨U,h2,h3⟩:=S 0 I;obtain⟨v,hv,_⟩:=h3 0 _ (aC (by omega));exact Ztk hv
 have hg:∀i,i<len->((aT len).map A).getD i d=A i:=λi H=>by
  rw[aA];simp[H]
 have ac:(len:Int)<=9223372036854775807:=by unfold maxLen at hm;omega
 refine⟨rfl,(aT len).map A,⟨λy hy=>?_,by simpa using ac⟩,rfl,one _ _ ?_⟩
 ·obtain⟨i,H,rfl⟩:=List.mem_map.1 hy;exact(S i (by have:=List.mem_range.1 H;omega)).1
 refine .isl _ _ _ _ b o len m (λi j=>(w.cell? ⟨b,o+i*s+j,none⟩).getD undef) (by simp) hl (.inl rfl) (λe=>by cases e) (λi H=>?_) (λi j c H G=>?_) (λi j c H G=>?_) ae
 ·unfold Zev;simp only[aW,hg i H];exact(S i (by omega)).2.1
 ·unfold Zev at G;simp only[aW,hg i H]at G;obtain⟨v,hv,_⟩:=(S i (by omega)).2.2 j c G;rw[hv];rfl
 unfold Zev at G;simp only[aW,hg i H]at G;obtain⟨v,hv,hp⟩:=(S i (by omega)).2.2 j c G;rw[hv];exact hp
def Zdu (A:TypeId×Value->H) (P:Program) (w:World) (f:Field) (o:Nat) {α:Type} (v:α->AV) (Q:α->Prop):Prop:=f.offset=o/\P.cellsOf f.type=1/\Opn A P w f.type 1 (λa=>[v a]) Q
theorem QH {A:Array Field} {m:Nat} {cs:List Value} {xs:List (DataW H×List MemPlace)} {i:Nat} {f:Field} {o:Nat} {α:Type} {v:α->AV} {Q:α->Prop} (G:A[i]? =some f) (hF:Zdu he P w f o v Q)
  (hx:∀(i:Nat) (f:Field),A[i]? =some f->DataW.trod he P w 0 (λ_=>true) true m f.type ((cs.drop f.offset).take (P.cellsOf f.type))=xs[i]?) (S:xs.length=A.size):∃a,Q a/\PR w (λb _ _=>b<w.heap.size) (v a) (cs.getD o undef):=by
 obtain⟨V,U,Z⟩:=hF;have I:=hx i f G;have hi:i<xs.length:=by rw[S];exact(aM.1 G).1
 rw[aC hi,V,U]at I;obtain⟨h5,a,J,_,Y⟩:=Z _ _ _ I;refine⟨a,J,?_⟩;have:=Y 0 _ rfl;have e:((cs.drop o).take 1).getD 0 undef=cs.getD o undef:=by
  simp[aA,cR,cT]
 rw[e]at this;exact this
theorem QQ {w:World} {G:AV} {l:List AV} {cs:List Value} {k:Nat} (I:PR w (λb _ _=>b<w.heap.size) G (cs.getD k undef)) (H:∀(j:Nat) (c:AV),l[j]? =some c->PR w (λb _ _=>b<w.heap.size) c (cs.getD (k+1+j) undef)):
  ∀(j:Nat) (c:AV),(G::l)[j]? =some c->PR w (λb _ _=>b<w.heap.size) c (cs.getD (k+j) undef):=λj c A=>by
 cases j with
 |zero=>simp only[bJ,aD]at A;subst A;exact I
 |succ j=>rw[show k+(j+1)=k+1+j by omega];exact H j c (by simpa using A)
theorem ZcN {w:World} {cs:List Value} {k:Nat}:∀(j:Nat) (c:AV),([]:List AV)[j]? =some c->PR w (λb _ _=>b<w.heap.size) c (cs.getD (k+j) undef):=λj c A=>by simp at A
end
section
variable {H:Type} {he:TypeId×Value->H} {w:World}
def I64 (n:Int):Prop:=-9223372036854775808<=n/\n<=9223372036854775807
theorem Zqw {P:Program} {t:TypeId} {J S:Field} {α I:Type} {v0:α->AV} {U:I->AV} {Q0:α->Prop} {Z:I->Prop} {V:Type} {enc:V->List AV} (mk:α->I->V) (ht:P.underlying t=some (.struct #[J,S])) (hc:P.cellsOf t=2)
  (h0:Zdu he P w J 0 v0 Q0) (h1:Zdu he P w S 1 U Z) (G:∀a b,enc (mk a b)=[v0 a,U b]):Opn he P w t 2 enc (λz=>∃a b,z=mk a b/\Q0 a/\Z b):=λaa cs x h=>by
 obtain⟨xs,m,_,_,H,A,Y⟩:=DataW.trod_struct ht h;obtain⟨a,qa,pa⟩:=QH (i:=0) rfl h0 Y A;obtain⟨b,qb,pb⟩:=QH (i:=1) rfl h1 Y A;refine⟨H.trans hc,mk a b,⟨a,b,rfl,qa,qb⟩,by rw[G];rfl,?_⟩;rw[G];have:=QQ (k:=0) pa (QQ (k:=1) pb ZcN);simpa using this
theorem Opn.mono {P:Program} {t:TypeId} {s:Nat} {α:Type} {enc:α->List AV} {Q Q':α->Prop} (h:Opn he P w t s enc Q) (G:∀a,Q a->Q' a):Opn he P w t s enc Q':=λA cs x S=>by
 obtain⟨I,a,H,J⟩:=h A cs x S;exact⟨I,a,G a H,J⟩
theorem Znh {P:Program} {t:TypeId} {s:Nat} {Z:Array Field} {α:Type} {enc:α->List AV} {Q:α->Prop} (Y:P.underlying t=some (.struct Z)) (hO:Opn he P w t s enc Q) {base:Nat} {v:Value} {d:DataW H} {p:List MemPlace} (hv:Value.okWide P w .any base t v) (G:DataW.Trod he P w 0 (λ_=>true) true t v d p):
  ∃a,Q a/\VR (R0 w) (.agg (enc a)) v:=by
 obtain⟨cs,rfl,_⟩:=okWide_struct Y hv;obtain⟨I,J⟩:=G;obtain⟨A,a,U,h3,V⟩:=hO _ _ _ J;have A:cs.size=s:=by simpa [Value.cells]using A
 refine⟨a,U,.agg _ _ (by omega) λj c S=>?_⟩;have:=V j c S;refine .pure _ _ (show PR w (λb _ _=>b<w.heap.size) c _ from ?_);simpa [Value.cells,aI,aA]using this
theorem Zjv {P:Program} {t:TypeId} {α:Type} {x:α->AV} {Q:α->Prop} (U:Opn he P w t 1 (λa=>[x a]) Q) {v:Value} {d:DataW H} {p:List MemPlace} (V:v.cells= #[v]) (A:DataW.Trod he P w 0 (λ_=>true) true t v d p):
  ∃a,Q a/\VR (R0 w) (x a) v:=by
 obtain⟨G,I⟩:=A;obtain⟨_,a,J,_,S⟩:=U _ _ _ I;refine⟨a,J,.pure _ _ ?_⟩;have:=S 0 _ rfl;rw[V]at this;exact this
theorem ZkM {P:Program} {r:Reach} {base:Nat} {t e:TypeId} {v:Value} (A:P.underlying t=some (.slice e)) (h:Value.okWide P w r base t v):v.cells= #[v]:=by
 obtain⟨a,l,c,rfl⟩:=okWide_slice A h;rfl
theorem Zim {P:Program} {r:Reach} {base:Nat} {t:TypeId} {k:IntKind} {v:Value} (A:P.underlying t=some (.int k)) (h:Value.okWide P w r base t v):v.cells= #[v]:=by
 obtain⟨n,rfl⟩:=okWide_int A h;rfl
theorem Zqi {R:RC}:Yf R [] #[]:=⟨rfl,λj c h=>by simp at h⟩
theorem ZaT {R:RC} {c:AV} {l:List AV} {v:Value} {vs:List Value} (H:VR R c v) (G:Yf R l vs.toArray):Yf R (c::l) (v::vs).toArray:=by
 refine⟨by have:=G.1;simp at this|-;exact this,λj d A=>?_⟩;cases j with
 |zero=>simp only[bJ,aD]at A;subst A;exact H
 |succ j=>
  have:=G.2 j d (by simpa using A);simpa [aI]using this
def Zxt (c:Chg):Prop:=I64 c.at_/\I64 c.by_
def Zxk (z:Zone):Prop:=I64 z.base/\(∀c∈z.chs,Zxt c)/\(z.chs.length:Int)<=9223372036854775807
theorem on:Opn he aB w 3 1 (λn:Int=>[.int .i64 λ_=>n]) I64:=ZsQ Tryz.underlying3
theorem ol:Opn he aB w 33 1 (λl:List Int=>[lst 1 Xd 0 l]) (λl=>(l.length:Int)<=9223372036854775807):=(X8 (d:=0) Tryz.underlying33 (by decide+kernel) (by decide) on).mono λ_ h=>h.2
theorem oc:Opn he aB w 199 2 ZaL Zxt:=(Zqw (enc:=ZaL) Chg.mk Tryz.underlying199 (by decide+kernel) ⟨rfl,by decide+kernel,on⟩ ⟨rfl,by decide+kernel,on⟩ λ_ _=>rfl).mono λ_ ⟨_,_,e,A,G⟩=>by subst e;exact⟨A,G⟩
theorem oz:Opn he aB w 113 2 encZone Zxk:=(Zqw (enc:=encZone) Zone.mk Tryz.underlying113 (by decide+kernel) ⟨rfl,by decide+kernel,on⟩ ⟨rfl,by decide+kernel,X8 (d:=default) Tryz.underlying111 (by decide+kernel) (by decide) oc⟩ λ_ _=>rfl).mono λ_ ⟨_,_,e,A,G⟩=>by subst e;exact⟨A,G⟩
end
end Vm
namespace Sp
structure Z3 where
 number:Int
 day:Int
deriving DecidableEq,Inhabited
structure QR where
 feeder:Int
 train:Int
 station:Int
 minutes:Int
deriving DecidableEq,Inhabited
structure ZU where
 run:Int
 leg:Int
 by_:List Int
deriving DecidableEq,Inhabited
structure Zb where
 book:Xv
 runs:List Z3
 waits:List QR
 delays:List ZU
deriving Inhabited
structure Step where
 run:Int
 from_:Int
 to_:Int
deriving DecidableEq,Inhabited
structure Zl where
 from_:Int
 since:Int
 goal:Int
 steps:List Step
deriving DecidableEq,Inhabited
def Zx (l:List Call) (f st:Int):Int:=Zr (λc=>decide (c.station=st)) (max 0 f) (l.drop (max 0 f).toNat)
def ZD (l:List Call) (st:Int):Int:=Zx l 1 st
def ZQ (l:List Call) (st:Int):Int:=if Zx l 0 st<(l.length:Int)-1 then Zx l 0 st else-1
def Qq (n lo hi:Int):Bool:= !Y6 n lo hi
def ZfG (A no:Int):Int:=if no=0 then 1 else if A=0 then 2 else 3
def YM (l:List Call) (k:Nat):Int:=if(l.getD k default).arrive<=(l.getD (k-1) default).depart then 5 else 0
def Xe (l:List Call):Int:=Zo (YM l) 1 (l.length-1)
def YF (t:Zb) (r:Z3):List Call:=(J1 t.book r.number r.day).1
def Y9 (t:Zb) (i:Nat):Int:=
 if(J1 t.book (t.runs.getD i default).number (t.runs.getD i default).day).2≠0 then(J1 t.book (t.runs.getD i default).number (t.runs.getD i default).day).2
 else if Xe (YF t (t.runs.getD i default))≠0 then 5
 else if(t.runs.take i).any (λx=>decide (x=t.runs.getD i default))then 4 else 0
def QJ (t:Zb):Int:=if t.runs.length=0 then 7 else if 4<t.runs.length then 6 else Zo (Y9 t) 0 t.runs.length
def callsOf (t:Zb):List (List Call):=t.runs.map (YF t)
def Qf (c:List (List Call)) (w:QR) (A:List QR):Int:=
 if Qq w.feeder 0 (c.length-1)||Qq w.train 0 (c.length-1)then 3
 else if w.feeder=w.train then 4
 else if ZD (c.getD w.feeder.toNat []) w.station<0\/ZQ (c.getD w.train.toNat []) w.station<0 then 3
 else if Qq w.minutes 0 60 then 1
 else if((c.getD w.train.toNat []).getD (ZQ (c.getD w.train.toNat []) w.station).toNat default).depart<((c.getD w.feeder.toNat []).getD (ZD (c.getD w.feeder.toNat []) w.station).toNat default).arrive then 5
 else if A.any (λx=>decide (x.feeder=w.feeder/\x.train=w.train/\x.station=w.station))then 4 else 0
def ZeO (l:List Int) (k:Nat):Int:=if Qq (l.getD k 0) 0 240 then 1 else if 0<k/\l.getD k 0<=l.getD (k-1) 0 then 5 else 0
def Qy (c:List (List Call)) (d:ZU) (A:List ZU):Int:=
 if Qq d.run 0 (c.length-1)||Qq d.leg 0 ((c.getD d.run.toNat []).length-2)then 3
 else if d.by_.length=0 then 7
 else if 3<d.by_.length then 6
 else if Zo (ZeO d.by_) 0 d.by_.length≠0 then Zo (ZeO d.by_) 0 d.by_.length
 else if A.any (λx=>decide (x.run=d.run/\x.leg=d.leg))then 4 else 0
def Zq (t:Zb):Int:=
 if Sp.Yq t.book≠0 then Sp.Yq t.book
 else if QJ t≠0 then QJ t
 else if 4<t.waits.length then 6
 else if Zo (λi=>Qf (callsOf t) (t.waits.getD i default) (t.waits.take i)) 0 t.waits.length≠0 then Zo (λi=>Qf (callsOf t) (t.waits.getD i default) (t.waits.take i)) 0 t.waits.length
 else if 6<t.delays.length then 6
 else Zo (λi=>Qy (callsOf t) (t.delays.getD i default) (t.delays.take i)) 0 t.delays.length
end Sp
namespace Vm
open Go Go.Proofs Conc1
section
variable {T:Tb} {p:Unit->Program} {P:Program}
theorem YC.ofG (hT:T.Of (p ())) (hm:(p ()).follows .mixedOrders=true) (ai:T.fl=false) (bg:T.rd=true) {id:Nat} {xs:List AV} {h:List Zi} {S:AV->List Zi->Prop} {s:List AV} {d:Ziw} {n m:Nat} {D:List AV->List Zi->Prop} (hD:∀s ac,D s ac->W T p (Ztd h.length id S) m [.code d.x] s ac []) (hi:h[id]? =some (.loop s d)) (ak:xs.length=d.ps.size)
  (hW:W T p (ZvI D id) n [.code d.a] (Zfb d.ps.toList xs s) h []) (hz:zOk h=true:=by rfl):YC p id xs h S:=by
 have au:∀e s U c,Ztd h.length id S e s U c->ZV c:=λe s U c hk=>by cases e<;>exact(Qb hk).1
 have aw:∀e s U c,ZvI D id e s U c->ZV c:=λe s U c hk=>by
  cases e with
  |normal=>exact(Qb hk).1
  |_=>exact hk.elim
 refine YC.ofN hz λG R V H bc ha=>?_;obtain⟨ah,bk⟩:=ha;obtain⟨l,b1,b2,b3,b4,b5,b6,b7,_⟩:=H.loopSet hi;have aj:id<R.m:=H.len▸(aE.1 hi).1;have ar:V.size=l.params.size:=by rw[b2,<-ak,ah]
 refine⟨_,_,_,_,run_yield b1 ar,λc cs=>?_⟩;let b:FBr T.rd:=⟨⟨l.fn,false,some (R.α id).b,[]⟩,λhf=>by rw[bg]at hf;cases hf⟩;have a9:SL R (Zfb d.ps.toList xs s) ((l.params.zip V).foldl (λA (t,a)=>A.setIfInBounds t a) l.tmps):=by
  rw[<-Array.foldl_toList,Array.toList_zip,b2]
  exact ZjZ _ _ _ (by rw[ah];simp) (λj c Y=>by
   have:=bk j c Y;rw[aI]at this;rw[aA,Array.getElem?_toList]
   exact this) b7
 obtain⟨e,s1,h1,R1,t1,bx,⟨c1,I⟩,i1,ba,d1,ae,A1⟩:=(Zmu (R₀:=R) (h₀:=h) hT hm (λh=>by rw[ai]at h;cases h) aw n _ _ h [] hW).2 R _ (Inv.refl H (by rw[bc];exact aJ _)) a9 b [] [.beginRound,.code d.x] (c::cs) ⟨[],rfl,List.nodup_nil,λr hr=>by cases hr⟩;have x1:=i1.ext;have l1:=i1.le;cases e with
 |exit _=>exact I.elim
 |ret=>exact I.elim
 |normal=>
 have ae:=ae (by simp[b]);subst ae;obtain⟨_,I⟩:=Qb I;split at I;case h_2=>exact I.elim
 rename_i s2 d2 az;obtain⟨l2,e1,e2,e3,e4,e5,e6,e7,e8⟩:=i1.hr.loopSet az;have ap:R1.α id=R.α id:=x1.α id aj;split at I;case h_2=>exact I.elim
 rename_i aa;obtain⟨Z,w2,bp,H2,x2,J⟩:=e8 .busy d2.pe;have al:(Instr.beginRound (R.α id).b).run (p ()) R1.w= .ok () Z.w:=by
  rw[w2,<-ap,<-e6];exact run_beginRound e1 (e5.trans aa)
 have i2:Inv R h Z (h1.set id (.loop s2 {d2 with st:=.busy})):=i1.step H2 x2 J;obtain⟨e,s3,h3,R3,t3,bq,⟨c3,ab⟩,i3,bo,d3,bu,A3⟩:=(Zmu (R₀:=R) (h₀:=h) hT hm (λh=>by rw[ai]at h;cases h) au m _ _ _ [] (hD _ _ I)).2 Z _ i2 (ba.mono J) b [] [] (c::cs) (d1.ext i1.hr x2);have be:Steps (p ()) R.cx (ZN (Frame.round (R.α id).b l.fn ((l.params.zip V).foldl (λA (t,a)=>A.setIfInBounds t a) l.tmps) l.assign l.body .normal) (c::cs) R.w) (ZN (mkF b.1 t1 [] [.code d.x]) (c::cs) Z.w):=by
  have bh:Frame.round (R.α id).b l.fn ((l.params.zip V).foldl (λA (t,a)=>A.setIfInBounds t a) l.tmps) l.assign l.body .normal=mkF b.1 ((l.params.zip V).foldl (λA (t,a)=>A.setIfInBounds t a) l.tmps) [] ([.code d.a]++[.beginRound,.code d.x]):=by
   rw[<-b3,<-b4];rfl
  rw[bh];exact Steps.trans A1 (.one (Zhr rfl al))
 have fin:∀(j:Option Code),ZkD h.length id j S h3->(∀v w',(Instr.endRound (R.α id).b j).run (p ()) R3.w= .ok v w'->Steps (p ()) R.cx (ZN (mkF b.1 t1 [] [.code d.x]) (c::cs) Z.w) (ZN (c.finish v) cs w'))->
   ∃v R' r U,Steps (p ()) R.cx (ZN (Frame.round (R.α id).b l.fn ((l.params.zip V).foldl (λA (t,a)=>A.setIfInBounds t a) l.tmps) l.assign l.body .normal) (c::cs) R.w) (ZN (c.finish v) cs R'.w)/\HR G R' U/\Xs R h R' U/\R.le R'/\VR R' r v/\S r U:=λj Y aa=>by
  unfold ZkD at Y;split at Y;case h_2=>exact Y.elim
  rename_i s4 d4 bl;obtain⟨l4,f1,f2,f3,f4,f5,f6,f7,f8⟩:=i3.hr.loopSet bl;obtain⟨R4,w4,bw,H4,x4,aq⟩:=f8 (if j.isNone then .ready else .done) j;have am:R3.α id=R.α id:=i3.ext.α id aj;have ao:(Instr.endRound (R.α id).b j).run (p ()) R3.w= .ok (.bool j.isNone) R4.w:=by
   rw[w4,<-am];exact run_endRound j f1
  have i4:=i3.step H4 x4 aq;obtain⟨R5,w5,H5,x5,l5,_⟩:=i4.leave H (Zas h.length (aJ _) (by rw[H.len,i4.hr.len];exact i4.le.m));exact⟨_,R5,.bool λ_=>j.isNone,_,by rw[w5];exact Steps.trans be (aa _ _ ao),H5,x5,l5,.pure _ _ (.bool _),Y⟩
 cases e with
 |normal=>
  exact fin none (Qb ab).2 λv w' hr=>Steps.trans (YE (l1.trans J) A3) (.one (Zf3 rfl rfl (.inl ⟨rfl,rfl⟩) hr))
 |exit i=>
  obtain⟨bt,q1,q2⟩:=A3;exact fin (some (.exit i)) (Qb ab).2 λv w' hr=>Steps.trans (YE (l1.trans J) q2) (.one (Zf3 rfl rfl (.inr (.inr ⟨i,_,rfl,rfl,by rw[q1];rfl⟩)) hr))
 |ret=>
  obtain⟨bm,q2⟩:=A3;exact fin (some .ret) (Qb ab).2 λv w' hr=>Steps.trans (YE (l1.trans J) q2) (.one (Zf3 rfl rfl (.inr (.inl ⟨rfl,_,rfl⟩)) hr))
end
def tbR (kp rs:Bool) (cs:List Nat):Tb:={tb with kp,rs,cuts:=cs,rd:=true}
theorem hTR (kp rs:Bool) (cs:List Nat):(tbR kp rs cs).Of ((λ_=>aB:Unit->Program) ()):=⟨Zbi,Zbh,Zbj⟩
theorem Zdc (kp rs:Bool) (cs:List Nat) {id:Nat} {xs:List AV} {h:List Zi} {G:AV->List Zi->Prop} {s:List AV} {d:Ziw} (hi:h[id]? =some (.loop s d)) (H:xs.length=d.ps.size)
  (hW:Dn (tbR kp rs cs) (λ_=>aB) (ZvI (λs A=>Dn (tbR kp rs cs) (λ_=>aB) (Ztd h.length id G) 100 .none [.code d.x] s A []) id) 20 .none [.code d.a] (Zfb d.ps.toList xs s) h []) (J:zOk h=true:=by rfl):YC (λ_=>aB) id xs h G:=
 YC.ofG (T:=tbR kp rs cs) (m:=100*4000) (n:=20*4000) (D:=λs A=>Dn (tbR kp rs cs) (λ_=>aB) (Ztd h.length id G) 100 .none [.code d.x] s A []) (hTR kp rs cs) hm rfl rfl (λs A I=>Zhm 100 .none _ _ _ _ I) hi H (Zhm 20 .none _ _ _ _ hW) J
theorem Zqn {f:Operand} {ps:Array Tmp} {a x:Code} {Q:Ex->List AV->List Zi->Prop} {s:List AV} {h:List Zi} {fid:FuncId} {first cap:List AV} (G:strip (ev s f)= .fn fid first cap) (A:ZV (ZaB (ev s f)))
  (H:SC (λ_=>aB) fid (first++[.yld h.length]++cap) (h++[.loop s ⟨ps,a,x,.ready,none⟩]) λ_ I=>Zar Q s h.length I):CB (λ_=>aB) (.rangeFunc f ps a x) Q s h:=CB.of G A H
theorem YC.less {p:Unit->Program} {id:Nat} {xs:List AV} {h:List Zi} {J:AV->List Zi->Prop} (H:YC p id xs h λr V=>∃A I,To [r] V [A] I/\J A I):YC p id xs h J:=
 ⟨λG R vs hr ha=>let ⟨f,tmps,a,x,h1,h2⟩:=H.run G R vs hr ha;⟨f,tmps,a,x,h1,λc cs=>by
  obtain⟨v,R',r,V,Z,b3,b4,b5,b6,A,I,U,b7⟩:=h2 c cs
  obtain⟨Y,c1,c2,c3,c4,c5⟩:=U G R' #[v] b3 ⟨rfl,λi a S=>by
   cases i with
   |zero=>simp at S;subst S;exact b6
   |succ i=>simp at S⟩
  exact⟨v,Y,A,I,by rw[c1];exact Z,c2,b4.trans c3,b5.trans c4,c5.2 0 A rfl,b7⟩⟩⟩
theorem Zgi {f:Operand} {ps:Array Tmp} {a x:Code} {Q:Ex->List AV->List Zi->Prop} {s:List AV} {h:List Zi} (L:List Nat) (ex:List Zi) (A:List (Nat×Zi)) {fid:FuncId} {first cap:List AV}
  (G:To s h (Vm.keep L s) (Yx (h++ex) A)) (J:strip (ev (Vm.keep L s) f)= .fn fid first cap) (I:ZV (ZaB (ev (Vm.keep L s) f)))
  (H:SC (λ_=>aB) fid (first++[.yld (Yx (h++ex) A).length]++cap) (Yx (h++ex) A++[.loop (Vm.keep L s) ⟨ps,a,x,.ready,none⟩]) λ_ S=>Zar Q (Vm.keep L s) (Yx (h++ex) A).length S):CB (λ_=>aB) (.rangeFunc f ps a x) Q s h:=CB.to G (CB.of J I H)
theorem ZuC (kp rs:Bool) (cs:List Nat) {x:Code} {Q:Ex->List AV->List Zi->Prop} {s:List AV} {h:List Zi} {ι:Type} (L:List Nat) (ex:List Zi) (ch:ι->List (Nat×AV)) (A:ι->List (Nat×Zi)) (inv:ι->Prop) (H:ι->Nat) (i:ι)
  (hi:inv i) (G:To (Vm.keep L s) h (Jj (Vm.keep L s) (ch i)) (Yx (h++ex) (A i)))
  (step:∀i,inv i->Dn (tbR kp rs cs) (λ_=>aB) (ZfD L (λi=>Jj (Vm.keep L s) (ch i)) (λi=>Yx (h++ex) (A i)) inv H i (h++ex).length Q) 100 .none [.code x] (Jj (Vm.keep L s) (ch i)) (Yx (h++ex) (A i)) []):LP true (λ_=>aB) x Q s h:=
 LP.indD (T:=tbR kp rs cs) (hTR kp rs cs) hm rfl L (λi=>Jj (Vm.keep L s) (ch i)) (λi=>Yx (h++ex) (A i)) inv H i (h++ex).length (λ_=>Zb5 _ _) hi G step
end Vm
namespace Vm
attribute [local irreducible] Dn
open Go Go.Proofs Sp
set_option maxRecDepth 100000
set_option maxHeartbeats 1600000
theorem Zdp (n lo hi:Int):SC (λ_=>aB) 81 [.int .i64 λ_=>n,.int .i64 λ_=>lo,.int .i64 λ_=>hi] [] λr h=>r= .bool (λ_=>Qq n lo hi)/\h=[]:=by
 refine QO Tryz.func81 (body:=Zj Tryz.f81) rfl (by decide+kernel) ?_;refine wS ?_;refine⟨?_,trivial⟩;congr 1;funext _;unfold Qq Y6;by_cases h1:n<lo
 ·have:¬lo<=n:=by omega
  simp[h1,this]
 have:lo<=n:=by omega
 by_cases h2:hi<n
 ·have:¬n<=hi:=by omega
  simp[h1,h2,this]
 have:n<=hi:=by omega
 simp[h1,h2,this];omega
theorem Zx4 (H no:Int):SC (λ_=>aB) 116 [.int .i64 λ_=>H,.int .i64 λ_=>no] [] λr h=>r= .int .i64 (λ_=>ZfG H no)/\h=[]:=by
 refine QO Tryz.func116 (body:=Zj Tryz.f116) rfl (by decide+kernel) ?_;unfold ZfG;refine wS ?_;refine⟨λG=>?_,λG=>?_⟩
 ·have G:=eq_of_beq G;rw[iQ G];exact zW
 have G:=ne_of_beq_false G;rw[iP G];refine wS ?_;refine⟨λA=>?_,λA=>?_⟩
 ·have A:=eq_of_beq A;rw[iQ A];exact zW
 have A:=ne_of_beq_false A;rw[iP A];exact zW
theorem Zoh (l:List Sp.Call) (f st:Int) (Z:l.length<=1000000) (Y:f<=1000000):SC (λ_=>aB) 150 [lst 3 X2 default l,.int .i64 λ_=>f,.int .i64 λ_=>st] [] λr h=>r= .int .i64 (λ_=>Zx l f st)/\h=[]:=by
 obtain⟨nt,O⟩:=Zn;rw[Za O];unfold Zx;refine QO Tryz.func150 (body:=Zj Tryz.f150) rfl (by decide+kernel) ?_;refine wS ?_;obtain⟨A,S⟩:∃A:Nat,max 0 f=(A:Int):=⟨(max 0 f).toNat,by omega⟩;have I:(0<f->f=(A:Int))/\(f<=0->A=0):=by omega
 rw[S,aW];refine ZJ false false [] [0,2,7] [] (λ(i:Nat)=>[(7,.int .i64 λ_=>i)]) (λ_=>[]) (λi=>A<=i/\i<=max A l.length/\Zr (λc=>decide (c.station=st)) (A:Int) (l.drop A)=Zr (λc=>decide (c.station=st)) i (l.drop i)) (λi=>max A l.length-i+0) A ⟨aJ _,by omega,rfl⟩ ?_ ?_
 ·(refine To.of [] ?_;cbv;(try simp only[nc]);(repeat' first|exact xT|refine⟨?_,?_⟩|refine ZM.cells ?_|refine ZC.agg ?_|refine ZC.tup ?_);all_goals try exact XZ)
  refine .int ?_;show(if(0:Int)<f then f else 0)=_;by_cases h0:0<f
  ·rw[iQ h0];exact I.1 h0
  rw[iP h0,I.2 (by omega)];rfl
 rintro i ⟨V,hi,H⟩;refine wS ?_;refine⟨λJ=>?_,λJ=>?_⟩
 ·simp only[iR]at J;have U:=Qs (d:=default) O (l:=l) (i:=i) (by omega);rw[U,Zr]at H;refine wS ?_;refine⟨λG=>?_,λG=>?_⟩
  ·have G:=eq_of_beq G;rw[iQ (by simpa using G)]at H;refine wS ?_;exact⟨by rw[H],trivial⟩
  have G:=ne_of_beq_false G;rw[iP (by simpa using G)]at H;refine wS ?_;refine⟨i+1,⟨by omega,by omega,H⟩,by show max A l.length-(i+1)+0<max A l.length-i+0;omega,?_⟩;exact ZG
 simp only[iS]at J;rw[show l.drop i=[]from bB (by omega),Zr]at H;refine wS ?_;exact⟨by rw[H],trivial⟩
theorem Zvv (l:List Sp.Call) (st:Int) (H:l.length<=1000000):SC (λ_=>aB) 95 [lst 3 X2 default l,.int .i64 λ_=>st] [] λr h=>r= .int .i64 (λ_=>ZD l st)/\h=[]:=by
 obtain⟨I,O⟩:=Zn;rw[Za O];refine QO Tryz.func95 (body:=Zj Tryz.f95) rfl (by decide+kernel) ?_;refine wS ?_;refine ZL (Zoh l 1 st H (by omega)) (by first|rfl|(simp only[Ze,Zd,Za O];rfl)) λr G A=>?_;(try simp only[Ze,Zd,Za O]at A);obtain⟨rfl,rfl⟩:=A;exact zW
theorem Zw6 (l:List Sp.Call) (st:Int) (I:l.length<=1000000):SC (λ_=>aB) 96 [lst 3 X2 default l,.int .i64 λ_=>st] [] λr h=>r= .int .i64 (λ_=>ZQ l st)/\h=[]:=by
 obtain⟨J,O⟩:=Zn;rw[Za O];unfold ZQ;refine QO Tryz.func96 (body:=Zj Tryz.f96) rfl (by decide+kernel) ?_;refine wS ?_;refine ZL (Zoh l 0 st I (by omega)) (by first|rfl|(simp only[Ze,Zd,Za O];rfl)) λr H G=>?_;(try simp only[Ze,Zd,Za O]at G);obtain⟨rfl,rfl⟩:=G;refine wS ?_;refine⟨λA=>?_,λA=>?_⟩
 ·simp only[iR]at A;rw[iQ A];exact zW
 simp only[iS]at A;rw[iP A];exact zW
def Zh (d:Z3):List AV:=[.int .i64 λ_=>d.number,.int .i64 λ_=>d.day]
def QM (w:Sp.QR):List AV:=[.int .i64 λ_=>w.feeder,.int .i64 λ_=>w.train,.int .i64 λ_=>w.station,.int .i64 λ_=>w.minutes]
def Zt (d:Sp.ZU):List AV:=[.int .i64 λ_=>d.run,.int .i64 λ_=>d.leg,lst 1 Xd 0 d.by_]
def Zf (t:Zb):AV:=.agg [lst 2 encZone default t.book.zones,lst 3 encTrain default t.book.old,lst 3 encTrain default t.book.new,.int .i64 λ_=>t.book.night,.int .i64 λ_=>t.book.last,
 lst 2 Zh default t.runs,lst 4 QM default t.waits,lst 3 Zt default t.delays]
def Zc (l:List Sp.Call):List AV:=[lst 3 X2 default l]
theorem Zq6 (a b:Z3):(a.number==b.number&&(a.day==b.day&&true))=decide (b=a):=by
 cases a;cases b;simp only[Z3.mk.injEq,Bool.and_true];rw[eo];simp only[Bool.and_eq_true,beq_iff_eq,iR];exact⟨λh=>⟨h.1.symm,h.2.symm⟩,λh=>⟨h.1.symm,h.2.symm⟩⟩
theorem ZxQ (l:List Z3) (d:Z3) (V:l.length<=1000000):SC (λ_=>aB) 192 [lst 2 Zh default l,.agg (Zh d)] [] λv h=>v= .int .i64 (λ_=>Zr (λx=>decide (x=d)) 0 l)/\h=[]:=by
 obtain⟨J,O⟩:=Zn;rw[Za O];refine QO Tryz.func192 (body:=Zj Tryz.f192) rfl (by decide+kernel) ?_;refine wS ?_;refine ZJ false false [] [0,3,7,8] [] (λ(i:Nat)=>[(8,.int .i64 λ_=>i)]) (λ_=>[]) (λi=>i<=l.length/\Zr (λx=>decide (x=d)) 0 l=Zr (λx=>decide (x=d)) i (l.drop i)) (λi=>l.length-i+0) 0 ⟨aV _,by simp⟩ ?_ ?_
 ·exact ZG
 rintro i ⟨Y,A⟩;refine wS ?_;refine⟨λH=>?_,λH=>?_⟩
 ·simp only[iR]at H;have S:=Qs (d:=default) O (l:=l) (i:=i) (by omega);rw[S,Zr]at A;have I:=Zq6 d (J Z3 default l i);generalize U:J Z3 default l i=x at*;refine vS ?_;simp only[U];refine Chk.mk (ZH) ?_;refine⟨λG=>?_,λG=>?_⟩
  ·rw[iQ (by rw[<-I];exact G)]at A;refine wS ?_;exact⟨by rw[A],trivial⟩
  rw[iP (by rw[<-I,G];exact aO)]at A;refine wS ?_;refine⟨i+1,⟨by omega,A⟩,by show l.length-(i+1)+0<l.length-i+0;omega,?_⟩;exact ZG
 simp only[iS]at H;rw[bB (by omega),Zr]at A;refine wS ?_;exact⟨by rw[A],trivial⟩
theorem ZxU (l:List Z3) (d:Z3) (H:l.length<=1000000):SC (λ_=>aB) 175 [lst 2 Zh default l,.agg (Zh d)] [] λv h=>v= .bool (λ_=>l.any λx=>decide (x=d))/\h=[]:=by
 obtain⟨I,O⟩:=Zn;rw[Za O];refine QO Tryz.func175 (body:=Zj Tryz.f175) rfl (by decide+kernel) ?_;refine wS ?_;refine ZL (ZxQ l d H) (by first|rfl|(simp only[Ze,Zd,Za O];rfl)) λr G A=>?_;(try simp only[Ze,Zd,Za O]at A);obtain⟨rfl,rfl⟩:=A;refine wS ?_;refine⟨?_,trivial⟩;congr 1;funext _;exact ZaF _ l 0 (by omega)
theorem Jf (G:List Zone) (day:Int) (many:Nat):∀(l:List Stop) (i:Nat) (A:Int),(Xj G day many i A l).length=l.length
 |[],_,_=>rfl
 |s::r,i,A=>by
  unfold Xj;split
  ·simp[Jf G day many r]
  simp[Jf G day many r]
theorem ZdF (b:Xv) (n day:Int):(J1 b n day).1.length<=4/\((J1 b n day).2=0->2<=(J1 b n day).1.length):=by
 unfold J1;split
 ·exact⟨by simp,λh=>absurd h (by assumption)⟩
 rename_i H;have G:=ZcO (bO H);split
 ·exact⟨by simp,λh=>by cases h⟩
 split
 ·exact⟨by simp,λh=>by cases h⟩
 rename_i I;split
 ·exact⟨by simp,λh=>by cases h⟩
 have A:=Zf1 G day;have J:=Xi (q:=λt:Train=>decide (t.number=n)) (l:=QS b day) (i:=0) (by omega)
 have hm:=A.2 ((QS b day).getD (place (QS b day) n).toNat default) (by
  have:(place (QS b day) n).toNat<(QS b day).length:=by unfold place at*;omega
  rw[List.getD_eq_getElem?_getD,List.getElem?_eq_getElem this]
  exact List.getElem_mem _)
 have:=hm.len;simp only[Sp.calls,Jf];exact⟨by omega,λ_=>by omega⟩
theorem Qn {f:Nat->Int} {i n:Nat} (h:i<n):Zo f i (n-i)=if f i≠0 then f i else Zo f (i+1) (n-(i+1)):=by
 rw[show n-i=(n-(i+1))+1 by omega,Zo]
theorem Qv {f:Nat->Int} {i n:Nat} (h:n<=i):Zo f i (n-i)=0:=by
 rw[show n-i=0 by omega,Zo]
theorem XH {A:(α:Type)->α->List α->Int->α} (O:∀(α:Type) (d:α) (l:List α) (i:Int),A α d l i=l.getD i.toNat d) {α:Type} (d:α) (l:List α) (i:Nat):l.getD i d=A α d l i:=by rw[O];rfl
theorem Zx1 (t:Zb) (hf:Xt t.book) (hr:t.runs.length<=1000000):SC (λ_=>aB) 132 [Zf t] [] λv h=>v= .tup [lst 1 Zc [] (if QJ t=0 then callsOf t else []),.int .i64 λ_=>QJ t]/\h=[]:=by
 obtain⟨U,O⟩:=Zn;refine SC.less (QO Tryz.func132 (body:=Zj Tryz.f132) rfl (by decide+kernel) ?_);have Y:QJ t=if t.runs.length=0 then 7 else if 4<t.runs.length then 6 else Zo (Y9 t) 0 t.runs.length:=rfl
 obtain⟨R,J⟩:∃R,R=if QJ t=0 then callsOf t else []:=⟨_,rfl⟩
 rw[<-J];generalize QJ t=e at*;unfold Zf;simp only[Za O];refine wS ?_;refine⟨λA=>?_,λA=>?_⟩
 ·have A:=eq_of_beq A;rw[iQ (by omega)]at Y;subst Y;rw[iP (by decide)]at J;subst J;refine wS ?_;refine⟨_,[],?_,rfl,rfl⟩;exact ZG
 have A:=ne_of_beq_false A;rw[iP (by omega)]at Y;refine wS ?_;refine⟨λac=>?_,λac=>?_⟩
 ·simp only[iR]at ac;rw[iQ (by omega)]at Y;subst Y;rw[iP (by decide)]at J;subst J;refine wS ?_;refine⟨_,[],?_,rfl,rfl⟩;exact ZG
 simp only[iS]at ac;rw[iP (by omega)]at Y;refine wS ?_;refine ZJ false false [] [1,4,21,22,23] [.tok 1 λ_=>0] (λ(⟨i,out⟩:Nat×List (List Sp.Call))=>[(4,.isl 1 (λ_=>(out.length:Int)) (λe=>Zc (U (List Sp.Call) [] out (e ()))) (.own 1)),(23,.int .i64 λ_=>i)])
  (λ⟨i,out⟩=>[(1,.tok 1 λ_=>(out.length:Int))])
  (λ⟨i,out⟩=>i<=t.runs.length/\e=Zo (Y9 t) i (t.runs.length-i)/\out=(t.runs.take i).map (YF t)) (λi=>t.runs.length-i.1+0) (0,[]) ⟨aV _,Y,by simp⟩ ?_ ?_
 ·(refine To.of [(1,false)] ?_;cbv;(try simp only[nc]);(repeat' first|exact xT|refine⟨?_,?_⟩|refine ZM.cells ?_|refine ZC.agg ?_|refine ZC.tup ?_);all_goals try exact XZ)
 rintro⟨i,out⟩ ⟨hi,G,ho⟩;have aj:out.length=i:=by rw[ho];simp;omega
 refine wS ?_;refine⟨λA=>?_,λA=>?_⟩
 ·simp only[iR]at A;rw[Qn (by omega)]at G;have ae:=Yb (d:=default) O (l:=t.runs) (i:=i) (by omega);have H:Y9 t i=if(J1 t.book (U Z3 default t.runs i).number (U Z3 default t.runs i).day).2≠0 then(J1 t.book (U Z3 default t.runs i).number (U Z3 default t.runs i).day).2
   else if Xe (YF t (U Z3 default t.runs i))≠0 then 5
   else if(t.runs.take i).any (λx=>decide (x=U Z3 default t.runs i))then 4 else 0:=by unfold Y9;rw[XH O]
  have ak:=XH O default t.runs i;generalize hd:U Z3 default t.runs i=d at*;refine vS ?_;simp only[hd];refine Chk.mk (ZH) ?_;have aa:=c26 t.book d.number d.day hf;have V:=ZdF t.book d.number d.day;have ab:YF t d=(J1 t.book d.number d.day).1:=rfl;unfold Zd at aa;simp only[Za O]at aa;generalize J1 t.book d.number d.day=r at*;obtain⟨C,er⟩:=r;refine ZL (aa) (by first|rfl|(simp only[Ze,Zd,Zf,Za O];rfl)) λr ah G=>?_;(try simp only[Ze,Zd,Zf,Za O]at G);obtain⟨rfl,rfl⟩:=G;dsimp only at H V ab;refine wS ?_;refine⟨λA=>?_,λA=>?_⟩
  ·simp only[bne_iff_ne,ne_eq]at A;rw[iQ A]at H;rw[H,iQ A]at G;subst G;rw[iP A]at J;subst J;refine wS ?_;refine⟨_,[],?_,rfl,rfl⟩;exact ZG
  simp only[iY]at A;subst A;rw[iP (λh=>h rfl),ab]at H;have al:=V.2 rfl;have am:=V.1;clear aa V;refine wS ?_;refine X3 λQ hQ=>?_;refine ZJ false false [] [1,4,5,6,7,9,21,22,23] [] (λ(j:Nat)=>[(9,.int .i64 λ_=>((j+1:Nat):Int))]) (λ_=>[]) (λj=>j+1<=C.length/\Xe C=Zo (YM C) (j+1) (C.length-(j+1))) (λj=>C.length-(j+1)+0) 0 ⟨by omega,rfl⟩ ?_ ?_
  ·exact ZG
  rintro j ⟨hk,S⟩;refine wS ?_;refine⟨λA=>?_,λA=>?_⟩
  ·simp only[iR]at A;rw[Qn (by omega)]at S;have Z:YM C (j+1)=if(U Sp.Call default C ((j+1:Nat):Int)).arrive<=(U Sp.Call default C (((j+1:Nat):Int)-1)).depart then 5 else 0:=by
    unfold YM;rw[XH O,XH O,show((j+1-1:Nat):Int)=((j+1:Nat):Int)-1 by omega]
   refine wS ?_;refine⟨λI=>?_,λI=>?_⟩
   ·simp only[iR]at I;rw[iQ I]at Z;rw[Z,iQ (by decide)]at S;rw[S,iQ (by decide)]at H;rw[H,iQ (by decide)]at G;subst G;rw[iP (by decide)]at J;subst J;refine wS ?_;refine hQ _ _ _ ?_;refine wS ?_;refine⟨_,[],?_,rfl,rfl⟩;exact ZG
   simp only[iS]at I;rw[iP I]at Z;rw[Z,iP (λh=>h rfl)]at S;refine wS ?_;refine⟨j+1,⟨by omega,by rw[S]⟩,by show C.length-(j+1+1)+0<C.length-(j+1)+0;omega,?_⟩;exact ZG
  simp only[iS]at A;rw[Qv (by omega)]at S;rw[S,iP (λh=>h rfl)]at H;refine wS ?_;refine hQ _ _ _ ?_;refine wS ?_;refine ZbH (ZxU (t.runs.take i) d (by simp;omega)) (by(try simp only[Ze,Zd,Zf,Za O]);exact ZG) (by first|rfl|(simp only[Ze,Zd,Zf,Za O];rfl)) λr ah G=>?_;(try simp only[Ze,Zd,Zf,Za O]at G);obtain⟨rfl,rfl⟩:=G;refine wS ?_;refine⟨λI=>?_,λI=>?_⟩
  ·rw[iQ I]at H;rw[H,iQ (by decide)]at G;subst G;rw[iP (by decide)]at J;subst J;refine wS ?_;refine⟨_,[],?_,rfl,rfl⟩;exact ZG
  rw[iP (by rw[I];exact aO)]at H;rw[H,iP (λh=>h rfl)]at G;refine wS ?_;refine⟨(i+1,out++[C]),⟨by omega,by rw[G],by rw[ae,List.map_append,ho];simp[ab]⟩,by show t.runs.length-(i+1)+0<t.runs.length-i+0;omega,?_⟩;refine toR ?_;exact .snoc O rfl rfl (by simp only[Zc,Za O];rfl)
 simp only[iS]at A;rw[Qv (by omega)]at G;subst G;rw[iQ rfl]at J;have ai:out=R:=by rw[ho,J,List.take_of_length_le (by omega)];rfl
 subst ai;refine wS ?_;refine⟨_,[],?_,rfl,rfl⟩;exact ZG
end Vm
end Go.Proofs.YtjgpiclllehgmaaGreat
