/- Lemmas. -/
import Derived.Test.YtjgpiclllehgmaaGreatB5
import Derived.Test.YtjgpiclllehgmaaGreatB2
import Derived.Test.YtjgpiclllehgmaaGreatB4
import Derived.Test.YtjgpiclllehgmaaGreatB0
set_option linter.all false
open Array renaming getD_eq_getD_getElem?->aI,getElem?_eq_getElem->aY,getElem?_push->bK,getElem?_setIfInBounds_ne->aF,length_toList->cW,mem_toList_iff->cL,replicate->dK
open Bool renaming false_eq_true->aX,false_ne_true->aO
open Decidable renaming of_not_not->bO
open Go.Frame renaming enter->dO
open Go.Instr renaming loadAt->ec,sureAddr->cN
open Int renaming le_refl->bR,toNat_natCast->aW
open List renaming any_eq_false->eu,getD_eq_getElem?_getD->aA,getElem?_append_left->bP,getElem?_eq_getElem->aC,getElem?_replicate->fb,getElem?_set_ne->cQ,getElem_mem->bL,getElem_take->fL,length_append->bf,length_cons->bF,length_map->bA,length_nil->cE,map_cons->bX,map_nil->fY,map_toArray->eX,mem_cons_of_mem->aR,mem_cons_self->aU,mem_iff_getElem->dH,nodup_nil->ey,pairwise_map->fM,range->aT,range'->eG
open Nat renaming le_refl->aJ,le_trans->cF,not_lt_zero->fc,zero_le->aV
open Option.some renaming injEq->aD
open Prod renaming fst->gz
open Prod.mk renaming injEq->aK
open Go.Result renaming andThen_ok->aH
open Go.Sem renaming run_bind->aQ,run_pure->bC
open Go.Proofs.Tryz renaming prog->aB
open Go.World renaming cell?->bV
namespace Go.Proofs.YtjgpiclllehgmaaGreat
namespace Vm
open Sp
theorem ZaK {f:Nat->Int}:∀ {k i:Nat},(∀j,i<=j->j<i+k->f j=0)->Zo f i k=0
 |0,_,_=>rfl
 |k+1,i,h=>by
  unfold Zo;rw[iP (λA=>A (h i (aJ _) (by omega)))];exact ZaK λj G H=>h j (by omega) (by omega)
theorem ZgQ {n a b:Int} (A:a<=n) (G:n<=b):Y6 n a b=true:=by simp[Y6,A,G]
theorem Zab {n a b:Int} (A:a<=n) (G:n<=b):Qq n a b=false:=by unfold Qq;rw[ZgQ A G];rfl
theorem Zrb {n a b:Int} (A:a<=n) (G:n<=b):ZS n a b=0:=by
 unfold ZS;rw[iP (by omega),iP (by omega)]
theorem ZoB {k:Int} {z:Zone} (h:Zrs k z) (hk:k<=3):ZB z=0:=by
 have hb:=h.base;have hl:=h.len;unfold ZB;rw[iP (by simp[Y6];omega),iP (by omega)];have J:∀(l:List Chg) (p:Option Int),(∀c∈l,0<=c.at_/\c.at_<=43200/\ZrH c.by_)->l.Pairwise (λa b=>a.at_<b.at_)->(∀a,p=some a->∀c∈l,a<c.at_)->Jo p l=0:=by
  intro l;induction l with
  |nil=>intro p _ _ _;exact Zdm p
  |cons c l Y=>
   intro p A G h3;obtain⟨b1,b2,b3⟩:=A c (aU ..);have S:leP p c.at_=false:=by
    cases p with
    |none=>rfl
    |some a=>have:=h3 a rfl c (aU ..);simp[leP];omega
   rw[Y3,iP (by simp[Y6];omega),S];unfold ZrH at b3;have Z:(!Y6 c.by_ (-180) 180||decide (c.by_=0))=false:=by
    have V:Y6 c.by_ (-180) 180=true:=by simp[Y6];omega
    have U:decide (c.by_=0)=false:=by simp;omega
    rw[V,U];rfl
   rw[Z];simp only[aX,if_false];rw[List.pairwise_cons]at G;exact Y _ (λx I=>A x (aR _ I)) G.2 λa e x I=>by cases e;exact G.1 x I
 exact J _ none (λc H=>by
  have A:=h.at_ c H;have:0<z.chs.length:=List.length_pos_of_mem H
  exact⟨A.1,by omega,h.by_ c H⟩) h.asc λa e=>by cases e
theorem ZgP {α:Type} {q:α->Bool} {d:α}:∀ {l:List α} {i:Nat} {k:Int},i<l.length->q (l.getD i d)=true->(∀j,j<i->q (l.getD j d)=false)->Zr q k l=k+i
 |[],i,k,h,_,_=>by simp at h
 |a::l,i,k,h,hi,hj=>by
  unfold Zr;cases i with
  |zero=>
   rw[show q a=true from hi,iQ rfl];simp
  |succ i=>
   rw[show q a=false from hj 0 (by omega),iP aO,ZgP (d:=d) (i:=i) (by simpa using h) hi λj A=>hj (j+1) (by omega)];omega
theorem ZlN {α:Type} {d:α} {l:List α} {i:Nat} (h:i<l.length):l.getD i d∈l:=by rw[aA,aC h];exact bL _
theorem Zqt {α:Type} {d:α} {r:α->α->Prop} {l:List α} (h:l.Pairwise r) {i j:Nat} (G:i<j) (A:j<l.length):r (l.getD i d) (l.getD j d):=by
 have:=List.pairwise_iff_getElem.1 h i j (by omega) A G;rw[aA,aA,aC (by omega),aC A];exact this
structure DL (n:Int) (l:List Train):Prop where
 all:∀(k:Nat),k<l.length->∃st:Nat,2<=st/\st<=10/\Zk9 st (n-k) (l.getD k default)
theorem DL.snoc {n:Int} {l:List Train} {t:Train} {st:Nat} (h:DL n l) (G:2<=st/\st<=10) (H:Zk9 st (n-l.length) t):DL n (l++[t]):=⟨λk A=>by
 simp only[bf,bF,cE]at A;by_cases h2:k<l.length
 ·rw[aA,bP h2,<-aA];exact h.all k h2
 have A:k=l.length:=by omega
 subst A;have e:(l++[t]).getD l.length default=t:=by simp[aA]
 rw[e]
 exact⟨st,G.1,G.2,H⟩⟩
def Zv (z:Zone) (old:List Train):Xv:=⟨[z],old,[],1,0⟩
theorem Zte {st:Nat} {number:Int} {t:Train} (aa:st<=10) (h:Ziu 1 st number t):Ym 1 t.stops=0:=by
 refine ZaK λj _ G=>?_;have G:j<t.stops.length:=by omega
 obtain⟨S,J,V,h4,U⟩:=h.stop _ (ZlN (d:=default) G);unfold Xb Y4;rw[ZgQ S.1 (by omega)];have A:(t.stops.take j).any (λx=>decide (x.station=(t.stops.getD j default).station))=false:=by
  rw[eu];intro x Z;obtain⟨i,Y,rfl⟩:=dH.1 Z;have H:i<j:=by simp at Y;omega
  have:=Zqt (d:=default) h.nodup H G;rw[aA,aC (show i<t.stops.length by omega)]at this;simpa using this
 rw[A,ZgQ J.1 (by omega),ZgQ V (by omega),ZgQ (by omega:(0:Int)<=_) U];have I:decide ((t.stops.getD j default).depart<(t.stops.getD j default).arrive)=false:=iW (by omega);rw[I];simp
theorem Zfo {n:Int} {l:List Train} (h:DL n l) {i:Nat} (hi:i<l.length):(l.getD i default).number=n-i:=by
 obtain⟨st,_,_,A⟩:=h.all i hi;exact A.made.number
theorem Zjo {z:Zone} {n:Int} {l:List Train} (Y:ZB z=0) (h:DL n l) (hn:n=l.length) (hl:l.length<=4):Yq (Zv z l)=0:=by
 have S:Qe 1 l=0:=by
  unfold Qe;rw[Zrb (show(0:Int)<=l.length by omega) (by omega),iP (λh=>h rfl)];refine ZaK λj _ A=>?_;have A:j<l.length:=by omega
  obtain⟨st,_,J,H⟩:=h.all j A;have U:=H.made.len;unfold QP;rw[ZgQ (by rw[Zfo h A];omega) (by rw[Zfo h A];omega)];have I:(l.take j).any (λx=>decide (x.number=(l.getD j default).number))=false:=by
   rw[eu];intro x G;obtain⟨i,V,rfl⟩:=dH.1 G;have Z:i<j:=by simp at V;omega
   have G:=Zfo h (show i<l.length by omega);rw[aA,aC (show i<l.length by omega)]at G;rw[Zfo h A,fL];have G:l[i].number=n-i:=G;rw[G];simp;omega
  rw[I,ZgQ H.made.days.1 H.made.days.2,Zrb (by omega) (by omega)];simp only[Bool.not_true,aX,if_false,ne_eq,not_true_eq_false];exact Zte J H.made
 unfold Yq Zv;simp only[bF,cE];rw[show Qe ((0+1:Nat):Int) l=0 from S]
 rw[ZaK (f:=λi=>ZB ([z].getD i default)) (k:=0+1) (i:=0) (λj _ A=>by
  have:j=0:=by omega
  subst this
  exact Y)]
 rfl
theorem ZmJ {z:Zone} {n:Int} {l:List Train} (J:Yq (Zv z l)=0) (h:DL n l) {j:Nat} (A:j<l.length):J1 (Zv z l) (l.getD j default).number 0=(Sp.calls [z] (l.getD j default) 0,0):=by
 obtain⟨st,_,S,I⟩:=h.all j A;have H:place l (l.getD j default).number=j:=by
  unfold place
  rw[ZgP (d:=default) A (by simp) λi U=>by
   rw[Zfo h A,Zfo h (show i<l.length by omega)];simp
   omega]
  omega
 unfold J1;rw[iP (λG=>G J)];show(if(!Y6 0 0 0)=true then _ else _)=_;rw[iP (by decide)];show(if place l (l.getD j default).number<0 then _ else if(!Zb4 (l.getD (place l (l.getD j default).number).toNat default) 0)=true then _ else(Sp.calls [z] (l.getD (place l (l.getD j default).number).toNat default) 0,0))=_;rw[H,iP (by omega),aW];have:Zb4 (l.getD j default) 0=true:=by
  unfold Zb4;rw[I.days];decide
 rw[this];rfl
theorem Zct (G:List Zone) (day:Int) (many:Nat):∀(l:List Stop) (i:Nat) (A:Int),(Xj G day many i A l).map (·.station)=l.map (·.station)
 |[],_,_=>rfl
 |s::r,i,A=>by
  unfold Xj;split
  ·simp[Zct G day many r]
  simp[Zct G day many r]
structure Zk6 (r:List Sp.Call):Prop where
 len:2<=r.length/\r.length<=4
 st:r.Pairwise λa b=>a.station≠b.station
 asc:Xe r=0
theorem Zqh {z:Zone} {st:Nat} {number:Int} {t:Train} (h:Zk9 st number t) (H:Xe (Sp.calls [z] t 0)=0):Zk6 (Sp.calls [z] t 0):=by
 have G:(Sp.calls [z] t 0).length=t.stops.length:=Jf _ _ _ _ _ _;refine⟨by rw[G];exact⟨h.made.len.1,h.made.len.2.1⟩,?_,H⟩;have e:(Sp.calls [z] t 0).map (·.station)=t.stops.map (·.station):=Zct _ _ _ _ _ _;have A:(t.stops.map (·.station)).Pairwise (· ≠·):=fM.2 h.made.nodup;rw[<-e]at A;exact fM.1 A
def eAt (many i:Nat) (s:Stop):Sp.Call:=if i=0 then⟨s.station,if i+1<many then s.depart else 0,if i+1<many then s.depart else 0⟩else⟨s.station,s.arrive,if i+1<many then s.depart else s.arrive⟩
def eGo (many:Nat):Nat->List Stop->List Sp.Call
 |_,[]=>[]
 |i,s::r=>eAt many i s::eGo many (i+1) r
theorem ZqM {r A:Int} (G:0<=r/\r<=10000) (H:0<=A/\A<=r):Xl (ZW ⟨0,[]⟩) r A=r:=by
 show(if max 0 (max A (r-0))<XO then max 0 (max A (r-0))else XO)=r;unfold XO;rw[iQ (by omega)];omega
theorem ZqO {many:Nat}:∀(l:List Stop) (i:Nat) (A:Int),(∀s∈l,s.zone=0/\0<=s.arrive/\s.arrive<=s.depart/\s.depart<=5000)->(∀k,k+1<l.length->(l.getD k default).depart<(l.getD (k+1) default).arrive)->
  (0<=A/\∀s∈l.head?,if i=0 then A=0 else A<s.arrive)->Xj [⟨0,[]⟩] 0 many i A l=eGo many i l
 |[],_,_,_,_,_=>rfl
 |s::r,i,A,hs,ha,hn=>by
  obtain⟨z0,a0,a1,a2⟩:=hs s (aU ..);have aa:=hn.1;have H:=hn.2 s (by simp);have hz:([⟨0,[]⟩]:List Zone).getD s.zone.toNat default=⟨0,[]⟩:=by rw[z0];rfl
  have G:∀d:Int,0<=d->d<=s.depart->0<=d/\∀U∈r.head?,if i+1=0 then d=0 else d<U.arrive:=λd h1 Z=>⟨h1,λU J=>by
   rw[iP (by omega)];cases r with
   |nil=>cases J
   |cons x r=>
    have:x=U:=by simpa using J
    subst this;have:=ha 0 (by simp)
    exact Int.lt_of_le_of_lt Z this⟩
  have S:∀k,k+1<r.length->(r.getD k default).depart<(r.getD (k+1) default).arrive:=λk V=>ha (k+1) (by simpa using V);have I:∀s∈r,s.zone=0/\0<=s.arrive/\s.arrive<=s.depart/\s.depart<=5000:=λx Y=>hs x (aR _ Y);unfold Xj eGo eAt;rw[hz];by_cases h0:i=0
  ·rw[iQ h0]at H;subst H;simp only[iQ h0];have e:Xl (ZW ⟨0,[]⟩) (1440*0+s.depart) 0=s.depart:=by rw[show(1440:Int)*0+s.depart=s.depart by omega];exact ZqM (by omega) (by omega)
   rw[e];rw[ZqO r (i+1) _ I S (G _ (by split<;>omega) (by split<;>omega))]
  rw[iP h0]at H;simp only[iP h0];have e:Xl (ZW ⟨0,[]⟩) (1440*0+s.arrive) A=s.arrive:=by rw[show(1440:Int)*0+s.arrive=s.arrive by omega];exact ZqM (by omega) (by omega)
  have e2:Xl (ZW ⟨0,[]⟩) (1440*0+s.depart) s.arrive=s.depart:=by rw[show(1440:Int)*0+s.depart=s.depart by omega];exact ZqM (by omega) (by omega)
  rw[e,e2];rw[ZqO r (i+1) _ I S (G _ (by split<;>omega) (by split<;>omega))]
theorem Zjm {many:Nat}:∀(l:List Stop) (i k:Nat),k<l.length->(eGo many i l).getD k default=eAt many (i+k) (l.getD k default)
 |[],_,k,h=>by simp at h
 |s::r,i,0,_=>rfl
 |s::r,i,k+1,h=>by
  have:=Zjm (many:=many) r (i+1) k (by simpa using h);rw[show i+1+k=i+(k+1) by omega]at this;exact this
theorem Zlv {st:Nat} {number:Int} {t:Train} (h:Zk9 st number t):Xe (Sp.calls [⟨0,[]⟩] t 0)=0:=by
 have e:Sp.calls [⟨0,[]⟩] t 0=eGo t.stops.length 0 t.stops:=ZqO _ _ _ (λs A=>by
  have:=h.made.stop s A;have:=h.late s A
  omega) h.asc ⟨bR _,λs A=>by rw[iQ rfl]⟩
 have G:(Sp.calls [⟨0,[]⟩] t 0).length=t.stops.length:=Jf _ _ _ _ _ _;unfold Xe;rw[G,e];refine ZaK λk U S=>?_;have J:=h.made.len;unfold YM;rw[Zjm _ _ _ (by omega),Zjm _ _ _ (by omega)];have H:=h.asc (k-1) (by omega);rw[show k-1+1=k by omega]at H;have A:=h.made.stop _ (ZlN (d:=default) (show k-1<t.stops.length by omega));have I:(eAt t.stops.length (0+k) (t.stops.getD k default)).arrive=(t.stops.getD k default).arrive:=by unfold eAt;rw[iP (by omega)]
 have V:(eAt t.stops.length (0+(k-1)) (t.stops.getD (k-1) default)).depart<=(t.stops.getD (k-1) default).depart:=by
  unfold eAt;split
  ·show(if _ then _ else(0:Int))<=_;split<;>omega
  show(if _ then _ else _)<=_;split<;>omega
 rw[I,iP (by omega)]
theorem ZdB {r:List Sp.Call} (G:r.Pairwise λa b=>a.station≠b.station) {f i:Nat} (H:f<=i) (hi:i<r.length):Zx r f (r.getD i default).station=i:=by
 unfold Zx;rw[show(max 0 (f:Int))=f by omega,aW];have A:∀j,(r.drop f).getD j default=r.getD (f+j) default:=λj=>by simp[aA,List.getElem?_drop]
 rw[ZgP (d:=default) (i:=i-f) (by rw[List.length_drop];omega) (by rw[A,show f+(i-f)=i by omega];simp) λj I=>by
  rw[A];have:=Zqt (d:=default) G (show f+j<i by omega) hi
  simpa using this]
 omega
theorem Zgf {c:List (List Sp.Call)} {f:Int} (h:0<=f/\f<c.length):Sp.Zm c f∈c:=by
 unfold Sp.Zm;exact ZlN (by omega)
theorem ZrN {c:List (List Sp.Call)} (S:∀r∈c,Zk6 r) {w:Sp.QR} {A:List Sp.QR} {i k:Nat} (G:0<=w.feeder/\w.feeder<c.length) (I:0<=w.train/\w.train<c.length) (H:w.feeder≠w.train) (hi:1<=i/\i<(Sp.Zm c w.feeder).length) (hk:k+1<(Sp.Zm c w.train).length)
  (Z:w.station=((Sp.Zm c w.feeder).getD i default).station) (J:((Sp.Zm c w.train).getD k default).station=w.station) (ha:((Sp.Zm c w.feeder).getD i default).arrive<=((Sp.Zm c w.train).getD k default).depart) (hm:0<=w.minutes/\w.minutes<=60)
  (hn:A.any (λx=>decide (x.feeder=w.feeder/\x.train=w.train/\x.station=w.station))=false):Qf c w A=0:=by
 have V:ZD (Sp.Zm c w.feeder) w.station=i:=by rw[Z];exact ZdB (S _ (Zgf G)).st hi.1 hi.2
 have U:Zx (Sp.Zm c w.train) 0 w.station=k:=by rw[<-J];exact ZdB (S _ (Zgf I)).st (aV _) (by omega)
 have Y:ZQ (Sp.Zm c w.train) w.station=k:=by unfold ZQ;rw[U,iQ (by omega)]
 unfold Qf;rw[Zab G.1 (by omega),Zab I.1 (by omega),iP (by decide),iP H];show(if ZD (Sp.Zm c w.feeder) w.station<0\/ZQ (Sp.Zm c w.train) w.station<0 then(3:Int)else if Qq w.minutes 0 60=true then 1 else if((Sp.Zm c w.train).getD (ZQ (Sp.Zm c w.train) w.station).toNat default).depart<((Sp.Zm c w.feeder).getD (ZD (Sp.Zm c w.feeder) w.station).toNat default).arrive then 5 else if A.any _=true then 4 else 0)=0;rw[V,Y,iP (by omega),Zab hm.1 hm.2,iP aO,aW,aW,iP (by omega),hn,iP aO]
theorem Zq5 {c:List (List Sp.Call)} {d:Sp.ZU} {A:List Sp.ZU} (hr:0<=d.run/\d.run<c.length) (H:0<=d.leg/\d.leg+2<=(Sp.Zm c d.run).length) (U:1<=d.by_.length/\d.by_.length<=3) (hv:∀k,k<d.by_.length->0<=d.by_.getD k 0/\d.by_.getD k 0<=240)
  (I:∀k,k+1<d.by_.length->d.by_.getD k 0<d.by_.getD (k+1) 0) (S:A.any (λx=>decide (x.run=d.run/\x.leg=d.leg))=false):Qy c d A=0:=by
 unfold Qy;rw[Zab hr.1 (by omega)];show(if(false||Qq d.leg 0 (((Sp.Zm c d.run).length:Int)-2))=true then(3:Int)else _)=0;rw[Zab H.1 (by omega),iP (by decide),iP (by omega),iP (by omega)];have J:Zo (ZeO d.by_) 0 d.by_.length=0:=ZaK λk _ G=>by
  have G:k<d.by_.length:=by omega
  unfold ZeO;rw[Zab (hv k G).1 (hv k G).2,iP aO,iP];rintro⟨h1,h2⟩;have:=I (k-1) (by omega);rw[show k-1+1=k by omega]at this;omega
 rw[J,iP (λh=>h rfl),S,iP aO]
structure LOk {α:Type} [Inhabited α] (e:α->List α->Int) (l:List α):Prop where
 ok:∀i,i<l.length->e (l.getD i default) (l.take i)=0
theorem LOk.nil {α:Type} [Inhabited α] {e:α->List α->Int}:LOk e []:=⟨λi h=>by simp at h⟩
theorem LOk.snoc {α:Type} [Inhabited α] {e:α->List α->Int} {l:List α} {a:α} (h:LOk e l) (A:e a l=0):LOk e (l++[a]):=⟨λi G=>by
 simp only[bf,bF,cE]at G;by_cases h2:i<l.length
 ·rw[aA,bP h2,<-aA,List.take_append_of_le_length (by omega)];exact h.ok i h2
 have H:i=l.length:=by omega
 subst H;rw[List.take_left];have e:(l++[a]).getD l.length default=a:=by simp[aA]
 rw[e]
 exact A⟩
theorem ZkR {t:Zb} (J:Yq t.book=0) (H:QJ t=0) (U:t.waits.length<=4) (I:LOk (Qf (callsOf t)) t.waits) (S:t.delays.length<=6) (A:LOk (Qy (callsOf t)) t.delays):Zq t=0:=by
 unfold Zq;rw[iP (λh=>h J),iP (λh=>h H),iP (by omega),ZaK (λj _ G=>I.ok j (by omega)),iP (λh=>h rfl),iP (by omega)];exact ZaK λj _ G=>A.ok j (by omega)
end Vm
namespace Sp
open Vm
theorem Yo {t:Zb} (h:Zq t=0):Sp.Yq t.book=0/\QJ t=0/\t.waits.length<=4/\LOk (Qf (callsOf t)) t.waits/\t.delays.length<=6/\LOk (Qy (callsOf t)) t.delays:=by
 unfold Zq at h;split at h
 ·exact absurd h (by assumption)
 split at h
 ·exact absurd h (by assumption)
 rename_i G A;split at h
 ·cases h
 split at h
 ·exact absurd h (by assumption)
 rename_i J H;split at h
 ·cases h
 rename_i S;exact⟨bO G,bO A,by omega,⟨λi I=>ZZ (bO H) i (aV _) (by omega)⟩,by omega,⟨λi I=>ZZ h i (aV _) (by omega)⟩⟩
theorem calls_len (t:Zb):(callsOf t).length=t.runs.length:=by unfold callsOf;rw[bA]
theorem LOk.mem {α:Type} [Inhabited α] {e:α->List α->Int} {l:List α} (h:LOk e l) {a:α} (G:a∈l):∃p,e a p=0:=by
 obtain⟨i,A,rfl⟩:=dH.1 G;refine⟨l.take i,?_⟩;have:=h.ok i A;rw[aA,aC A]at this;exact this
theorem ZoH {t:Zb} (G:Zq t=0):∀w∈t.waits,w.feeder≠w.train:=λw hw=>by
 obtain⟨p,A⟩:=LOk.mem (Yo G).2.2.2.1 hw;unfold Qf at A;split at A
 ·cases A
 split at A
 ·cases A
 assumption
end Sp
namespace Vm
attribute [local irreducible] Dn
open Go Go.Proofs Sp
set_option maxRecDepth 100000
set_option maxHeartbeats 4000000
theorem Znp {t:Zb} (A:Qm t) (h:Zq t=0):SC (λ_=>aB) 85 [Zf t] [] λv h=>v=lst 3 QL default (Xq t)/\h=[]:=Zyf t A.book (XM h) (ZoH h) A.runs λd G=>((XM h).d d G).2.1
theorem Zye (x:Sp.ZbV) (n:Int) (b:Bool):SC (λ_=>aB) 86 [.agg (encSp x),.int .i64 λ_=>n,.bool λ_=>b] [] λv h=>v= .agg (encSp (Zef x n b))/\h=[]:=by
 refine SC.less (QO Tryz.func86 (body:=Zj Tryz.f86) rfl (by decide+kernel) ?_);unfold encSp Zef;cases b with
 |true=>
  refine wS ?_;refine Br.isT rfl ?_;refine wS ?_;refine⟨_,[],?_,rfl,rfl⟩;exact ZG
 |false=>
  have G:min x.fr n=if n<x.fr then n else x.fr:=by split<;>omega
  have A:max x.to_ n=if x.to_<n then n else x.to_:=by split<;>omega
  rw[G,A];refine wS ?_;refine Br.isF rfl ?_;refine wS ?_;refine⟨_,[],?_,rfl,rfl⟩;exact ZG
end Vm
namespace Vm
open Go Go.Conc Go.Proofs Conc1
def Zjq (A:Array TypeId) (ty:TypeId) (cs:Array Bool) (ch:Nat):Deferred:={target:=.builtin .close A ty cs,args:= #[.chan (some ch)]}
def ZaW (n:Nat) (ds:List Deferred):Frame:={(default:Frame)with fn:=n,defers:=ds,mode:=.panicking [goexitEntry]}
section
variable {P:Program} {ch cell:Nat} {f:FuncId} {fn:Func} {t:Array Value} {todo:List Item}
theorem Zww (H:P.funcs[f]? =some fn) (hr:fn.results= #[]):QuitsD P 2 0 (G {mkF ⟨f,true,none,[]⟩ t [] todo with mode:=.returning} [ZaW P.funcs.size []]):=by
 refine .inr ⟨rfl,G (ZaW P.funcs.size []) [], #[],by simp,λw=>?_,.inr ⟨rfl,{frame:=ZaW P.funcs.size [],callers:=[],status:=.finished,dying:=none}, #[],by simp,λw=>?_,⟨rfl,rfl⟩⟩⟩
 ·have A:results fn t=pure (.tuple #[]):=by
   unfold results;rw[hr];simp
  have I:(results fn t).run P w= .ok (.tuple #[]) w:=by rw[A];rfl
  have J:(results fn t).events P w #[]= #[]:=by rw[A];rfl
  simp[G,stepG,unwind,doReturn,mkF,FB.kind,H,I,J,GStep.after,ZaW,goexitEntry,seen_none]
 have h:(default:Frame).todo=[]:=rfl;simp[G,stepG,unwind,ZaW,goexitEntry,Frame.catches,h]
theorem Zrn {H:Array TypeId} {ty:TypeId} {cs:Array Bool} (Y:P.funcs[f]? =some fn) (hr:fn.results= #[]):
  ZjF P (λn=>n=cell\/n=ch) ch {mkF ⟨f,true,none,[]⟩ t [Zjq H ty cs ch] todo with mode:=.returning} [ZaW P.funcs.size []]:=by
 refine⟨rfl,G {mkF ⟨f,true,none,[]⟩ t [] todo with mode:=.returning} [ZaW P.funcs.size []], #[⟨.obj ch,false,true⟩],2,λw I s r Z h=>?_,λe he=>.inr (by simpa using he),Zww Y hr⟩
 have e:Builtin.close_ H ty #[.chan (some ch)]=(getObj ch>>=λo=>match o with
   |.chan room I J U A S=>(do
    if J then runtimePanic (.plain "close of closed channel")
    setObj ch (.chan room I true U A S)
    pure (.tuple #[]))
   |_=>stuck "close: no channel in this block"):=rfl
 have V:invoke (.builtin .close H ty cs) #[.chan (some ch)]=(Builtin.close_ H ty #[.chan (some ch)]>>=λx=>pure (.value x)):=rfl;have h1:(invoke (.builtin .close H ty cs) #[.chan (some ch)]).run P w= .ok (.value (.tuple #[])) (w.setChan ch 0 I true s r Z):=by
  rw[V,e];simp[getObj,setObj,aQ,Sem.run,h,World.setChan]
 have h2:(invoke (.builtin .close H ty cs) #[.chan (some ch)]).events P w #[]= #[⟨.obj ch,false,true⟩,⟨.obj ch,true,true⟩]:=by
  rw[V,e];unfold Sem.events;show(Sem.runT P (Sem.getObj ch _) w #[]).2=_;simp only[Sem.runT,h];show(Sem.runT P (Sem.setObj ch _ _) w _).2=_;simp only[Sem.runT,h];rfl
 have h3:seen P f #[⟨.obj ch,false,true⟩,⟨.obj ch,true,true⟩]= #[⟨.obj ch,false,true⟩,⟨.obj ch,true,true⟩]:=by
  simp[seen]
 simp[G,stepG,unwind,callDeferred,mkF,Zjq,h1,h2,h3,GStep.after]
theorem ZqN {fr:Frame} {cs:List Frame} {w:World} {S J:Frame} {E:RP} {s:Nat} {tm:Bool} (hk:kf P fr cs=some (ch,cell,E)) (aa:Zos P fr cs S J) (hE:ZrF P ch cell E (S,cs)) (U:w.heap[ch]? =some (.chan 0 #[] false s s tm))
  (I:w.cell? ⟨cell,0,none⟩=some (.chan (some ch))) (A:ch≠cell) {Z:Frame} {c1:List Frame} (h0:∀main w,stepG P main (G J []) w= .go (G Z c1) w) {wf:World} (hF:Fz cell wf w) {b:Cf} (Y:StepsC P (some ch) ⟨Z,c1,wf⟩ b)
  {L:List Bool} {s' r':Nat} {tm':Bool} (hb:b.w.heap[ch]? =some (.chan 0 (L.map Value.bool).toArray false s' r' tm')) (ab:ZjF P (λn=>n=cell\/n=ch) ch b.fr b.cs):
  ∃H,Fz cell b.w H/\StepsC P none ⟨fr,cs,w⟩ ⟨(got (E L) false false).1,(got (E L) false false).2,H.setChan ch 0 #[] true s' s' tm'⟩:=by
 obtain⟨H,h1,V,_⟩:=StepsC.child (KF:=kf P) (R:=E) A Y w hF ⟨#[],s,s,tm,(hF.ne ch A).symm.trans U⟩;refine⟨H,V,.one ?_⟩;exact .head (.go hk aa hE U I A) (.head (.cown (Ow.ctl h0)) (Zd6.trans h1 (.head (.close ab ((V.ne ch A).trans hb)) (.refl _))))
theorem Ju {x y:Frame×List Frame} (h:∀w,stepG P true (G x.1 x.2) w= .go (G y.1 y.2) w):ZeY P ch cell x y:=λw _=>⟨#[],h w,λe A=>by simp at A⟩
variable {b:FB} {ds:List Deferred} {k:List Item} {cs:List Frame}
theorem ZqD:ZeY P ch cell (mkF b t ds (.code .skip::k),cs) (mkF b t ds k,cs):=Ju λ_=>rfl
theorem Zfi {id:Nat}:ZeY P ch cell (mkF b t ds (.inBlock id::k),cs) (mkF b t ds k,cs):=Ju λ_=>rfl
theorem JY {x y:Code}:ZeY P ch cell (mkF b t ds (.code (.seq x y)::k),cs) (mkF b t ds (.code x:: .code y::k),cs):=Ju λ_=>rfl
theorem Zkh {c:Operand} {x y:Code} {v:Bool} (h:QV t c= .bool v):ZeY P ch cell (mkF b t ds (.code (.cond c x y)::k),cs) (mkF b t ds (.code (if v then x else y)::k),cs):=
 Ju λ_=>by
  have h:(mkF b t ds (.code (.cond c x y)::k)).eval c= .bool v:=by rw[ZcF];exact h
  simp only[mkF]at h;simp[stepG,stepG.exec,mkF,G,h]
theorem Zh5 {id:Nat} {c:Code}:ZeY P ch cell (mkF b t ds (.code (.block id c)::k),cs) (mkF b t ds (.code c:: .inBlock id::k),cs):=Ju λ_=>rfl
theorem ZqE {c:Code}:ZeY P ch cell (mkF b t ds (.code (.loop c)::k),cs) (mkF b t ds (.code c:: .inLoop c::k),cs):=Ju λ_=>rfl
theorem ZgH {c:Code}:ZeY P ch cell (mkF b t ds (.inLoop c::k),cs) (mkF b t ds (.code c:: .inLoop c::k),cs):=Ju λ_=>rfl
theorem X1 {id:Nat} {ops:Array Oper} {l:List Nat} (A:aT ops.size=l):ZeY P ch cell (mkF b t ds (.code (.region id ops false)::k),cs) (mkF b t ds (.inRegion ops l::k),cs):=Ju λ_=>by subst A;simp[stepG,stepG.exec,mkF,G]
theorem XV {ops:Array Oper}:ZeY P ch cell (mkF b t ds (.inRegion ops []::k),cs) (mkF b t ds k,cs):=Ju λ_=>by simp[stepG,stepG.exec,mkF,G]
structure JQ (ops:Array Oper) (i:Nat) (d:Option Tmp) (op:Op):Prop where
 ok:∃o,ops[i]? =some o/\o.op=op/\o.dst=d/\o.guard=none
theorem ZeT {ops:Array Oper} {i:Nat} {rest:List Nat} {o:Oper} {v:Value} {w w':World} {es:Array Event} (A:ops[i]? =some o) (I:o.guard=none) (H:∀c,o.op≠ .defer c) (hr:(execOp (QV t) o).runT P w #[]=(.ok (.value v) w',es)) (main:Bool):
  stepG P main (G (mkF b t ds (.inRegion ops (i::rest)::k)) cs) w= .go (G (mkF b (Z8 t o.dst v) ds (.inRegion ops rest::k)) cs) w' (seen P b.fn es):=by
 have J:(mkF b t ds (.inRegion ops (i::rest)::k)).finish v=mkF b (Z8 t o.dst v) ds (.inRegion ops rest::k):=by rw[XF,A];rfl
 rw[Zdf A (by simp[Region.wanted,I]) H,<-J];unfold stepG.apply;simp only[if_true,hr,b.not_early,show((mkF b t ds (.inRegion ops (i::rest)::k)).kind==CallKind.early)=false from b.not_early,aX,if_false];simp[GStep.after,G,mkF]
theorem JL {ops:Array Oper} {i:Nat} {rest:List Nat} {d:Option Tmp} {op:Op} {v:Value} (H:JQ ops i d op) (I:∀c,op≠ .defer c) (hr:∀o:Oper,o.op=op->execOp (QV t) o=pure (.value v)):
  ZeY P ch cell (mkF b t ds (.inRegion ops (i::rest)::k),cs) (mkF b (Z8 t d v) ds (.inRegion ops rest::k),cs):=by
 obtain⟨o,J,A,G,S⟩:=H.ok;refine Ju λw=>?_;have:=ZeT (P:=P) (b:=b) (ds:=ds) (k:=k) (cs:=cs) (rest:=rest) (w:=w) (w':=w) (v:=v) (es:= #[]) J S (λc=>by rw[A];exact I c) (by rw[hr o A];rfl) true;rw[seen_none,G]at this;exact this
theorem ZqF {ops:Array Oper} {i:Nat} {rest:List Nat} {d:Option Tmp} {T:TypeId} {a:Operand} {dr:ChanDir} {B:TypeId} (H:JQ ops i d (.load T a)) (Y:P.underlying T=some (.chan dr B)) (S:QV t a= .pointer (some ⟨cell,0,none⟩)):
  ZeY P ch cell (mkF b t ds (.inRegion ops (i::rest)::k),cs) (mkF b (Z8 t d (.chan (some ch))) ds (.inRegion ops rest::k),cs):=by
 obtain⟨o,I,A,G,Z⟩:=H.ok;intro w hw;have hr:(execOp (QV t) o).runT P w #[]=(.ok (.value (.chan (some ch))) w, #[⟨.cell ⟨cell,0,none⟩,false,false⟩]):=by
  have e:execOp (QV t) o=(ec T (.pointer (some ⟨cell,0,none⟩))>>=λx=>pure (.value x)):=by
   unfold execOp;simp only[A,S]
  rw[e];have V:∀es,(isAgg T).runT P w es=(.ok false w,es):=λes=>by
   unfold isAgg underlying;show(Sem.bind (Sem.bind program _) _).runT P w es=_;rw[Sem.runT_bind',Sem.runT_bind',show program.runT P w es=(.ok P w,es)from rfl];simp only[Y];rfl
  have U:∀es,(load ⟨cell,0,none⟩).runT P w es=(.ok (.chan (some ch)) w,es.push ⟨.cell ⟨cell,0,none⟩,false,false⟩):=λes=>by
   unfold load;simp only[Sem.runT,hw];rfl
  show(Sem.bind (Sem.bind (isAgg T) _) _).runT P w #[]=_;rw[Sem.runT_bind',Sem.runT_bind',V];simp only[aX,if_false];rw[U];rfl
 have:=ZeT (P:=P) (b:=b) (ds:=ds) (k:=k) (cs:=cs) (rest:=rest) I Z (λc=>by rw[A];intro h;cases h) hr true;rw[G]at this;exact⟨_,this,λe J=>by simpa using mem_seen J⟩
end
end Vm
namespace Vm
open Go Go.Conc Go.Proofs Conc1
structure ZbM (T I I':TypeId) (fid:FuncId) (o2 o3 o4 o5 o6 o7 o8 o9 o10:Array Oper):Prop where
 s2:aT o2.size=[0,1,2]
 s3:aT o3.size=[0,1]
 s4:aT o4.size=[0,1]
 s5:aT o5.size=[0]
 s6:aT o6.size=[0,1]
 s7:aT o7.size=[0,1]
 s8:aT o8.size=[0]
 s9:aT o9.size=[0,1,2]
 s10:aT o10.size=[0,1,2]
 a20:JQ o2 0 (some 37) (.makeChan T (.const (.int .i64 0)))
 a21:JQ o2 1 (some 11) (.alloc T)
 a22:JQ o2 2 none (.store T (.tmp 11) (.tmp 37))
 a30:JQ o3 0 (some 38) (.makeFunc (.func fid) #[] #[.tmp 11,.tmp 4,.tmp 9,.tmp 10])
 a31:JQ o3 1 none (.go {callee:=.value (.tmp 38),args:= #[],argTypes:= #[]})
 a40:JQ o4 0 (some 12) (.assign (.const (.int .i64 0)))
 a41:JQ o4 1 (some 13) (.assign (.const (.int .i64 0)))
 a50:JQ o5 0 (some 39) (.load T (.tmp 11))
 a60:JQ o6 0 (some 40) (.recv T (.tmp 39) true)
 a61:JQ o6 1 (some 41) (.extract (.tmp 40) 1)
 a70:JQ o7 0 (some 42) (.extract (.tmp 40) 0)
 a71:JQ o7 1 (some 14) (.assign (.tmp 42))
 a80:JQ o8 0 (some 43) (.move (.tmp 14))
 a90:JQ o9 0 (some 44) (.move (.tmp 12))
 a91:JQ o9 1 (some 45) (.binOp .add I (.tmp 44) (.const (.int .i64 1)) I')
 a92:JQ o9 2 (some 12) (.assign (.tmp 45))
 a100:JQ o10 0 (some 46) (.move (.tmp 13))
 a101:JQ o10 1 (some 47) (.binOp .add I (.tmp 46) (.const (.int .i64 1)) I')
 a102:JQ o10 2 (some 13) (.assign (.tmp 47))
def Zjz:Value->Value
 |.int .i64 n=>.int .i64 (IntKind.i64.wrap (n+1))
 |v=>v
def st0 (ch:Nat) (t:Array Value):Array Value:=Z8 (Z8 (Z8 t (some 12) (.int .i64 0)) (some 13) (.int .i64 0)) (some 39) (.chan (some ch))
def Zfu (t:Array Value) (v:Bool):Array Value:=Z8 (Z8 (Z8 (Z8 (Z8 t (some 40) (.tuple #[.bool v,.bool true])) (some 41) (.bool true)) (some 42) (.bool v)) (some 14) (.bool v)) (some 43) (.bool v)
def stp (t:Array Value) (v:Bool):Array Value:=match v with
 |true=>Z8 (Z8 (Z8 (Zfu t v) (some 44) (t.getD 12 undef)) (some 45) (Zjz (t.getD 12 undef))) (some 12) (Zjz (t.getD 12 undef))
 |false=>Z8 (Z8 (Z8 (Zfu t v) (some 46) (t.getD 13 undef)) (some 47) (Zjz (t.getD 13 undef))) (some 13) (Zjz (t.getD 13 undef))
def cnt (w:Bool):List Bool->Int->Int
 |[],n=>n
 |v::l,n=>cnt w l (if v=w then IntKind.i64.wrap (n+1)else n)
theorem Qc {t:Array Value} {d:Option Tmp} {v:Value}:(Z8 t d v).size=t.size:=by cases d<;>simp[Z8]
theorem YW {t:Array Value} {d:Nat} {v:Value} (h:d<t.size):(Z8 t (some d) v).getD d undef=v:=by
 simp[Z8,aI,h]
theorem Q9 {t:Array Value} {d i:Nat} {v:Value} (h:d≠i):(Z8 t (some d) v).getD i undef=t.getD i undef:=by
 simp[Z8,aI,aF h]
theorem XL {t:Array Value} {d:Nat} {v:Value} (h:d<t.size):QV (Z8 t (some d) v) (.tmp d)=v:=YW h
theorem Y1 {t:Array Value} {d i:Nat} {v:Value} (h:d≠i):QV (Z8 t (some d) v) (.tmp i)=QV t (.tmp i):=Q9 h
structure ZhH (t0 t:Array Value) (ch cell:Nat) (y n:Int):Prop where
 size:t.size=t0.size
 c11:t.getD 11 undef= .pointer (some ⟨cell,0,none⟩)
 c39:t.getD 39 undef= .chan (some ch)
 c12:t.getD 12 undef= .int .i64 y
 c13:t.getD 13 undef= .int .i64 n
theorem ZhH.step {G t:Array Value} {ch cell:Nat} {y n:Int} (h:ZhH G t ch cell y n) (H:47<G.size) (v:Bool):ZhH G (stp t v) ch cell (if v=true then IntKind.i64.wrap (y+1)else y) (if v=false then IntKind.i64.wrap (n+1)else n):=by
 have A:=h.size;cases v
 ·refine⟨?_,?_,?_,?_,?_⟩
  ·simp only[stp,Zfu,Qc];exact A
  ·simp only[stp,Zfu];repeat rw[Q9 (by decide)]
   exact h.c11
  ·simp only[stp,Zfu];repeat rw[Q9 (by decide)]
   exact h.c39
  ·simp only[stp,Zfu];repeat rw[Q9 (by decide)]
   exact h.c12
  simp only[stp];rw[YW (by simp only[Zfu,Qc];omega),h.c13];rfl
 refine⟨?_,?_,?_,?_,?_⟩
 ·simp only[stp,Zfu,Qc];exact A
 ·simp only[stp,Zfu];repeat rw[Q9 (by decide)]
  exact h.c11
 ·simp only[stp,Zfu];repeat rw[Q9 (by decide)]
  exact h.c39
 ·simp only[stp];rw[YW (by simp only[Zfu,Qc];omega),h.c12];rfl
 simp only[stp,Zfu];repeat rw[Q9 (by decide)]
 exact h.c13
theorem ZhH.fold {A:Array Value} {ch cell:Nat} (G:47<A.size):∀(L:List Bool) {t:Array Value} {y n:Int},ZhH A t ch cell y n->ZhH A (L.foldl stp t) ch cell (cnt true L y) (cnt false L n)
 |[],_,_,_,h=>h
 |v::L,_,_,_,h=>by
  have:=ZhH.fold G L (h.step G v);exact this
section
variable {P:Program} {ch cell:Nat} {b:FB} {ds:List Deferred} {k:List Item} {cs:List Frame}
variable {T I I':TypeId} {fid:FuncId} {o2 o3 o4 o5 o6 o7 o8 o9 o10:Array Oper}
theorem Zge {T:TypeId} {d:TypeDesc} {w:World} {es:Array Event} (h:P.underlying T=some d):(underlying T).runT P w es=(.ok d w,es):=by
 unfold underlying;show(Sem.bind program _).runT P w es=_;rw[Sem.runT_bind',show program.runT P w es=(.ok P w,es)from rfl];simp only[h];rfl
theorem Zej {T:TypeId} {i:TypeInfo} {w:World} {es:Array Event} (h:P.info? T=some i):(typeInfo T).runT P w es=(.ok i w,es):=by
 unfold typeInfo;show(Sem.bind program _).runT P w es=_;rw[Sem.runT_bind',show program.runT P w es=(.ok P w,es)from rfl];simp only[h];rfl
theorem Zgd {T:TypeId} {i:TypeInfo} {v:Value} {w:World} {es:Array Event} (h:P.info? T=some i) (hv:i.zero=some v):(zeroValue T).runT P w es=(.ok v w,es):=by
 unfold zeroValue;show(Sem.bind (typeInfo T) _).runT P w es=_;rw[Sem.runT_bind',Zej h];simp only[hv];rfl
theorem ZeJ {t:Array Value} {x:Operand} {v:Value} (h:QV t x=v):∀o:Oper,o.op= .move x->execOp (QV t) o=pure (.value v):=λo A=>by
 unfold execOp;simp only[A,h]
theorem JD {t:Array Value} {x:Operand} {v:Value} (h:QV t x=v):∀o:Oper,o.op= .assign x->execOp (QV t) o=pure (.value v):=λo A=>by
 unfold execOp;simp only[A,h]
theorem JZ {t:Array Value} {x:Operand} {vs:Array Value} {i:Nat} {v:Value} (h:QV t x= .tuple vs) (hv:vs[i]? =some v):∀o:Oper,o.op= .extract x i->execOp (QV t) o=pure (.value v):=λo A=>by
 unfold execOp;simp only[A,h,Instr.extract,hv];rfl
theorem ZkA {t:Array Value} {x:Operand} {n:Int} (h:QV t x= .int .i64 n):∀o:Oper,o.op= .binOp .add I x (.const (.int .i64 1)) I'->execOp (QV t) o=pure (.value (Zjz (.int .i64 n))):=λo A=>by
 unfold execOp;simp only[A,h];rfl
def lpB (i6 i7 i8 i9 i10 b0 b1:Nat) (H I G J A:Array Oper):Code:=
 .seq (.region i6 H false) (.seq (.cond (.tmp 41) .skip (.exit b0)) (.block b1 (.seq (.region i7 I false) (.seq (.region i8 G false) (.cond (.tmp 43) (.region i9 J false) (.region i10 A false))))))
def atR (i6 i7 i8 i9 i10 b0 b1:Nat) (H I G J A:Array Oper) (k:List Item) (r:List Nat):List Item:=
 .inRegion H r:: .code (.seq (.cond (.tmp 41) .skip (.exit b0)) (.block b1 (.seq (.region i7 I false) (.seq (.region i8 G false) (.cond (.tmp 43) (.region i9 J false) (.region i10 A false)))))):: .inLoop (lpB i6 i7 i8 i9 i10 b0 b1 H I G J A):: .inBlock b0::k
theorem ZlV {S J i6 i7 i8 i9 i10 b0 b1:Nat} {A:Code} (H:ZbM T I I' fid o2 o3 o4 o5 o6 o7 o8 o9 o10) {dr:ChanDir} {B:TypeId} (U:P.underlying T=some (.chan dr B)) {t:Array Value} (G:QV t (.tmp 11)= .pointer (some ⟨cell,0,none⟩)):
  ZeX P ch cell 15 (mkF b t ds (.inRegion o3 []:: .code (.seq (.region S o4 false) (.seq (.seq (.region J o5 false) (.block b0 (.loop (lpB i6 i7 i8 i9 i10 b0 b1 o6 o7 o8 o9 o10)))) A))::k),cs) (mkF b (st0 ch t) ds (atR i6 i7 i8 i9 i10 b0 b1 o6 o7 o8 o9 o10 (.code A::k) [0,1]),cs):=by
 refine .succ XV (.succ JY (.succ (X1 H.s4) (.succ (JL H.a40 (λ_ h=>by cases h) (JD rfl)) (.succ (JL H.a41 (λ_ h=>by cases h) (JD rfl)) (.succ XV ?_)))));refine .succ JY (.succ JY (.succ (X1 H.s5) (.succ (ZqF H.a50 U ?_) (.succ XV ?_))))
 ·rw[Y1 (by decide),Y1 (by decide)];exact G
 exact .succ Zh5 (.succ ZqE (.succ JY (.succ (X1 H.s6) (.zero _))))
theorem ZnZ {i6 i7 i8 i9 i10 b0 b1:Nat} (H:ZbM T I I' fid o2 o3 o4 o5 o6 o7 o8 o9 o10) {G t:Array Value} {y n:Int} (S:47<G.size) (h:ZhH G t ch cell y n) (v:Bool):
  ZeX P ch cell 25 (mkF b (Z8 t (some 40) (.tuple #[.bool v,.bool true])) ds (atR i6 i7 i8 i9 i10 b0 b1 o6 o7 o8 o9 o10 k [1]),cs) (mkF b (stp t v) ds (atR i6 i7 i8 i9 i10 b0 b1 o6 o7 o8 o9 o10 k [0,1]),cs):=by
 have J:=h.size;have A:QV (Z8 t (some 40) (.tuple #[.bool v,.bool true])) (.tmp 40)= .tuple #[.bool v,.bool true]:=XL (by omega);refine .succ (JL H.a61 (λ_ h=>by cases h) (JZ (v:=.bool true) A rfl)) (.succ XV (.succ JY (.succ (Zkh (v:=true) (XL (by simp only[Qc];omega))) ?_)));refine .succ ZqD (.succ Zh5 (.succ JY (.succ (X1 H.s7) ?_)));refine .succ (JL H.a70 (λ_ h=>by cases h) (JZ (v:=.bool v) ((Y1 (by decide)).trans A) rfl)) ?_;refine .succ (JL H.a71 (λ_ h=>by cases h) (JD (XL (by simp only[Qc];omega)))) (.succ XV (.succ JY (.succ (X1 H.s8) ?_)));refine .succ (JL H.a80 (λ_ h=>by cases h) (ZeJ (XL (by simp only[Qc];omega)))) (.succ XV (.succ (Zkh (v:=v) (XL (by simp only[Qc];omega))) ?_));cases v
 ·refine .succ (X1 H.s10) (.succ (JL H.a100 (λ_ h=>by cases h) (ZeJ (v:=t.getD 13 undef) ?_)) ?_)
  ·rw[Y1 (by decide),Y1 (by decide),Y1 (by decide),Y1 (by decide),Y1 (by decide)];rfl
  have e:Zjz (.int .i64 n)=Zjz (t.getD 13 undef):=by rw[h.c13]
  refine .succ (JL H.a101 (λ_ h=>by cases h) (ZkA (n:=n) ((XL (by simp only[Qc];omega)).trans h.c13))) ?_;rw[e];exact .succ (JL H.a102 (λ_ h=>by cases h) (JD (XL (by simp only[Qc];omega)))) (.succ XV (.succ Zfi (.succ ZgH (.succ JY (.succ (X1 H.s6) (.zero _))))))
 refine .succ (X1 H.s9) (.succ (JL H.a90 (λ_ h=>by cases h) (ZeJ (v:=t.getD 12 undef) ?_)) ?_)
 ·rw[Y1 (by decide),Y1 (by decide),Y1 (by decide),Y1 (by decide),Y1 (by decide)];rfl
 have e:Zjz (.int .i64 y)=Zjz (t.getD 12 undef):=by rw[h.c12]
 refine .succ (JL H.a91 (λ_ h=>by cases h) (ZkA (n:=y) ((XL (by simp only[Qc];omega)).trans h.c12))) ?_;rw[e];exact .succ (JL H.a92 (λ_ h=>by cases h) (JD (XL (by simp only[Qc];omega)))) (.succ XV (.succ Zfi (.succ ZgH (.succ JY (.succ (X1 H.s6) (.zero _))))))
def ZqK (i6 i7 i8 i9 i10 b0 b1:Nat) (H I G J A:Array Oper) (b:FB) (ds:List Deferred) (k:List Item) (cs:List Frame) (t:Array Value):RP:=λL=>(mkF b (L.foldl stp t) ds (atR i6 i7 i8 i9 i10 b0 b1 H I G J A k [0,1]),cs)
theorem Zjf {t:Array Value} (G:47<t.size) (A:t.getD 11 undef= .pointer (some ⟨cell,0,none⟩)) (L:List Bool):ZhH t (L.foldl stp (st0 ch t)) ch cell (cnt true L 0) (cnt false L 0):=by
 have H:ZhH t (st0 ch t) ch cell 0 0:=by
  refine⟨?_,?_,?_,?_,?_⟩
  ·simp only[st0,Qc]
  ·simp only[st0];rw[Q9 (by decide),Q9 (by decide),Q9 (by decide)];exact A
  ·exact YW (by simp only[Qc];omega)
  ·simp only[st0];rw[Q9 (by decide),Q9 (by decide)];exact YW (by omega)
  simp only[st0];rw[Q9 (by decide)];exact YW (by simp only[Qc];omega)
 exact H.fold G L
theorem Zn1 {Y U i6 i7 i8 i9 i10 b0 b1:Nat} {A:Code} (H:ZbM T I I' fid o2 o3 o4 o5 o6 o7 o8 o9 o10) {dr:ChanDir} {B:TypeId} (hU:P.underlying T=some (.chan dr B)) (hB:∃i,P.info? B=some i/\i.zero=some (.bool false)) {t:Array Value} (hs:47<t.size)
  (S:t.getD 11 undef= .pointer (some ⟨cell,0,none⟩)) (ae:t.getD 37 undef= .chan (some ch)) {fr:Frame} {ab:Frame} (aa:fr=mkF b t ds (.inRegion o3 [1]:: .code (.seq (.region Y o4 false) (.seq (.seq (.region U o5 false) (.block b0 (.loop (lpB i6 i7 i8 i9 i10 b0 b1 o6 o7 o8 o9 o10)))) A))::k))
  (ac:Zos P fr cs (mkF b t ds (.inRegion o3 []:: .code (.seq (.region Y o4 false) (.seq (.seq (.region U o5 false) (.block b0 (.loop (lpB i6 i7 i8 i9 i10 b0 b1 o6 o7 o8 o9 o10)))) A))::k)) ab):
  kf P fr cs=some (ch,cell,ZqK i6 i7 i8 i9 i10 b0 b1 o6 o7 o8 o9 o10 b ds (.code A::k) cs (st0 ch t))/\ZrF P ch cell (ZqK i6 i7 i8 i9 i10 b0 b1 o6 o7 o8 o9 o10 b ds (.code A::k) cs (st0 ch t)) (mkF b t ds (.inRegion o3 []:: .code (.seq (.region Y o4 false) (.seq (.seq (.region U o5 false) (.block b0 (.loop (lpB i6 i7 i8 i9 i10 b0 b1 o6 o7 o8 o9 o10)))) A))::k),cs):=by
 have gd:∀i v,i<t.size->t.getD i undef=v->t[i]? =some v:=λi v h e=>by
  rw[aI,aY h]at e;rw[aY h];exact congrArg some e
 have hL:=Zjf (ch:=ch) hs S;subst aa;refine ZwM (gd 37 _ (by omega) ae) (gd 11 _ (by omega) S) ac ⟨15,by decide,ZlV H hU S⟩ (λL w hw=>⟨#[],?_,λe he=>by simp at he⟩) λL v=>⟨25,by decide,?_⟩
 ·obtain⟨o,V,J,Z,hg⟩:=H.a60.ok;obtain⟨i,hi,hz⟩:=hB;show stepG P true (G (mkF b (L.foldl stp (st0 ch t)) ds (.inRegion o6 [0,1]::_)) cs) w=_;rw[Zdf V (by simp[Region.wanted,hg]) (λc=>by rw[J];intro h;cases h)];have hr:(execOp (QV (L.foldl stp (st0 ch t))) o).runT P w #[]=(.ok (.comm #[rcase ch (.bool false)] true (.recv true)) w, #[]):=by
   unfold execOp;simp only[J,show QV (L.foldl stp (st0 ch t)) (.tmp 39)= .chan (some ch)from(hL L).c39];show(Sem.bind (underlying T) _).runT P w #[]=_;rw[Sem.runT_bind',Zge hU];show(Sem.bind (zeroValue B) _).runT P w #[]=_;rw[Sem.runT_bind',Zgd hi hz];rfl
  unfold stepG.apply;simp only[if_true,hr];have hk:=b.not_early;simp[GStep.after,G,mkF,seen_none,hk];exact⟨rfl,rfl⟩
 have:=ZnZ (P:=P) (b:=b) (ds:=ds) (k:=.code A::k) (cs:=cs) (i6:=i6) (i7:=i7) (i8:=i8) (i9:=i9) (i10:=i10) (b0:=b0) (b1:=b1) H hs (hL L) v;unfold ZqK;rw[List.foldl_append];obtain⟨o,V,J,Z,hg⟩:=H.a60.ok;have e:got (mkF b (L.foldl stp (st0 ch t)) ds (atR i6 i7 i8 i9 i10 b0 b1 o6 o7 o8 o9 o10 (.code A::k) [0,1]),cs) v true=(mkF b (Z8 (L.foldl stp (st0 ch t)) (some 40) (.tuple #[.bool v,.bool true])) ds (atR i6 i7 i8 i9 i10 b0 b1 o6 o7 o8 o9 o10 (.code A::k) [1]),cs):=by
  unfold got atR;rw[XF,V];show(mkF b (Z8 _ o.dst _) ds _,cs)=_;rw[Z]
 rw[e];exact this
end
end Vm
namespace Vm
open Go Go.Conc Go.Proofs Conc1
section
variable {P:Program} {b:FB} {ds:List Deferred} {k:List Item} {cs:List Frame} {t:Array Value}
theorem Zf2 {cx:Option Nat} {ops:Array Oper} {i:Nat} {rest:List Nat} {d:Option Tmp} {op:Op} {v:Value} {nv:Next} {w w':World} (H:JQ ops i d op) (J:∀c,op≠ .defer c) (hm:∀o:Oper,o.op=op->ZA P (λ_=>False) (execOp (QV t) o))
  (hr:∀o:Oper,o.op=op->(execOp (QV t) o).run P w= .ok nv w') (I:nv= .value v\/(nv= .skip/\v=undef)):
  One P cx (ZN (mkF b t ds (.inRegion ops (i::rest)::k)) cs w) (ZN (mkF b (Z8 t d v) ds (.inRegion ops rest::k)) cs w'):=by
 obtain⟨o,S,A,G,U⟩:=H.ok;rw[<-G];exact ZaP S (by simp[Region.wanted,U]) (λc=>by rw[A];exact J c) (hm o A) (hr o A) I
theorem ZjN {ops:Array Oper} {rest:List Nat} {i d:Nat} {T:TypeId} {dr:ChanDir} {B:TypeId} {w:World} (H:JQ ops i (some d) (.makeChan T (.const (.int .i64 0)))) (V:P.underlying T=some (.chan dr B)) (U:∃i,P.info? B=some i):
  One P none (ZN (mkF b t ds (.inRegion ops (i::rest)::k)) cs w) (ZN (mkF b (Z8 t (some d) (.chan (some w.heap.size))) ds (.inRegion ops rest::k)) cs {w with heap:=w.heap.push (.chan 0 #[] false 0 0 false)}):=by
 obtain⟨o,I,A,G,Y⟩:=H.ok;obtain⟨iB,Z⟩:=U;have hr:∀w:World,(execOp (QV t) o).runT P w #[]=(.ok (.value (.chan (some w.heap.size))) {w with heap:=w.heap.push (.chan 0 #[] false 0 0 false)}, #[]):=λw=>by
  have e:execOp (QV t) o=(Instr.makeChan T (.int .i64 0)>>=λx=>pure (.value x)):=by
   unfold execOp;simp only[A];rfl
  rw[e];unfold Instr.makeChan;show(Sem.bind (Sem.bind (underlying T) _) _).runT P w #[]=_;rw[Sem.runT_bind',Sem.runT_bind',Zge V];dsimp only;rw[show∀f:TypeInfo->Sem Value,(typeInfo B>>=f)=Sem.bind (typeInfo B) f from λ_=>rfl,Sem.runT_bind',Zej Z];dsimp only;rw[iP (by simp[IntKind.max];decide)];rfl
 refine StepsC.main ?_;refine .one (.head (.own ⟨Nat,Sem.new (.chan 0 #[] false 0 0 false) Sem.pure,λn=>(mkF b (Z8 t (some d) (.chan (some n))) ds (.inRegion ops rest::k),cs),w.heap.size, #[],λmain w J x es h=>?_,rfl,rfl,λe S=>by simp at S⟩) (.refl _));have h:((.ok w.heap.size {w with heap:=w.heap.push (.chan 0 #[] false 0 0 false)}:Result Nat),(#[]:Array Event))=(.ok x J,es):=h;simp only[aK,Result.ok.injEq]at h;obtain⟨⟨rfl,rfl⟩,rfl⟩:=h;have:=ZeT (P:=P) (b:=b) (ds:=ds) (k:=k) (cs:=cs) (rest:=rest) I Y (λc=>by rw[A];intro h;cases h) (hr w) main;rw[G]at this;exact this
theorem ZmR {α:Type} {A:Array α} {x y:α} {j:Nat} (h:j≠A.size):(A.push x)[j]? =(A.push y)[j]? :=by
 rw[bK,bK,iP h,iP h]
theorem VR.setCx {R:RC} {a:AV} {v:Value} (c:Option Nat) (h:VR R a v):VR {R with cx:=c} a v:=by
 induction h with
 |pure a v h=>exact .pure a v h
 |undef v=>exact .undef v
 |ptr id A h=>exact .ptr (R:={R with cx:=c}) id A h
 |own s n f id v h Y I H=>exact .own s n f id v h Y I H
 |nn s n f v Y hv=>exact .nn s n f v Y hv
 |aptr id s e A i h H=>exact .aptr (R:={R with cx:=c}) id s e A i h H
 |msl id s lo n c i len ab h ae I hc ah=>exact .msl (R:={R with cx:=_}) id s lo n c i len ab h ae I hc ah
 |gsl id n a l c h I H Z=>exact .gsl id n a l c h I H Z
 |gptr id s n e A a h I H=>exact .gptr id s n e A a h I H
 |nsub id e l a ll c G i h hv H hu Z=>exact .nsub id e l a ll c G i h hv H hu Z
 |nptr id s e k A G i b o l c j h hv H hu hk=>exact .nptr id s e k A G i b o l c j h hv H hu hk
 |lit s cs b o G hs U V h3 J=>exact .lit s cs b o G hs U J h3
 |map id h=>exact .map (R:={R with cx:=c}) id h
 |mit id h h0=>exact .mit (R:={R with cx:=c}) id h h0
 |fn f xs bs G vs S hb U V aa ac=>exact .fn f xs bs G vs S hb aa ac
 |yld id h=>exact .yld (R:={R with cx:=c}) id h
 |agg cs G S h J=>exact .agg cs G S J
 |tup cs G S h J=>exact .tup cs G S J
 |gd g a v h J=>exact .gd g a v J
 |ob g b v U V=>exact .ob g b v U V
structure KC (P:Program) (fid:FuncId) (xs:Nat->List AV) (L:List Bool):Prop where
 run:∀(ch:Nat) (R:RC) (vs:Array Value),HR (λ_ _ _=>True) R [.gob (.chq ch λ_=>[])]->R.cx=some ch->R.n0=1->Yf R (xs ch) vs->∀cs,∃t todo w' s r tm ts ty c,
  StepsC P (some ch) ⟨dO P fid vs .deferred,cs,R.w⟩ ⟨{mkF ⟨fid,true,none,[]⟩ t [Zjq ts ty c ch] todo with mode:=.returning},cs,w'⟩/\w'.heap[ch]? =some (.chan 0 (L.map Value.bool).toArray false s r tm)/\
  (∀b,b<R.w.heap.size->b≠ch->w'.heap[b]? =R.w.heap[b]?)/\R.w.heap.size<=w'.heap.size/\w'.os=R.w.os/\w'.tape=R.w.tape/\w'.output=R.w.output
def wCh (w:World) (v:Value) (T:TypeId) (f:Nat×Nat):World:={w with heap:=(w.heap.push (.chan 0 #[] false 0 0 false)).push (.cells #[v] T f)}
theorem Zlf {w:World} {v:Value} {T:TypeId} {f:Nat×Nat} {b:Nat} (h:b<w.heap.size):(wCh w v T f).heap[b]? =w.heap[b]? :=by
 show((w.heap.push _).push _)[b]? =_;rw[bK,iP (by simp;omega),bK,iP (by omega)]
theorem ZoI {w:World} {v:Value} {T:TypeId} {f:Nat×Nat}:(wCh w v T f).heap[w.heap.size]? =some (.chan 0 #[] false 0 0 false):=by
 show((w.heap.push _).push _)[w.heap.size]? =_;rw[bK,iP (by simp),bK,iQ rfl]
theorem Zdw {w:World} {v:Value} {T:TypeId} {f:Nat×Nat}:(wCh w v T f).heap[w.heap.size+1]? =some (.cells #[v] T f):=by
 show((w.heap.push _).push _)[w.heap.size+1]? =_;rw[bK,iQ (by simp)]
theorem Zb0 {w:World} {v:Value} {T:TypeId} {f:Nat×Nat}:(wCh w v T f).heap.size=w.heap.size+2:=by
 show((w.heap.push _).push _).size=_;simp
theorem Zeg {w:World} {v:Value} {T:TypeId} {f:Nat×Nat}:(wCh w v T f).cell? ⟨w.heap.size+1,0,none⟩=some v:=by
 unfold bV;rw[Zdw];rfl
theorem ZkN {w w':World} {b:Nat} (h:w'.heap[b]? =w.heap[b]?) (i:Nat):w'.cell? ⟨b,i,none⟩=w.cell? ⟨b,i,none⟩:=by
 unfold bV;simp only[h]
end
theorem Zrf {G:Nat->Nat->Nat->Prop} {R:RC} {h:List Zi} (H:HR G R h) (T:TypeId):∃I:RC,I.w=wCh R.w (.chan (some R.w.heap.size)) T (0,1)/\I.cx=some R.w.heap.size/\I.n0=1/\HR (λ_ _ _=>True) I [.gob (.chq R.w.heap.size λ_=>[])]/\
  (∀k a v,VR R a v->VR I (QE true [] h k a) v)/\VR I (.iptr [.cch R.w.heap.size] 0) (.pointer (some ⟨R.w.heap.size+1,0,none⟩)):=by
 obtain⟨J,ae,a0,V,Y,a3,a4,a5,Z,a7,a8⟩:=H.sel (fz:=true) (ι:=[]) (λ_ _ _=>True) (λ_ _ _ _=>trivial) (λ_ _ _ _ _ _ _ _=>trivial) (λ_ _ _ _=>trivial) (λ_ _ _ _ _ _ _ _ _=>trivial) ey (λi A=>by cases A) (λ_ _ _ _ _ _ _ _ _=>trivial) 0 (aV _) (λ_=>aV _);let n:=R.w.heap.size;let I:RC:={J with w:=wCh R.w (.chan (some n)) T (0,1),cx:=some n,m:=1,n0:=1,α:=λ_=>⟨n,0⟩,ok:=λb _ _=>b<n+2/\b≠n};have hs:I.w.heap.size=n+2:=Zb0;have ab:({J with cx:=some n}:RC).le I:=by
  refine⟨by show J.m<=1;rw[Y];exact aV _,λid A=>?_,λid A=>?_,λid A=>?_,λb o m S=>?_,λb o m S j U=>?_,λb S es ac e=>?_,rfl⟩
  ·have A:id<J.m:=A;rw[Y]at A;exact absurd A (fc _)
  ·have A:id<J.m:=A;rw[Y]at A;exact absurd A (fc _)
  ·have A:id<J.m:=A;rw[Y]at A;exact absurd A (fc _)
  ·have:=((Z.okd b o m).1 S).1;rw[V]at this;exact⟨by show b<R.w.heap.size+2;omega,by show b≠R.w.heap.size;omega⟩
  ·have:=((Z.okd b o m).1 S).1;rw[V]at this;show(wCh R.w _ T (0,1)).cell? _=J.w.cell? _;rw[V];exact ZkN (Zlf this) _
  have:=((Z.okd b 0 1).1 S).1;rw[V]at this;show(wCh R.w _ T (0,1)).heap[b]? =_;rw[Zlf this,<-V];exact e
 refine⟨I,rfl,rfl,rfl,⟨rfl,λb o m=>?_,λid blk A=>?_,λi j bi bj b aa A U=>?_,λ_ _ _ _ _ _ _ _=>trivial,λ_ _ _ _=>trivial,λ_ _ _ _ _ _ _ _=>trivial,aJ 1⟩,λk a v hv=>((a8 k a v hv).setCx (some n)).mono ab,.pure _ _ (.iptr _ _ _ _ (λ_=>.chan (some n)) (λj c U=>?_) (λj c U=>?_) ?_)⟩
 ·rw[hs];refine⟨λS=>⟨S.1,trivial,λid blk A=>?_⟩,λS=>⟨S.1,λe=>?_⟩⟩
  ·cases id with
   |zero=>
    cases A;show¬n=b;exact λe=>S.2 e.symm
   |succ id=>simp at A
  exact S.2.2 0 _ rfl (show n=b from e.symm)
 ·cases id with
  |zero=>
   cases A;exact⟨.chan 0 #[] false 0 0 false,ZoI,rfl,rfl,rfl,0,0,false,rfl⟩
  |succ id=>simp at A
 ·cases i with
  |zero=>
   cases j with
   |zero=>exact absurd rfl aa
   |succ j=>simp at U
  |succ i=>simp at A
 ·cases j with
  |zero=>
   cases U;exact Zeg
  |succ j=>simp at U
 ·cases j with
  |zero=>
   cases U;exact .cch n
  |succ j=>simp at U
 exact⟨by show n+1<n+2;omega,by show n+1≠n;omega⟩
section
variable {P:Program} {b:FB} {ds:List Deferred} {k:List Item} {cs:List Frame} {t:Array Value}
variable {T I I':TypeId} {fid:FuncId} {o2 o3 o4 o5 o6 o7 o8 o9 o10:Array Oper}
theorem Zn0 {i2 i3:Nat} {X:Code} (G:ZbM T I I' fid o2 o3 o4 o5 o6 o7 o8 o9 o10) {dr:ChanDir} {B:TypeId} (hU:P.underlying T=some (.chan dr B)) (hT:∃i,P.info? T=some i/\i.size=1/\i.zero=some (.chan none)) (hB:∃i,P.info? B=some i) (aa:t.size=51) (w:World):
  Steps P none (ZN (mkF b t ds (.code (.region i2 o2 false):: .code (.seq (.region i3 o3 false) X)::k)) cs w)
   (ZN (mkF b (Z8 (Z8 (Z8 t (some 37) (.chan (some w.heap.size))) (some 11) (.pointer (some ⟨w.heap.size+1,0,none⟩))) (some 38) (.func (.func fid) #[] #[.pointer (some ⟨w.heap.size+1,0,none⟩),t.getD 4 undef,t.getD 9 undef,t.getD 10 undef])) ds (.inRegion o3 [1]:: .code X::k)) cs (wCh w (.chan (some w.heap.size)) T (0,0))):=by
 obtain⟨iT,Y,hs,hz⟩:=hT;refine .head ZcA ?_;rw[G.s2];refine .head (ZjN G.a20 hU hB) ?_;refine .head (Zf2 (nv:=.value (.pointer (some ⟨w.heap.size+1,0,none⟩))) (w':=wCh w (.chan none) T (0,0)) G.a21 (λ_ h=>by cases h) (λo A=>?_) (λo A=>?_) (.inl rfl)) ?_
 ·unfold execOp;simp only[A];exact Zg (λ_=>ZgA) λ_ _=>Zp
 ·have V:(zeroValue T).run P {w with heap:=w.heap.push (.chan 0 #[] false 0 0 false)}= .ok (.chan none) {w with heap:=w.heap.push (.chan 0 #[] false 0 0 false)}:=by
   have:=Zgd (w:={w with heap:=w.heap.push (.chan 0 #[] false 0 0 false)}) (es:= #[]) Y hz;rw[Sem.runT_eq]at this;exact congrArg gz this
  unfold execOp;simp only[A];simp only[Instr.alloc,aQ,V,aH,newVar,newRow,newObj,Value.cells];simp[Sem.run,wCh]
 refine .head (Zf2 (nv:=.skip) (v:=undef) (w':=wCh w (.chan (some w.heap.size)) T (0,0)) G.a22 (λ_ h=>by cases h) (λo A=>?_) (λo A=>?_) (.inr ⟨rfl,rfl⟩)) ?_
 ·unfold execOp;simp only[A];exact Zg (λ_=>ZdN) λ_ _=>Zp
 ·have S:QV (Z8 (Z8 t (some 37) (.chan (some w.heap.size))) (some 11) (.pointer (some ⟨w.heap.size+1,0,none⟩))) (.tmp 11)= .pointer (some ⟨w.heap.size+1,0,none⟩):=XL (by simp only[Qc];omega);have H:QV (Z8 (Z8 t (some 37) (.chan (some w.heap.size))) (some 11) (.pointer (some ⟨w.heap.size+1,0,none⟩))) (.tmp 37)= .chan (some w.heap.size):=(Y1 (by decide)).trans (XL (by omega));unfold execOp;simp only[A,S,H];have U:(sizeOf T).run P (wCh w (.chan none) T (0,0))= .ok 1 (wCh w (.chan none) T (0,0)):=by
   have:=Zej (w:=wCh w (.chan none) T (0,0)) (es:= #[]) Y;rw[Sem.runT_eq]at this;have h:=congrArg gz this;unfold sizeOf;have h:(typeInfo T).run P (wCh w (.chan none) T (0,0))= .ok iT (wCh w (.chan none) T (0,0)):=h;rw[aQ,h,aH,hs];rfl
  simp only[Instr.storeAt,cN,aQ,bC,aH,storeVar,U];rw[iP (by simp[Value.cells])];have hc:(wCh w (.chan none) T (0,0)).cell? (Addr.add ⟨w.heap.size+1,0,none⟩ 0)=some (.chan none):=Zeg;have Z:(wCh w (.chan none) T (0,0)).frozen? (Addr.add ⟨w.heap.size+1,0,none⟩ 0)=false:=by
   unfold World.frozen?;rw[show(Addr.add ⟨w.heap.size+1,0,none⟩ 0).block=w.heap.size+1 from rfl,Zdw];simp
  have J:(wCh w (.chan none) T (0,0)).setCell (Addr.add ⟨w.heap.size+1,0,none⟩ 0) (.chan (some w.heap.size))=wCh w (.chan (some w.heap.size)) T (0,0):=by
   unfold World.setCell wCh;simp only[World.mk.injEq,and_true];apply Array.ext_getElem?;intro j;show(((w.heap.push _).push _).modify (w.heap.size+1) _)[j]? =_;rw[Array.getElem?_modify];by_cases hj:w.heap.size+1=j
   ·subst hj;rw[iQ rfl,bK,iQ (by simp),bK,iQ (by simp)];rfl
   rw[iP hj];exact ZmR (by simpa using Ne.symm hj)
  simp[Value.cells,storeCells,store,aQ,Sem.run,hc,Z,J]
 refine .head Ji (.head ZiH (.head ZcA ?_));rw[G.s3];refine .head (Zf2 (nv:=.value _) (v:=.func (.func fid) #[] #[.pointer (some ⟨w.heap.size+1,0,none⟩),t.getD 4 undef,t.getD 9 undef,t.getD 10 undef]) (w':=wCh w (.chan (some w.heap.size)) T (0,0)) G.a30 (λ_ h=>by cases h) (λo A=>?_) (λo A=>?_) (.inl rfl)) (.refl _)
 ·unfold execOp;simp only[A];trivial
 have S:(QV (Z8 (Z8 t (some 37) (.chan (some w.heap.size))) (some 11) (.pointer (some ⟨w.heap.size+1,0,none⟩)))) (.tmp 11)= .pointer (some ⟨w.heap.size+1,0,none⟩):=XL (by simp only[Qc];omega);have H:(QV (Z8 (Z8 t (some 37) (.chan (some w.heap.size))) (some 11) (.pointer (some ⟨w.heap.size+1,0,none⟩)))) (.tmp 4)=t.getD 4 undef:=(Y1 (by decide)).trans (Y1 (by decide));have e3:(QV (Z8 (Z8 t (some 37) (.chan (some w.heap.size))) (some 11) (.pointer (some ⟨w.heap.size+1,0,none⟩)))) (.tmp 9)=t.getD 9 undef:=(Y1 (by decide)).trans (Y1 (by decide));have e4:(QV (Z8 (Z8 t (some 37) (.chan (some w.heap.size))) (some 11) (.pointer (some ⟨w.heap.size+1,0,none⟩)))) (.tmp 10)=t.getD 10 undef:=(Y1 (by decide)).trans (Y1 (by decide));unfold execOp;have e0:∀u:Array Value,Z8 u none undef=u:=λ_=>rfl;simp only[A,Instr.makeFunc,eX,bX,fY,e0,S,H,e3,e4];rfl
theorem ZlW {fn:Func} {body:Code} (H:P.funcs[fid]? =some fn) (I:fn.body=some body) (A:(fn.name== "runtime.NumGoroutine")=false) (vs:Array Value) (main:Bool) (w:World):
  stepG P main (G (ZaW P.funcs.size [{target:=.fn (.func fid) vs,args:= #[]}]) []) w= .go (G (dO P fid vs .deferred) [ZaW P.funcs.size []]) w:=by
 have hr:(invoke (.fn (.func fid) vs) #[]).run P w= .ok (.enter fid vs) w:=by
  have A:¬fn.name= "runtime.NumGoroutine" :=by simpa using A
  simp[invoke,callFunc,aQ,program,Sem.run,H,I,A]
 have J:(invoke (.fn (.func fid) vs) #[]).events P w #[]= #[]:=by
  have A:¬fn.name= "runtime.NumGoroutine" :=by simpa using A
  unfold invoke callFunc Sem.events;simp only;show((Sem.bind program _).runT P w #[]).2=_;rw[Sem.runT_bind',show program.runT P w #[]=(.ok P w, #[])from rfl];simp only[H,I];simp[A]
 simp[G,stepG,unwind,ZaW,callDeferred,hr,J,GStep.after,seen_none]
theorem Zs3 {vs:Array Value} {X:Code} (Y:ZbM T I I' fid o2 o3 o4 o5 o6 o7 o8 o9 o10) (J:QV t (.tmp 38)= .func (.func fid) #[] vs):
  Zos P (mkF b t ds (.inRegion o3 [1]:: .code X::k)) cs (mkF b t ds (.inRegion o3 []:: .code X::k)) (ZaW P.funcs.size [{target:=.fn (.func fid) vs,args:= #[]}]):=by
 obtain⟨o,H,A,S,hg⟩:=Y.a31.ok;intro w;refine⟨#[],?_,λe Z=>by simp at Z⟩;have U:(mkF b t ds (.inRegion o3 [1]:: .code X::k)).finish undef=mkF b t ds (.inRegion o3 []:: .code X::k):=by
  rw[XF,H];show mkF b (Z8 t o.dst undef) ds _=_;rw[S];rfl
 have e:execOp (QV t) o=pure (.spawn {target:=.fn (.func fid) vs,args:= #[]}):=by
  unfold execOp;simp only[A,resolve,J,Deferred.ofValue];simp
 rw[Zdf H (by simp[Region.wanted,hg]) (λc=>by rw[A];intro h;cases h),e,<-U];unfold stepG.apply;have V:=b.not_early;simp[GStep.after,G,mkF,seen_none,V,ZaW]
end
section
variable {P:Program} {T I I':TypeId} {fid:FuncId} {o2 o3 o4 o5 o6 o7 o8 o9 o10:Array Oper}
theorem ZqJ {b:FB} {ds:List Deferred} {k:List Item} {cs:List Frame} {t:Array Value} {w:World} {i6 i7 i8 i9 i10 b0 b1:Nat} (H:ZbM T I I' fid o2 o3 o4 o5 o6 o7 o8 o9 o10) (U:t.size=51):
  Steps P none (ZN (got (mkF b t ds (atR i6 i7 i8 i9 i10 b0 b1 o6 o7 o8 o9 o10 k [0,1]),cs) false false).1 (got (mkF b t ds (atR i6 i7 i8 i9 i10 b0 b1 o6 o7 o8 o9 o10 k [0,1]),cs) false false).2 w)
   (ZN (mkF b (Z8 (Z8 t (some 40) (.tuple #[.bool false,.bool false])) (some 41) (.bool false)) ds k) cs w):=by
 obtain⟨o,A,S,J,V⟩:=H.a60.ok;have e:got (mkF b t ds (atR i6 i7 i8 i9 i10 b0 b1 o6 o7 o8 o9 o10 k [0,1]),cs) false false=(mkF b (Z8 t (some 40) (.tuple #[.bool false,.bool false])) ds (atR i6 i7 i8 i9 i10 b0 b1 o6 o7 o8 o9 o10 k [1]),cs):=by
  unfold got atR;rw[XF,A];show(mkF b (Z8 _ o.dst _) ds _,cs)=_;rw[J]
 rw[e];have G:QV (Z8 t (some 40) (.tuple #[.bool false,.bool false])) (.tmp 40)= .tuple #[.bool false,.bool false]:=XL (by omega);unfold atR;refine .head (Zf2 (nv:=.value _) (v:=.bool false) (w':=w) H.a61 (λ_ h=>by cases h) (λo A=>?_) (λo A=>?_) (.inl rfl)) ?_
 ·rw[JZ G rfl o A];trivial
 ·rw[JZ (v:=.bool false) G rfl o A];rfl
 refine .head Ji (.head ZiH (.head (ZmE (v:=false) ?_) (.head (ZmD ?_) (.refl _))))
 ·rw[ZcF];exact XL (by simp only[Qc];omega)
 simp[exitTo]
theorem ZwG {R:RC} {t:Array Value} {y n:Int} (I:t.size=51) (G:t.getD 12 undef= .int .i64 y) (H:t.getD 13 undef= .int .i64 n):SL R (mkS 51 [(12,.int .i64 λ_=>y),(13,.int .i64 λ_=>n)]) t:=by
 refine⟨by rw[I];rfl,λi a A=>?_⟩;by_cases e13:i=13
 ·subst e13;have A:some (AV.int .i64 λ_=>n)=some a:=A;cases A;rw[H];exact .pure _ _ (.int _ _)
 by_cases e12:i=12
 ·subst e12;have A:some (AV.int .i64 λ_=>y)=some a:=A;cases A;rw[G];exact .pure _ _ (.int _ _)
 have A:(((List.replicate 51 AV.undef).set 12 (.int .i64 λ_=>y)).set 13 (.int .i64 λ_=>n))[i]? =some a:=A;rw[cQ (Ne.symm e13),cQ (Ne.symm e12),fb]at A;split at A
 ·cases A;exact .undef _
 cases A
theorem Zs2 {p:Unit->Program} {nb:Nat} {K:Ex->List AV->List Zi->Cd->Prop} {s:List AV} {h:List Zi} {i2 i3 i4 i5 i6 i7 i8 i9 i10 b0 b1:Nat} {aa:Code} (HO:ZbM T I I' fid o2 o3 o4 o5 o6 o7 o8 o9 o10) {dr:ChanDir} {B:TypeId}
  (hU:(p ()).underlying T=some (.chan dr B)) (hT:∃i,(p ()).info? T=some i/\i.size=1/\i.zero=some (.chan none)) (hB:∃i,(p ()).info? B=some i/\i.zero=some (.bool false))
  {fn:Func} {body:Code} (hf:(p ()).funcs[fid]? =some fn) (hb:fn.body=some body) (hn:(fn.name== "runtime.NumGoroutine")=false) (hr:fn.results= #[]) (bc:s.length=51) (aq:h[0]? =some .main)
  {x4 x9 al:AV} (h4:QE true [] h 5 (s.getD 4 .undef)=x4) (h9:QE true [] h 5 (s.getD 9 .undef)=x9) (bu:QE true [] h 5 (s.getD 10 .undef)=al) {L:List Bool} (child:KC (p ()) fid (λch=>[.iptr [.cch ch] 0,x4,x9,al]) L)
  (rest:HP false nb p [.code aa] K (mkS 51 [(12,.int .i64 λ_=>cnt true L 0),(13,.int .i64 λ_=>cnt false L 0)]) h):
  HP false nb p [.code (.region i2 o2 false),.code (.seq (.region i3 o3 false) (.seq (.region i4 o4 false) (.seq (.seq (.region i5 o5 false) (.block b0 (.loop (lpB i6 i7 i8 i9 i10 b0 b1 o6 o7 o8 o9 o10)))) aa)))] K s h:=by
 refine⟨λhK S J bz R t A hs b U k cs hd=>?_⟩;have ar:R.cx=none:=A.hr.blk 0 .main aq;have au:t.size=51:=hs.1.trans bc;have S1:=Zn0 (P:=p ()) (b:=b.1) (ds:=U) (k:=k) (cs:=cs) (t:=t) (i2:=i2) (i3:=i3) (X:=.seq (.region i4 o4 false) (.seq (.seq (.region i5 o5 false) (.block b0 (.loop (lpB i6 i7 i8 i9 i10 b0 b1 o6 o7 o8 o9 o10)))) aa)) HO hU hT (hB.imp λ_ h=>h.1) au R.w;generalize bq:(#[.pointer (some ⟨R.w.heap.size+1,0,none⟩),t.getD 4 undef,t.getD 9 undef,t.getD 10 undef]:Array Value)=vs at S1;generalize ae:Z8 (Z8 (Z8 t (some 37) (.chan (some R.w.heap.size))) (some 11) (.pointer (some ⟨R.w.heap.size+1,0,none⟩))) (some 38) (.func (.func fid) #[] vs)=Z at S1;have am:Z.size=51:=by rw[<-ae];simp only[Qc];exact au
 have bt:QV Z (.tmp 38)= .func (.func fid) #[] vs:=by rw[<-ae];exact XL (by simp only[Qc];omega)
 have ao:Z.getD 11 undef= .pointer (some ⟨R.w.heap.size+1,0,none⟩):=by rw[<-ae];exact(Q9 (by decide)).trans (YW (by simp only[Qc];omega))
 have bw:Z.getD 37 undef= .chan (some R.w.heap.size):=by rw[<-ae];exact(Q9 (by decide)).trans ((Q9 (by decide)).trans (YW (by omega)))
 have ba:=Zs3 (P:=p ()) (b:=b.1) (ds:=U) (k:=k) (cs:=cs) (X:=.seq (.region i4 o4 false) (.seq (.seq (.region i5 o5 false) (.block b0 (.loop (lpB i6 i7 i8 i9 i10 b0 b1 o6 o7 o8 o9 o10)))) aa)) HO bt;obtain⟨ca,hE⟩:=Zn1 (P:=p ()) (ch:=R.w.heap.size) (cell:=R.w.heap.size+1) (b:=b.1) (ds:=U) (k:=k) (cs:=cs) HO hU hB (t:=Z) (by omega) ao bw rfl ba;obtain⟨aj,r1,r2,r3,r4,r5,r6⟩:=Zrf A.hr T;have bh:Yf aj [.iptr [.cch R.w.heap.size] 0,x4,x9,al] vs:=by
  subst bq;refine⟨rfl,λj c G=>?_⟩;match j,G with
  |0,G=>cases G;exact r6
  |1,G=>
   cases G;rw[<-h4];exact r5 5 _ _ (hs.getD 4)
  |2,G=>
   cases G;rw[<-h9];exact r5 5 _ _ (hs.getD 9)
  |3,G=>
   cases G;rw[<-bu];exact r5 5 _ _ (hs.getD 10)
  |j+4,G=>simp at G
 obtain⟨tc,cf,wc,sc,rc,a9,ts,ty,c,g1,g2,g3,g4,g5,g6,g7⟩:=child.run R.w.heap.size aj vs r4 r2 r3 bh [ZaW (p ()).funcs.size []];rw[r1]at g1 g3 g4 g5 g6 g7;have ce:Fz (R.w.heap.size+1) (wCh R.w (.chan (some R.w.heap.size)) T (0,1)) (wCh R.w (.chan (some R.w.heap.size)) T (0,0)):=by
  refine⟨rfl,rfl,rfl,rfl,by rw[Zb0,Zb0],λj G=>?_,_,T,(0,0),Zdw,Zdw⟩;exact ZmR (by simpa using G)
 obtain⟨w',V,S2⟩:=ZqN (P:=p ()) ca ba hE ZoI Zeg (by omega) (λmain w=>ZlW hf hb hn vs main w) ce g1 g2 (Zrn hf hr);have S3:=ZqJ (P:=p ()) (b:=b.1) (ds:=U) (k:=.code aa::k) (cs:=cs) (t:=L.foldl stp (st0 R.w.heap.size Z)) (w:=w'.setChan R.w.heap.size 0 #[] true sc sc a9) (i6:=i6) (i7:=i7) (i8:=i8) (i9:=i9) (i10:=i10) (b0:=b0) (b1:=b1) HO ((Zjf (by omega) ao L).size.trans am);have ak:=Zjf (ch:=R.w.heap.size) (cell:=R.w.heap.size+1) (t:=Z) (by omega) ao L;generalize ai:Z8 (Z8 (L.foldl stp (st0 R.w.heap.size Z)) (some 40) (.tuple #[.bool false,.bool false])) (some 41) (.bool false)=tz at S3;have bm:tz.size=51:=by rw[<-ai];simp only[Qc];exact ak.size.trans am
 have bk:tz.getD 12 undef= .int .i64 (cnt true L 0):=by rw[<-ai];exact(Q9 (by decide)).trans ((Q9 (by decide)).trans ak.c12)
 have bg:tz.getD 13 undef= .int .i64 (cnt false L 0):=by rw[<-ai];exact(Q9 (by decide)).trans ((Q9 (by decide)).trans ak.c13)
 generalize Y:w'.setChan R.w.heap.size 0 #[] true sc sc a9=wz at S2 S3;have H:∀b,b<R.w.heap.size->wz.heap[b]? =R.w.heap[b]? :=λb hb=>by
  rw[<-Y];show(w'.heap.setIfInBounds R.w.heap.size _)[b]? =_;rw[aF (by omega),V.ne b (by omega)];exact(g3 b (by rw[Zb0];omega) (by omega)).trans (Zlf hb)
 have ac:R.w.heap.size<=wz.heap.size:=by
  rw[<-Y];show _<=(w'.heap.setIfInBounds R.w.heap.size _).size;rw[Array.size_setIfInBounds,V.size];rw[Zb0]at g4;exact cF (by omega) g4
 have bx:wz.os=R.w.os:=by rw[<-Y];exact V.os.trans g5
 have ap:wz.tape=R.w.tape:=by rw[<-Y];exact V.tape.trans g6
 have be:wz.output=R.w.output:=by rw[<-Y];exact V.output.trans g7
 let R':RC:={R with w:=wz,ok:=λb o n=>b<wz.heap.size/\Gof S J b o n/\Zdb R h b o n};have aw:∀b o n,R.ok b o n->R'.ok b o n:=λb o n k=>by
  obtain⟨h1,h2,h3⟩:=(A.hr.okd _ _ _).1 k;exact⟨by omega,h2,h3⟩
 have ab:∀b o n,R.ok b o n->∀j,j<n->R'.w.cell? ⟨b,o+j,none⟩=R.w.cell? ⟨b,o+j,none⟩:=λb o n k j G=>ZkN (H b ((A.hr.okd _ _ _).1 k).1) _;have az:R.le R':=⟨aJ _,λ_ _=>rfl,λ_ _=>⟨bR _,λ_=>rfl⟩,λ_ _=>.refl _,aw,ab,λb k es cg e=>(H b ((A.hr.okd _ _ _).1 k).1).trans e,rfl⟩;have hH:HR (Gof S J) R' h:=⟨A.hr.len,λ_ _ _=>Iff.rfl,λid blk ah=>(A.hr.blk id blk ah).mono az rfl rfl rfl rfl λb hp=>H b (A.hr.phys_lt ah hp),A.hr.dis,A.hr.cl,λb o n hb=>A.hr.fresh b o n (cF ac hb),A.hr.tokG,A.hr.n0m⟩;have hx:Xs R h R' h:=⟨rfl,bx,ap,be,ac,aJ _,λ_ _=>rfl,aw,ab,λb hb _=>H b hb,λid blk b ah hp=>.inr ⟨id,blk,ah,hp,.inl rfl⟩⟩;have bo:Inv S J R' h:=A.step hH hx az;obtain⟨e,s',h',b9,t',bp,a1,a2,a5,a6,a7,a8⟩:=rest.run hK S J bz R' tz bo (ZwG bm bk bg) b U k cs (hd.ext A.hr hx);refine⟨e,s',h',b9,t',bp,a1,a2,a5,a6,a7,?_⟩;have bl:R'.cx=none:=ar;rw[bl]at a8;rw[ar];exact Arr.of_steps (Steps.trans S1 (Steps.trans S2 S3)) a8
end
end Vm
namespace Vm
open Go Go.Conc Go.Proofs Conc1
def Zrg (ch:Nat) (L:List Bool) (e:Ex) (s:List AV) (h:List Zi) (c:Cd):Prop:=match e with
 |.exit _=>False
 |_=>chk c (∃A,h= .gob (.chq ch λ_=>L)::A)
theorem Zik {ch:Nat} {L:List Bool} {e:Ex} {s:List AV} {h:List Zi} {c:Cd} (H:Zrg ch L e s h c):ZV c/\(∀id,e≠ .exit id)/\∃A,h= .gob (.chq ch λ_=>L)::A:=by
 cases e with
 |exit id=>exact H.elim
 |normal=>exact⟨(Qb H).1,(λ_ h=>by cases h),(Qb H).2⟩
 |ret=>exact⟨(Qb H).1,(λ_ h=>by cases h),(Qb H).2⟩
theorem ZiN {P:Program} {T:TypeId} {dr:ChanDir} {B:TypeId} {w:World} {a:Addr} {v:Value} (G:P.underlying T=some (.chan dr B)) (hw:w.cell? a=some v):(ec T (.pointer (some a))).run P w= .ok v w:=by
 have A:(isAgg T).run P w= .ok false w:=by
  unfold isAgg;have:=Zge (w:=w) (es:= #[]) G;rw[Sem.runT_eq]at this;have h:(underlying T).run P w= .ok (.chan dr B) w:=congrArg gz this;rw[aQ,h,aH];rfl
 simp only[ec,cN,aQ,bC,aH,loadVar,A,aX,if_false];simp[load,Sem.run,hw]
theorem Zre {p:Unit->Program} {fid:FuncId} {fn:Func} {i0:Nat} {o0:Array Oper} {J:Code} {T:TypeId} {dr:ChanDir} {B:TypeId} {ts:Array TypeId} {L:List Bool} {ys:List AV} (hf:(p ()).funcs[fid]? =some fn) (hb:fn.body=some (.seq (.region i0 o0 false) J)) (be:aT o0.size=[0,1])
  (a0:JQ o0 0 (some 6) (.load T (.tmp 0))) (a1:JQ o0 1 none (.defer {callee:=.builtin .close,args:= #[.tmp 6],argTypes:=ts})) (hU:(p ()).underlying T=some (.chan dr B)) (O:6<fn.ntmps)
  (H:∀A,HP false 1 p [.code J] (Zrg A L) ((entry fn.ntmps (.iptr [.cch A] 0::ys)).set 6 (.cch A)) [.gob (.chq A λ_=>[])]):KC (p ()) fid (λA=>.iptr [.cch A] 0::ys) L:=by
 refine⟨λA R Y HH ai aj ha cs=>?_⟩;obtain⟨aw,bm⟩:=ha;have al:dO (p ()) fid Y .deferred=mkF ⟨fid,true,none,[]⟩ (Y++dK (fn.ntmps-Y.size) undef) [] [.code (.seq (.region i0 o0 false) J)]:=by
  simp[dO,mkF,FB.kind,hf,hb]
 have aa:SL R (entry fn.ntmps (.iptr [.cch A] 0::ys)) (Y++dK (fn.ntmps-Y.size) undef):=by
  refine⟨by simp[entry,<-aw];omega,λi a V=>?_⟩;rw[entry,List.getElem?_append]at V;split at V
  ·rename_i bt;have:=bm i a V;rw[aI]at this|-;rw[Array.getElem?_append_left (by omega)];exact this
  rw[fb]at V;split at V
  ·cases V;exact .undef _
  cases V
 generalize ht:Y++dK (fn.ntmps-Y.size) undef=t at al aa;have ac:∃a:Addr,t.getD 0 undef= .pointer (some a)/\R.w.cell? a=some (.chan (some A)):=by
  have h0:=aa.getD 0;have h0:VR R (.iptr [.cch A] 0) (t.getD 0 undef):=h0;generalize t.getD 0 undef=v at h0;cases h0 with
  |pure _ _ hp=>
   cases hp with
   |iptr _ _ b o us h1 h2 h3=>
    have e:=h1 0 _ rfl;have e2:=h2 0 _ rfl;refine⟨_,rfl,?_⟩;cases hu:us 0 with
    |chan c=>
     rw[hu]at e2 e;cases e2;exact e
    |_=>rw[hu]at e2;cases e2
 obtain⟨a,ac,ah⟩:=ac;have a9:6<t.size:=by
  have:=aa.1;rw[this];simp only[entry,bf,List.length_replicate];omega
 have bq:(⟨fid,true,none,[]⟩:FB).roundOf=none:=rfl;obtain⟨o,Z,bh,am,hg⟩:=a1.ok;let I:=Z8 t (some 6) (.chan (some A));let D:=Zjq ts o.type #[false] A;have S0:StepsC (p ()) (some A) (ZN (mkF ⟨fid,true,none,[]⟩ t [] [.code (.seq (.region i0 o0 false) J)]) cs R.w) (ZN (mkF ⟨fid,true,none,[]⟩ I [] [.inRegion o0 [1],.code J]) cs R.w):=by
  refine .head ZiH (.head ZcA ?_);rw[be];refine .one (Zf2 (nv:=.value _) (v:=.chan (some A)) (w':=R.w) a0 (λ_ h=>by cases h) (λo Z=>?_) (λo Z=>?_) (.inl rfl))
  ·unfold execOp;simp only[Z];exact Zg (λ_=>Zff) λ_ _=>Zp
  have e:QV t (.tmp 0)= .pointer (some a):=ac;unfold execOp;simp only[Z,e,aQ,ZiN hU ah,aH,bC]
 have S1:One (p ()) (some A) (ZN (mkF ⟨fid,true,none,[]⟩ I [] [.inRegion o0 [1],.code J]) cs R.w) (ZN (mkF ⟨fid,true,none,[]⟩ I [D] [.inRegion o0 [],.code J]) cs R.w):=by
  refine Xr λmain w=>?_;have e6:QV I (.tmp 6)= .chan (some A):=XL a9;have e:execOp (QV I) o=pure (.defer D):=by
   unfold execOp;simp only[bh,resolve,eX,bX,fY,e6];rfl
  have ap:(mkF ⟨fid,true,none,[]⟩ I [] [.inRegion o0 [1],.code J]).oper?=some o:=by simp[Frame.oper?,mkF,Z]
  have he:(mkF ⟨fid,true,none,[]⟩ I [] [.inRegion o0 [1],.code J]).eval=QV I:=ZcF _;have h2:stepG (p ()) main (G (mkF ⟨fid,true,none,[]⟩ I [] [.inRegion o0 [1],.code J]) cs) w=stepG.oper (p ()) true (mkF ⟨fid,true,none,[]⟩ I [] [.inRegion o0 [1],.code J]) cs none w:=by
   simp[stepG,stepG.exec,mkF,G,Z,Region.wanted,hg]
  rw[h2];unfold stepG.oper;simp only[ap,he,e];unfold stepG.apply;have hk:(mkF ⟨fid,true,none,[]⟩ I [D] [.inRegion o0 [1],.code J]).finish undef=mkF ⟨fid,true,none,[]⟩ I [D] [.inRegion o0 [],.code J]:=by
   rw[XF,Z];show mkF _ (Z8 I o.dst undef) _ _=_;rw[am];rfl
  rw[<-hk];simp[GStep.after,G,mkF,seen_none,FB.kind]
 have S2:One (p ()) (some A) (ZN (mkF ⟨fid,true,none,[]⟩ I [D] [.inRegion o0 [],.code J]) cs R.w) (ZN (mkF ⟨fid,true,none,[D]⟩ I [D] ([.code J]++[])) cs R.w):=Ji;have ao:([.gob (.chq A λ_=>[])]:List Zi).length<=R.n0:=by rw[aj];exact aJ 1
 have au:SL R ((entry fn.ntmps (.iptr [.cch A] 0::ys)).set 6 (.cch A)) I:=aa.set (.pure _ _ (.cch A)) 6;obtain⟨e,s',h',R',t',az,⟨c,hk⟩,V,hs,hd,_,hA⟩:=(H A).run (λe s h c hk=>(Zik hk).1) R [.gob (.chq A λ_=>[])] (by rw[aj];exact aJ 1) R I (Inv.refl HH ao) au ⟨⟨fid,true,none,[D]⟩,λ_=>rfl⟩ [D] [] cs ⟨[],rfl,ey,λr hr=>by cases hr⟩;obtain⟨hc,ab,h2,rfl⟩:=Zik hk;rw[ai]at hA;have aq:∃S,Steps (p ()) (some A) (ZN (mkF ⟨fid,true,none,[D]⟩ I [D] ([.code J]++[])) cs R.w) (ZN {mkF ⟨fid,true,none,[D]⟩ t' az S with mode:=.returning} cs R'.w):=by
  cases e with
  |exit id=>exact absurd rfl (ab id)
  |normal=>exact⟨[],Steps.trans hA (.one (Zqb rfl))⟩
  |ret=>
   obtain⟨S,hA⟩:=hA;exact⟨.code .ret::S,Steps.trans hA (.one (Zp8 rfl))⟩
 obtain⟨S,bc⟩:=aq;obtain⟨rs,rfl,bl,bk⟩:=hd;obtain⟨R2,U,bp,ae⟩:=Zdd (P:=p ()) (b:=⟨fid,true,none,[D]⟩) (base:=[D]) (t:=t') (todo:=S) (cs:=cs) rs R' bl V bk;have ar:R'.cx=some A:=V.le.cx.trans ai;rw[ar]at ae;obtain⟨ob,bg,_,hq,_,sN,rN,bo,rfl⟩:=U.hr.blk 0 _ rfl;have ba:(R2.α 0).b=(R.α 0).b:=by
  have:R2.α 0=R.α 0:=U.le.α 0 (by rw[<-HH.len];exact Nat.zero_lt_one);rw[this]
 refine⟨t',S,R2.w,sN,rN,bo,ts,o.type, #[false],?_,?_,λb hb ab=>?_,U.ext.size,U.ext.os,U.ext.tape,U.ext.output⟩
 ·rw[al];exact S0.trans (.head S1 (.head S2 (bc.trans ae)))
 ·rw[<-hq];exact bg
 refine U.ext.frame b hb λid blk ak hp=>?_;cases id with
 |zero=>
  cases ak;have hp:(R.α 0).b=b:=hp;rw[<-ba,hq]at hp;exact ab hp.symm
 |succ id=>simp at ak
attribute [local irreducible] Dn
open Go Go.Proofs Sp
set_option maxRecDepth 100000
set_option maxHeartbeats 4000000
def Zc8 (t:Zb) (f r st:Int):Nat->List Bool
 |0=>[]
 |i+1=>Zc8 t f r st i++[JC t f r st i]
theorem ZxC (t:Zb) (f r st:Int) (hw:Zz t) (hc:ZeZ t f r st):KC aB 151 (λA=>.iptr [.cch A] 0::[YA t,.iptr [.int .i64 λ_=>f,.int .i64 λ_=>ZD (Sp.Zm (callsOf t) f) st] 0,.iptr [.int .i64 λ_=>r,.int .i64 λ_=>ZQ (Sp.Zm (callsOf t) r) st] 0]) (Zc8 t f r st (manyT t)):=by
 obtain⟨nt,O⟩:=Zn;have H:=Ztp t;have I:=λB0 B1 B2 B3 B4 B5 stop=>Ztm t hw B0 B1 B2 B3 B4 B5 stop;have aa:=λx=> @Za3 t x _ _ hc.1;have S:=λx=> @Za3 t x _ _ hc.2;have Y:∀i,JC t f r st i=decide ((ZR t (Zk t i) f (ZD (Sp.Zm (callsOf t) f) st)).comes<=(ZR t (Zk t i) r (ZQ (Sp.Zm (callsOf t) r) st)).goes):=λ_=>rfl;have ab:Zc8 t f r st 0=[]:=rfl;have J:∀i,Zc8 t f r st (i+1)=Zc8 t f r st i++[JC t f r st i]:=λ_=>rfl;generalize Zc8 t f r st=KL at*;generalize JC t f r st=KB at*;generalize ZD (Sp.Zm (callsOf t) f) st=fo at*;generalize ZQ (Sp.Zm (callsOf t) r) st=to at*;generalize ZR t=HH at*;generalize Zk t=G at*;generalize Qu t=Z at*;refine Zre (p:=λ_=>aB) (dr:=.both) (B:=4) Tryz.func151 (show Tryz.f151.body=_ from rfl) rfl ⟨_,rfl,rfl,rfl,rfl⟩ ⟨_,rfl,rfl,rfl,rfl⟩ (by kernel_rfl) (by decide) λA=>?_;unfold YA Z1 at*;simp only[Za O,Zc,Zt]at*;refine Zfk false false [] [] false ?_;refine wS ?_;refine ZL (H) (by first|rfl|(simp only[Ze,Zd,Zf,Zc,Za O];rfl)) λr ac U=>?_;(try simp only[Ze,Zd,Zf,Zc,Za O]at U);obtain⟨rfl,rfl⟩:=U;refine wS ?_;refine Zgi [0,2,3,8] [.tok 1 λ_=>0,.tok 1 λ_=>0,.tok 1 λ_=>0,.tok 1 λ_=>0] [(0,.gob (.chq A λ_=>KL 0))] (fid:=135) (first:=[]) ?_ rfl ?_ ?_
 ·rw[ab];(refine To.of [(1,false),(1,false),(1,false),(1,false)] ?_;cbv;(try simp only[nc]);(repeat' first|exact xT|refine⟨?_,?_⟩|refine ZM.cells ?_|refine ZC.agg ?_|refine ZC.tup ?_);all_goals try exact XZ)
 ·exact Yp
 refine SC.mono (I (λi=>.gob (.chq A λ_=>KL i)) (λ_=>_) (λ_=>_) (λ_=>_) (λ_=>_) (λ_=>_) (λ_=>false) ?_ ?_ ?_ ?_ ?_ ?_ ?_) ?_;iterate 6 exact λi=>QT.of rfl
 ·intro i hi ae;have e1:(((Z (G i)).lookup [f,fo]).getD []).headD 0=(HH (G i) f fo).comes:=by rw[aa];rfl
  have e2:(((Z (G i)).lookup [r,to]).getD []).tail.tail.headD 0=(HH (G i) r to).goes:=by rw[S];rfl
  refine YC.less (Zdc false false [] rfl rfl ?_);refine wS ?_;simp only[e1,e2,<-Y,<-J];refine⟨.bool λ_=>true,_,?_,rfl,rfl⟩;exact ZG
 intro v h hh;obtain⟨m,hm,rfl⟩:=hh;have V:m=manyT t:=by
  rcases hm with h|⟨_,_,_,h,_⟩
  ·exact h.1
  cases h
 subst V;refine wS ?_;exact⟨_,rfl⟩
theorem Zm3 {o:Option TypeInfo} {n:Nat} {z:Option Value} (h:o.map (λi=>(i.size,i.zero))=some (n,z)):∃i,o=some i/\i.size=n/\i.zero=z:=by
 cases o with
 |none=>cases h
 |some i=>
  have h:some (i.size,i.zero)=some (n,z):=h;simp only[aD,aK]at h;exact⟨i,rfl,h.1,h.2⟩
theorem Zg5 (w v:Bool):∀(l:List Bool) (n:Int),cnt w (l++[v]) n=if v=w then IntKind.i64.wrap (cnt w l n+1)else cnt w l n
 |[],_=>rfl
 |x::l,n=>Zg5 w v l _
theorem ZfS {x:Int} (h:0<=x/\x<1000000):IntKind.i64.wrap x=x:=ZbY x ⟨by omega,by omega⟩
theorem ZmS {ds:List ZU} (h:∀d∈ds,d.by_.length<=3):∀m,m<=ds.length->Yw ds m<=3^ m
 |0,_=>aJ _
 |m+1,hm=>by
  unfold Yw;rw[Nat.pow_succ];refine Nat.mul_le_mul (ZmS h m (by omega)) ?_;unfold lenAt;rw[aA,aC hm];exact h _ (bL hm)
theorem ZsX {t:Zb} (hw:Zz t):manyT t<=729:=by
 have h:=ZmS (λd A=>(hw.d d A).2.1) t.delays.length (aJ _);have G:3^ t.delays.length<=3^ 6:=Nat.pow_le_pow_right (by omega) hw.dlen;exact cF h (cF G (by decide))
theorem count_bd (p:Nat->Bool):∀n,0<=Qw p n/\Qw p n<=n
 |0=>⟨bR _,bR _⟩
 |n+1=>by
  have:=count_bd p n;unfold Qw;split<;>omega
theorem Zrc (t:Zb) (f r st:Int):∀n,n<=729->cnt true (Zc8 t f r st n) 0=Qw (JC t f r st) n/\cnt false (Zc8 t f r st n) 0=Qw (λi=> !JC t f r st i) n
 |0,_=>⟨rfl,rfl⟩
 |n+1,h=>by
  have G:=Zrc t f r st n (by omega);have H:=count_bd (JC t f r st) n;have I:=count_bd (λi=> !JC t f r st i) n;unfold Zc8;rw[Zg5,Zg5,G.1,G.2,ZfS (by omega),ZfS (by omega)];have A:∀p,Qw p (n+1)=if p n then Qw p n+1 else Qw p n:=λ_=>rfl
  rw[A,A];cases JC t f r st n<;>exact⟨rfl,rfl⟩
theorem Zya (t : Zb) (f r st : Int) (hw : Zz t) (hc : ZeZ t f r st) : SC (λ_ => aB) 97 [.iptr (Z1 t) 0, .int .i64 λ_ => f, .int .i64 λ_ => r, .int .i64 λ_ => st] [.main] λv h => v = .int .i64 (λ_ => ZgL t f r st) /\ h = [.main] := by
  obtain ⟨I, O⟩ := Zn;have U := hc.1;have J := hc.2;have aa := (Jy hw.calls U).2.2;have S := (Jy hw.calls J).2.2;unfold StopIn at U J;rw [JJ O] at U J aa S;have Y := Zvv (I (List Sp.Call) [] (callsOf t) f) st (by omega);have ab := Zw6 (I (List Sp.Call) [] (callsOf t) r) st (by omega);have ac := hw.calls.len;have Z := ZxC t f r st hw hc;obtain ⟨hy, hn⟩ := Zrc t f r st (manyT t) (ZsX hw);have hV : ZgL t f r st = ZfG (Qw (JC t f r st) (manyT t)) (Qw (λi => !JC t f r st i) (manyT t)) := rfl;have H := Zx4 (Qw (JC t f r st) (manyT t)) (Qw (λi => !JC t f r st i) (manyT t));rw [<- hV] at H;rw [JJ O, JJ O] at Z;generalize ZgL t f r st = V at *;generalize Qw (JC t f r st) (manyT t) = CY at *;generalize Qw (λi => !JC t f r st i) (manyT t) = CN at *;generalize Zc8 t f r st (manyT t) = KL at *;unfold YA at Z;unfold Z1 at *;simp only [Za O, Zc, Zt] at *;generalize ZD (I (List Sp.Call) [] (callsOf t) f) st = fo at *;generalize ZQ (I (List Sp.Call) [] (callsOf t) r) st = to at *;refine SC.less (Zvn false false [] [2] false 1 Tryz.func97 (body := Zj Tryz.f97) rfl (by decide +kernel) rfl ?_);refine vS ?_;repeat' first
    | (with_reducible refine Zho.mk ?_ ?_)
    | (with_reducible refine Chk.mk (ZH) ?_)
    | (refine ZL Y (by first | rfl | (simp only [Ze, Zd, Zf, Zc, Za O]; rfl)) λr G A => ?_
       obtain ⟨rfl, rfl⟩ := A
       refine vS ?_)
    | (refine ZL ab (by first | rfl | (simp only [Ze, Zd, Zf, Zc, Za O]; rfl)) λr G A => ?_
       obtain ⟨rfl, rfl⟩ := A
       refine vS ?_)
  all_goals
    refine Zs2 (p := λ_ => aB) (dr := .both) (B := 4) ⟨rfl, rfl, rfl, rfl, rfl, rfl, rfl, rfl, rfl, ⟨_, rfl, rfl, rfl, rfl⟩, ⟨_, rfl, rfl, rfl, rfl⟩, ⟨_, rfl, rfl, rfl, rfl⟩, ⟨_, rfl, rfl, rfl, rfl⟩, ⟨_, rfl, rfl, rfl, rfl⟩, ⟨_, rfl, rfl, rfl, rfl⟩, ⟨_, rfl, rfl, rfl, rfl⟩, ⟨_, rfl, rfl, rfl, rfl⟩, ⟨_, rfl, rfl, rfl, rfl⟩, ⟨_, rfl, rfl, rfl, rfl⟩, ⟨_, rfl, rfl, rfl, rfl⟩, ⟨_, rfl, rfl, rfl, rfl⟩, ⟨_, rfl, rfl, rfl, rfl⟩, ⟨_, rfl, rfl, rfl, rfl⟩, ⟨_, rfl, rfl, rfl, rfl⟩, ⟨_, rfl, rfl, rfl, rfl⟩, ⟨_, rfl, rfl, rfl, rfl⟩, ⟨_, rfl, rfl, rfl, rfl⟩, ⟨_, rfl, rfl, rfl, rfl⟩⟩ (by kernel_rfl) (Zm3 (by kernel_rfl)) ((Zm3 (n := 1) (z := some (.bool false)) (by kernel_rfl)).imp λi h => ⟨h.1, h.2.2⟩)
      Tryz.func151 rfl (by decide +kernel) rfl rfl rfl rfl rfl rfl Z ?_
    rw [hy, hn];refine Zfk false false [] [] false ?_;refine wS ?_;refine ZL (H) (by first | rfl | (simp only [Ze, Zd, Zf, Zc, Za O]; rfl)) λr G A => ?_;(try simp only [Ze, Zd, Zf, Zc, Za O] at A);obtain ⟨rfl, rfl⟩ := A;refine wS ?_;refine ⟨_, _, ?_, rfl, rfl⟩;exact ZG
end Vm
namespace Sp
open Vm
end Sp
namespace Vm
attribute [local irreducible] Dn
open Go Go.Proofs Sp
set_option maxRecDepth 100000
set_option maxHeartbeats 4000000
end Vm
namespace Vm
open Sp
def QN (b:Xv) (j:Nat):Sp.Z3:=⟨(b.old.getD j default).number,0⟩
structure RL (b:Xv) (i:Nat) (runs:List Sp.Z3) (rows:List (List Sp.Call)):Prop where
 len:rows.length=runs.length
 le:runs.length<=i
 row:∀k,k<runs.length->∃j,j<i/\j<b.old.length/\runs.getD k default=QN b j/\QX b (QN b j)=(rows.getD k [],true)
 pw:runs.Pairwise λa c=>a≠c
 some:∀j,j<i->(QX b (QN b j)).2=true->0<runs.length
theorem RL.nil {b:Xv}:RL b 0 [] []:=⟨rfl,aJ _,λk h=>by simp at h,.nil,λj h=>by omega⟩
theorem RL.skip {b:Xv} {i:Nat} {runs:List Sp.Z3} {A:List (List Sp.Call)} (h:RL b i runs A) (J:(QX b (QN b i)).2=false):RL b (i+1) runs A:=
 ⟨h.len,by have:=h.le;omega,λk H=>by
  obtain⟨j,U,I⟩:=h.row k H;exact⟨j,by omega,I⟩,h.pw,λj S G=>by
  by_cases e:j=i
  ·subst e;rw[J]at G;cases G
  exact h.some j (by omega) G⟩
theorem ZeC {α:Type} {d:α} {l:List α} {a:α} {k:Nat} (h:k<l.length):(l++[a]).getD k d=l.getD k d:=by rw[aA,bP h,<-aA]
theorem ZeD {α:Type} {d:α} {l:List α} {a:α}:(l++[a]).getD l.length d=a:=by simp[aA]
theorem RL.snoc {b:Xv} {n:Int} {i:Nat} {runs:List Sp.Z3} {G:List (List Sp.Call)} {C:List Sp.Call} (S:DL n b.old) (h:RL b i runs G) (hi:i<b.old.length) (J:QX b (QN b i)=(C,true)):RL b (i+1) (runs++[QN b i]) (G++[C]):=by
 have U:=h.len;refine⟨by simp[U],by have:=h.le;simp;omega,λk H=>?_,?_,λj hj hs=>by simp⟩
 ·simp only[bf,bF,cE]at H;by_cases hk2:k<runs.length
  ·obtain⟨j,h1,I,A,Z⟩:=h.row k hk2;exact⟨j,by omega,I,by rw[ZeC hk2];exact A,by rw[ZeC (by omega)];exact Z⟩
  have Y:k=runs.length:=by omega
  subst Y;refine⟨i,by omega,hi,ZeD,?_⟩;rw[<-U,ZeD];exact J
 refine List.pairwise_append.2 ⟨h.pw,List.pairwise_singleton _ _,λc J e V=>?_⟩;simp only[List.mem_singleton]at V;subst V;obtain⟨k,H,rfl⟩:=dH.1 J;obtain⟨j,h1,I,A,_⟩:=h.row k H;rw[aA,aC H]at A;have A:runs[k]=QN b j:=A;rw[A];intro e;have e:=congrArg Sp.Z3.number e;have e:(b.old.getD j default).number=(b.old.getD i default).number:=e;rw[Zfo S I,Zfo S hi]at e;omega
structure RJ (b:Xv) (runs:List Sp.Z3) (rows:List (List Sp.Call)):Prop where
 len:rows.length=runs.length
 pos:1<=runs.length/\runs.length<=4
 check:Yq b=0
 row:∀r∈rows,Zk6 r
 calls:∀w d,callsOf ⟨b,runs,w,d⟩=rows
 err:∀w d,QJ ⟨b,runs,w,d⟩=0
 from_:∀k,k<runs.length->∃j,j<b.old.length/\runs.getD k default=QN b j
theorem ZeM {b:Xv} {d:Sp.Z3} {C:List Sp.Call} (h:QX b d=(C,true)):Xe (J1 b d.number d.day).1=0/\(J1 b d.number d.day).1=C/\(J1 b d.number d.day).2=0:=by
 unfold QX at h;split at h
 ·cases h
 rename_i A;simp only[aK,iR]at h;exact⟨by omega,h⟩
theorem RL.ok {z:Zone} {n:Int} {i:Nat} {old:List Train} {runs:List Sp.Z3} {H:List (List Sp.Call)} (hz:ZB z=0) (Z:DL n old) (hn:n=old.length) (hl:old.length<=4) (h:RL (Zv z old) i runs H) (hi:i<=4) (hp:0<runs.length):RJ (Zv z old) runs H:=by
 have hc:=Zjo hz Z hn hl;have ab:=h.le
 refine⟨h.len,by omega,hc,λr hr=>?_,λw d=>?_,λw d=>?_,λk A=>by
  obtain⟨j,S,G,h3,h4⟩:=h.row k A
  exact⟨j,G,h3⟩⟩
 ·obtain⟨k,A,rfl⟩:=dH.1 hr;obtain⟨j,S,G,h3,h4⟩:=h.row k (by rw[<-h.len];exact A);obtain⟨Y,J,I⟩:=ZeM h4;rw[aA,aC A]at J;have J:(J1 (Zv z old) (QN (Zv z old) j).number (QN (Zv z old) j).day).1=H[k]:=J;rw[<-J];have e:=ZmJ hc Z (j:=j) G;have e:J1 (Zv z old) (QN (Zv z old) j).number (QN (Zv z old) j).day=_:=e;rw[e]at Y|-;obtain⟨st,_,_,ht⟩:=Z.all j G;exact Zqh ht Y
 ·refine List.ext_getElem (by show(List.map _ runs).length=_;rw[bA,h.len]) λk S G=>?_;have A:k<runs.length:=by rw[<-h.len];exact G
  have e0:∀(f:Sp.Z3->List Sp.Call) (S:k<(runs.map f).length),(runs.map f)[k]'S=f runs[k]:=λf S=>List.getElem_map _;refine(e0 _ S).trans ?_;obtain⟨j,Y,J,I,V⟩:=h.row k A;rw[aA,aC A]at I;have I:runs[k]=QN (Zv z old) j:=I;rw[aA,aC G]at V;have g5:=(ZeM V).2.1;rw[I];exact g5
 unfold QJ;show(if runs.length=0 then(7:Int)else if 4<runs.length then 6 else _)=0;rw[iP (by omega),iP (by omega)];refine ZaK λk _ A=>?_;have A:k<runs.length:=by have A:k<0+runs.length:=A;omega
 obtain⟨j,Y,J,I,V⟩:=h.row k A;obtain⟨e1,e2,e3⟩:=ZeM V;rw[<-I]at e1 e2 e3;unfold Y9;show(if(J1 (Zv z old) (runs.getD k default).number (runs.getD k default).day).2≠0 then _ else if Xe (J1 (Zv z old) (runs.getD k default).number (runs.getD k default).day).1≠0 then(5:Int)else if(runs.take k).any (λx=>decide (x=runs.getD k default))then 4 else 0)=0;rw[iP (λU=>U e3),iP (λU=>U e1),iP];rw[Bool.not_eq_true,eu];intro x hx;obtain⟨q,hq,rfl⟩:=dH.1 hx;have aa:q<k:=by simp at hq;omega
 have:=Zqt (d:=default) h.pw aa A;rw[aA,aC (show q<runs.length by omega)]at this;rw[fL];simpa using this
structure Zk5 (t:Zb):Prop where
 begin:Zq t=0
 row:∀r∈callsOf t,Zk6 r
 book:∃z old n,t.book=Zv z old/\ZB z=0/\DL n old
 from_:∀k,k<t.runs.length->∃j,j<t.book.old.length/\t.runs.getD k default=QN t.book j
theorem RL.one {n:Int} {old:List Train} (S:Yq (Zv ⟨0,[]⟩ old)=0) (A:DL n old) (H:0<old.length):QX (Zv ⟨0,[]⟩ old) (QN (Zv ⟨0,[]⟩ old) 0)=((QX (Zv ⟨0,[]⟩ old) (QN (Zv ⟨0,[]⟩ old) 0)).1,true):=by
 have e:J1 (Zv ⟨0,[]⟩ old) (QN (Zv ⟨0,[]⟩ old) 0).number (QN (Zv ⟨0,[]⟩ old) 0).day=_:=ZmJ S A (j:=0) H;obtain⟨st,_,_,I⟩:=A.all 0 H;have J:=Zlv I;unfold QX;rw[e];rw[iP (λG=>G J)];rfl
open Go Go.Proofs Conc1
section
variable {P:Program} {G:Nat->Nat->Nat->Prop} {R:RC} {h:List Zi}
theorem Zs8 (H:HR G R h) {E:Operand->AV} {ρ:Operand->Value} {t:TypeId} {n:Nat} {ps:Array (Nat×Operand)} {s:Nat} {m:Unit->Int} {f:(Unit->Int)->List AV} {tk:Tk} (hE:∀p∈ps.toList,VR R (E p.2) (ρ p.2)) (hv:Yn P E t n ps.toList=some (.isl s m f tk)):
  ∃u J,(Instr.buildSlice t n (ps.map λ(i,x)=>(i,ρ x))).run P R.w= .ok u J.w/\HR G J (h++[.gar s m f])/\Xs R h J (h++[.gar s m f])/\R.le J/\VR J (.gsl h.length m) u:=by
 unfold Yn at hv;split at hv;case h_2=>cases hv
 rename_i T hT;split at hv;case h_2=>cases hv
 rename_i e U eb hk;split at hv;case isFalse=>cases hv
 rename_i ac;simp only[Bool.and_eq_true]at ac;obtain⟨⟨ae,I⟩,V⟩:=ac;have I:=ZF I;have V:=Xc V;obtain⟨j,hu,Y,hs,_⟩:=Jx hT hk;obtain⟨j',z,aa,hz,am,al,_⟩:=YR ae;rw[Y]at aa;cases aa;split at hv;case h_2=>
  unfold Zjd at hv;split at hv;case h_2=>cases hv
  split at hv;case isFalse=>cases hv
  cases hv
 rename_i A hr;unfold ZgO at hv;simp only[aD,AV.isl.injEq]at hv;obtain⟨rfl,rfl,rfl,_⟩:=hv;obtain⟨arr,a1,a2,a3,a4,a5⟩:=ZeI (R:=R) (ρ:=ρ) ps.toList 0 A ((Array.range (n*U)).map λk=>(if n*U=0 then #[]else z.cells)[k%(if n*U=0 then #[]else z.cells).size]!) hr (by simp[I]) hE;have ab:A.length=n:=by rw[a3,cW];rw[cW]at I;exact I
 have ah:arr.size=n*U:=by rw[a2];simp
 obtain⟨J,hw,H',hx,S,hm,ak,aj⟩:=H.garFresh U (λ_=>(A.length:Int)) (λe=>A.getD (e ()).toNat (A.headD [])) n (by show(A.length:Int)=n;rw[ab]) arr e ah (λJ S i hi=>by
  have Z:A[i]? =some A[i]:=aC (by omega);have er:A.getD (i:Int).toNat (A.headD [])=A[i]:=by rw[aW,aA,Z];rfl
  show(A.getD (i:Int).toNat (A.headD [])).length=U/\∀j c,(A.getD (i:Int).toNat (A.headD []))[j]? =some c->_;rw[er];refine⟨(a5 i _ Z).1,λj c Y=>?_⟩;have:=(a5 i _ Z).2 j c Y;rw[Nat.zero_add]at this
  exact this.mono S.ok S.keep S.keepM)
 refine⟨.slice (some ⟨R.w.heap.size,0,none⟩) n n,J,?_,H',hx,S,?_⟩
 ·have ai:(ps.map λ(i,x)=>(i,ρ x)).toList=ps.toList.map λp=>(p.1,ρ p.2):=by simp
  unfold Instr.buildSlice;simp only[aQ,Zy hu,aH,Z6 Y,hs,ai];rw[iP (by omega)];rw[hw];by_cases hns:n*U=0
  ·simp only[iQ hns]at a1|-;simp only[aQ,bC,aH];rw[a1];rfl
  simp only[iP hns]at a1|-;simp only[aQ,bC,aH,zeroValue,Xx Y,hz];rw[a1];rfl
 rw[H.len];exact .gsl _ _ _ _ _ (by omega) (by rw[ak];exact bR _) (λ_=>aj.symm) ⟨by show(A.length:Int)=n;rw[ab],.inr ⟨_,_,rfl⟩⟩
end
def ZqQ (T:Tb) (o:Oper) (E:Operand->AV) (h:List Zi):Option (AV×List Zi×Cd):=match o.op,o.guard with
 |.buildSlice t n ps,none=>(match Yv T (λx=>strip (E x)) t n ps.toList with
  |some (.isl s m f _)=>some (.gsl h.length m,h++[.gar s m f],gdC E o.op.operands.toList)
  |_=>none)
 |_,_=>none
def Zfs (T:Tb) (p:Unit->Program) (d:Nat) (ops:Array Oper):List Oper->List AV->List Zi->Cd->(List AV->List Zi->Cd->Prop)->Prop
 |[],s,h,c,K=>K s h c
 |o::r,s,h,c,K=>(match o.dst with
  |some e=>if ZK e d then(match ZqQ T o (ev s) h with
   |some (v,h',c')=>Zfs T p d ops r (putO s o.dst v) h' (c++c') K
   |none=>False)else Wop T p ops o (ev s) h c λv h c=>Zfs T p d ops r (putO s o.dst v) h c K
  |none=>Wop T p ops o (ev s) h c λv h c=>Zfs T p d ops r (putO s o.dst v) h c K)
section
variable {T:Tb} {p:Unit->Program} {R₀:RC} {h₀:List Zi}
theorem ZqP (hT:T.Of (p ())) {ops:Array Oper} {i:Nat} {o:Oper} (ho:ops[i]? =some o) {E:Operand->AV} {h h':List Zi} {v:AV} {c:Cd} (hv:ZqQ T o E h=some (v,h',c)) (hc:ZV c):Zd9 (p ()) R₀ h₀ ops i o E h λZ I=>Z=v/\I=h':=by
 unfold ZqQ at hv;split at hv;case h_2=>cases hv
 rename_i t n ps A hg;split at hv;case h_2=>cases hv
 rename_i s m f tk hb;have Y:=JP hT hb;simp only[aD,aK]at hv;obtain⟨rfl,rfl,rfl⟩:=hv;intro R H U hE b ds k cs aa;have G:∀x∈o.op.operands,VR R (strip (E x)) (QV H x):=λx V=>(hE x (List.mem_append_left _ (cL.2 V))).strip (ZfO hc x (cL.2 V))
 obtain⟨u,R',h1,h2,S,J,h5⟩:=Zs8 (ρ:=QV H) U.hr (λq hq=>G q.2 (by
  rw[A];simp only[Op.operands];rw[<-cL];simp only[Array.toList_map]
  exact List.mem_map.2 ⟨q,hq,rfl⟩)) Y
 refine⟨_,_,R',u,⟨rfl,rfl⟩,U.step h2 S J,S,J,h5,.one (ZaP (nv:=.value u) ho (by simp[Region.wanted,hg]) (λc e=>by rw[A]at e;cases e) ?_ ?_ (.inl rfl))⟩
 ·unfold execOp;simp only[A];exact Zg (λ_=>ZbP) λ_ _=>Zp
 unfold execOp;simp only[A];rw[aQ,h1];rfl
theorem Zk0 (hT:T.Of (p ())) {d:Nat} {ops:Array Oper} {K:List AV->List Zi->Cd->Prop} (hK:∀s h c,K s h c->ZV c):∀(l:List Oper) (j:Nat) (s:List AV) (h:List Zi) (c:Cd),(∀m,m<l.length->ops[j+m]? =l[m]?)->Zfs T p d ops l s h c K->
  ZV c/\ZbK (p ()) R₀ h₀ ops (eG j l.length) s h λs h=>∃c,K s h c
 |[],j,s,h,c,_,hW=>⟨hK _ _ _ hW,λR t hi H b ds k cs=>⟨s,h,R,t,⟨_,hW⟩,hi,Xs.refl _ _,RC.le.refl _,H,.one Ji⟩⟩
 |o::r,j,s,h,c,hl,hW=>by
  have ho:ops[j]? =some o:=by simpa using hl 0 (by simp)
  have ih:=λs h c=>Zk0 hT (d:=d) hK r (j+1) s h c (λm hm=>by have:=hl (m+1) (by simpa using hm);rw[show j+1+m=j+(m+1) by omega];simpa using this);have S:∀(Q:AV->List Zi->Prop),Zd9 (p ()) R₀ h₀ ops j o (Vm.ev s) h Q->(∀v A,Q v A->∃V,Zfs T p d ops r (putO s o.dst v) A V K)->ZbK (p ()) R₀ h₀ ops (eG j (o::r).length) s h λs h=>∃c,K s h c:=λQ U G R t hi H b ds k cs=>by
   obtain⟨v,A,R',u,hQ,a1,a2,Z,a4,a5⟩:=U R t hi (H.eok ops o) b ds k cs (eG (j+1) r.length);obtain⟨V,Y⟩:=G v A hQ;obtain⟨ab,I,ac,aa,b1,b2,b3,b4,b5,b6⟩:=(ih _ _ _ Y).2 R' _ a1 ((H.mono Z).putO a4 o.dst) b ds k cs;exact⟨ab,I,ac,aa,b1,b2,a2.trans b3,Z.trans b4,b5,a5.trans (YE Z b6)⟩
  have other:(Wop T p ops o (Vm.ev s) h c λv h c=>Zfs T p d ops r (putO s o.dst v) h c K)->ZV c/\ZbK (p ()) R₀ h₀ ops (eG j (o::r).length) s h λs h=>∃c,K s h c:=λhW=>by
   obtain⟨h1,U⟩:=ZjB hT (R₀:=R₀) (h₀:=h₀) ho (λv h c Y=>(ih _ _ _ Y).1) hW;exact⟨h1,S _ U λv A G=>G⟩
  unfold Zfs at hW;split at hW
  ·split at hW
   ·split at hW;case h_2=>exact hW.elim
    rename_i v A V hv;have J:=(ih _ _ _ hW).1
    exact⟨(Z7 J).1,S _ (ZqP hT ho hv (Z7 J).2) λv' I G=>by
     obtain⟨rfl,rfl⟩:=G
     exact⟨_,hW⟩⟩
   exact other hW
  exact other hW
theorem hpX {nb:Nat} {K:Ex->List AV->List Zi->Cd->Prop} {id:Nat} {ops:Array Oper} {k:List Item} {s:List AV} {h:List Zi} (hT:T.Of (p ())) (d:Nat) (hW:Zfs T p d ops ops.toList s h [] λs h c=>Chk c (HP false nb p k K s h)):HP false nb p (.code (.region id ops false)::k) K s h:=
 ⟨λS G A I=>by
  obtain⟨_,J⟩:=Zk0 (R₀:=G) (h₀:=A) hT (λs h c (H:Chk c _)=>H.c) ops.toList 0 s h [] (λm hm=>by simp) hW;have U:ZbK (p ()) G A ops (aT ops.size) s h λs h=>∃c,Chk c (HP false nb p k K s h):=by
   rw[List.range_eq_range'];simpa using J
  exact CI.then (CI.region U λs h H=>⟨rfl,H⟩) λs h ⟨c,H⟩=>H.g.run S G A I⟩
end
end Vm
end Go.Proofs.YtjgpiclllehgmaaGreat
