/- Plain: the printed calls of made traffic, as the law looks at them. -/
import Derived.Test.YtjgpiclllehgmaaGreatB4
import Derived.Test.YtjgpiclllehgmaaGreatB1
import Derived.Test.YtjgpiclllehgmaaGreatB0
import Derived.Test.YtjgpiclllehgmaaGreatB3
import Derived.Test.YtjgpiclllehgmaaGreatB2
set_option linter.all false
namespace Go.Proofs.YtjgpiclllehgmaaGreat.Sp
open Vm
def ZaE (a:List Stop) (c:List Call) (n:Nat):Bool:=decide (a.length=c.length∧∀j,j<n→(a.getD j default).station=(c.getD j default).station)
def J2 (l:List Train) (number:Int) (c:List Call):Bool:=match l with
 |[]=>false
 |x::r=>if x.number=number then ZaE x.stops c c.length else J2 r number c
theorem Zoo {a:List Stop} {c:List Call} (h:a.map (·.station)=c.map (·.station)) (n:Nat):ZaE a c n=true:=by
 unfold ZaE
 refine decide_eq_true ⟨by simpa using congrArg List.length h,fun j _=>?_⟩
 have h1:=congrArg (fun l=>l[j]?) h
 simp only[List.getElem?_map]at h1
 rw[List.getD_eq_getElem?_getD,List.getD_eq_getElem?_getD]
 cases ha:a[j]? <;>cases hc:c[j]? <;>rw[ha,hc]at h1<;>simp at h1
 ·rfl
 ·exact h1
theorem ZqI {a:List Stop} {c:List Call} {m n:Nat} (hmn:m≤n) (h:ZaE a c m=false):ZaE a c n=false:=by
 unfold ZaE at*
 rw[decide_eq_false_iff_not]at*
 exact fun hn=>h ⟨hn.1,fun j hj=>hn.2 j (by omega)⟩
theorem ZlQ {a:List Stop} {c:List Call} {m:Nat} (h:ZaE a c m=true):ZaE a c (m+1)=decide ((a.getD m default).station=(c.getD m default).station):=by
 unfold ZaE at*
 have h:=of_decide_eq_true h
 by_cases e:(a.getD m default).station=(c.getD m default).station
 ·rw[decide_eq_true e]
  refine decide_eq_true ⟨h.1,fun j hj=>?_⟩
  by_cases hjm:j=m
  ·subst hjm;exact e
  ·exact h.2 j (by omega)
 ·rw[decide_eq_false e,decide_eq_false_iff_not]
  exact fun hn=>e (hn.2 m (by omega))
theorem ZlP {a:List Stop} {c:List Call}:ZaE a c 0=decide (a.length=c.length):=by
 unfold ZaE
 exact decide_eq_decide.2 ⟨fun h=>h.1,fun h=>⟨h,fun j hj=>by omega⟩⟩
theorem Zop {a:List Stop} {c:List Call} {m:Nat} (h:ZaE a c m=true):a.length=c.length:=by
 unfold ZaE at h
 exact(of_decide_eq_true h).1
theorem Zgz {number:Int} {c:List Call}:∀ {l:List Train} {i:Int},0≤i→0≤Zn (fun t:Train=>decide (t.number=number)) i l→
  (l.getD (Zn (fun t:Train=>decide (t.number=number)) i l-i).toNat default).stops.map (·.station)=c.map (·.station)→J2 l number c=true
 |[],i,_,h,_=>by simp[Zn]at h
 |x::r,i,h0,h,he=>by
  unfold J2
  unfold Zn at h he
  by_cases hn:x.number=number
  ·rw[if_pos hn]
   rw[if_pos (by simpa using hn),show(i-i).toNat=0 by omega]at he
   exact Zoo he _
  ·rw[if_neg hn]
   rw[if_neg (by simpa using hn)]at h he
   have:=(Xb (q:=fun t:Train=>decide (t.number=number)) (l:=r) (i:=i+1) (by omega)).2
   refine Zgz (i:=i+1) (by omega) h ?_
   rw[show(Zn (fun t:Train=>decide (t.number=number)) (i+1) r-i).toNat=(Zn (fun t:Train=>decide (t.number=number)) (i+1) r-(i+1)).toNat+1 by omega]at he
   exact he
theorem Zor {b:XE} {n d:Int} (h:(JX b n d).2=0):(JX b n d).1=calls b.zones ((QE b d).getD (place (QE b d) n).toNat default) d∧0≤place (QE b d) n:=by
 have h':=h
 unfold JX at h'⊢
 split at h'
 ·rename_i g;exact absurd h' g
 split at h'
 ·cases h'
 split at h'
 ·cases h'
 split at h'
 ·cases h'
 rename_i g1 g2 g3 g4
 rw[if_neg g1,if_neg g2,if_neg g3,if_neg g4]
 exact⟨rfl,by omega⟩
theorem Zjl {zs:List Zone} {day:Int} {many:Nat} {now:Int}:∀l:List Stop,((Qg zs day many 0 now l).getD 0 default).arrive=((Qg zs day many 0 now l).getD 0 default).depart
 |[]=>rfl
 |s::r=>by unfold Qg;rfl
theorem ZfY {zs:List Zone} {day:Int} {many:Nat}:∀(l:List Stop) (i:Nat) (now:Int),i+l.length=many→((Qg zs day many i now l).getD (l.length-1) default).arrive=((Qg zs day many i now l).getD (l.length-1) default).depart
 |[],_,_,_=>rfl
 |[s],i,now,h=>by
  have hn:¬i+1<many:=by simp at h;omega
  unfold Qg
  by_cases h0:i=0
  ·rw[if_pos h0];dsimp only;rw[if_neg hn];rfl
  ·rw[if_neg h0];dsimp only;rw[if_neg hn];rfl
 |s::q::r,i,now,h=>by
  have ih:=fun now=>ZfY (zs:=zs) (day:=day) (many:=many) (q::r) (i+1) now (by simp at h⊢;omega)
  have e:∀x:Call,∀now,((x::Qg zs day many (i+1) now (q::r)).getD ((s::q::r).length-1) default)=(Qg zs day many (i+1) now (q::r)).getD ((q::r).length-1) default:=fun x now=>rfl
  unfold Qg
  by_cases h0:i=0
  ·rw[if_pos h0]
   dsimp only
   rw[e]
   exact ih _
  ·rw[if_neg h0]
   dsimp only
   rw[e]
   exact ih _
theorem ZgE {t:Ze} (he:Zl t=0) {k:Nat} (hk:k<t.runs.length):(JX t.book (t.runs.getD k default).number (t.runs.getD k default).day).2=0:=by
 have h:=(JW he).2.1
 unfold Q6 at h
 split at h
 ·cases h
 split at h
 ·cases h
 have h2:=Z4 h k (Nat.zero_le _) (by omega)
 unfold ZaJ at h2
 split at h2
 ·rename_i g;exact absurd h2 g
 ·rename_i g;exact Decidable.of_not_not g
theorem Zov {t:Ze} {k:Nat} (hk:k<t.runs.length):(callsOf t).getD k []=(JX t.book (t.runs.getD k default).number (t.runs.getD k default).day).1:=by
 unfold callsOf
 rw[List.getD_eq_getElem?_getD,List.getElem?_map,List.getElem?_eq_getElem hk,List.getD_eq_getElem?_getD,List.getElem?_eq_getElem hk]
 rfl
structure ZuX (t:Ze) (i:Nat):Prop where
 run:JX t.book (t.runs.getD i default).number (t.runs.getD i default).day=((callsOf t).getD i [],0)
 len:2≤((callsOf t).getD i []).length∧((callsOf t).getD i []).length≤4
 asc:∀k,0<k→k<((callsOf t).getD i []).length→(((callsOf t).getD i []).getD (k-1) default).depart<(((callsOf t).getD i []).getD k default).arrive∧(((callsOf t).getD i []).getD k default).arrive≤(((callsOf t).getD i []).getD k default).depart
 ends:(((callsOf t).getD i []).getD 0 default).arrive=(((callsOf t).getD i []).getD 0 default).depart∧(((callsOf t).getD i []).getD (((callsOf t).getD i []).length-1) default).arrive=(((callsOf t).getD i []).getD (((callsOf t).getD i []).length-1) default).depart
theorem ZsZ {t:Ze} (he:Zl t=0) {i:Nat} (hi:i<t.runs.length):ZuX t i:=by
 have hw:=QH he
 have hr:=ZgE he hi
 have hrow:=Zov hi
 have hlen:=hw.calls.row ((callsOf t).getD i []) (Zki (by rw[Yx];exact hi))
 have hs:∀k:Nat,k<((callsOf t).getD i []).length→StopIn (callsOf t) (i:Int) (k:Int):=fun k hk=>⟨by omega,by rw[Yx];omega,by omega,by unfold Zj;rw[Int.toNat_natCast];omega⟩
 refine⟨by rw[hrow,←hr],hlen,fun k h0 hk=>?_,?_⟩
 ·have h1:=hw.asc _ _ (hs k hk) (by omega)
  have h2:=(hw.nn _ _ (hs k hk)).2.1
  unfold Zt Zj at h1 h2
  rw[Int.toNat_natCast,Int.toNat_natCast,show((k:Int)-1).toNat=k-1 by omega]at h1
  rw[Int.toNat_natCast,Int.toNat_natCast]at h2
  exact⟨h1,h2⟩
 ·have h2:=(Zor hr).1
  rw[←hrow]at h2
  rw[h2]
  have hl:(Sp.calls t.book.zones ((QE t.book (t.runs.getD i default).day).getD (place (QE t.book (t.runs.getD i default).day) (t.runs.getD i default).number).toNat default) (t.runs.getD i default).day).length=((QE t.book (t.runs.getD i default).day).getD (place (QE t.book (t.runs.getD i default).day) (t.runs.getD i default).number).toNat default).stops.length:=XT _ _ _ _ _ _
  rw[hl]
  unfold Sp.calls
  exact⟨Zjl _,ZfY _ _ _ (by omega)⟩
theorem ZlZ {t:Ze} (hm:Zay t) {i:Nat} (hi:i<t.runs.length):J2 t.book.old (t.runs.getD i default).number ((callsOf t).getD i [])=true:=by
 have hr:=ZgE hm.begin hi
 have h2:=Zor hr
 rw[←Zov hi]at h2
 obtain⟨j,_,hj⟩:=hm.from_ i hi
 obtain⟨z,old,n,hb,_,_⟩:=hm.book
 have ht:QE t.book (t.runs.getD i default).day=t.book.old:=by
  rw[hj,hb]
  rfl
 rw[ht]at h2
 refine Zgz (i:=0) (Int.le_refl _) h2.2 ?_
 rw[h2.1,Int.sub_zero]
 exact(Zc6 _ _ _ _ _ _).symm
theorem Zmv {l:List Call} {st:Int} (h:1≤ZA l st):(l.getD (ZA l st).toNat default).station=st:=by
 have e:ZA l st=Zn (fun c=>decide (c.station=st)) 1 (l.drop 1):=by
  unfold ZA Zo
  rw[show max 0 (1:Int)=1 from rfl,show(1:Int).toNat=1 from rfl]
 rw[e]at h⊢
 have h2:=ZdA (q:=fun c:Call=>decide (c.station=st)) (d:=default) (l:=l.drop 1) (i:=1) (by omega) (by omega)
 rw[List.getD_eq_getElem?_getD,List.getElem?_drop,show 1+(Zn (fun c:Call=>decide (c.station=st)) 1 (l.drop 1)-1).toNat=(Zn (fun c:Call=>decide (c.station=st)) 1 (l.drop 1)).toNat by omega,←List.getD_eq_getElem?_getD]at h2
 exact of_decide_eq_true h2
theorem ZjT {l:List Call} (hp:l.Pairwise fun a b=>a.station≠b.station) {st:Int} (h:1≤ZA l st):Zo l 0 st=ZA l st:=by
 have h1:=Zmv h
 have hlt:=(XF l 1 st).1
 have e:=Zhm hp (f:=0) (i:=(ZA l st).toNat) (Nat.zero_le _) (by unfold ZA at*;omega)
 rw[h1]at e
 rw[show((0:Nat):Int)=0 from rfl]at e
 omega
theorem ZgA {l:List Call} {st:Int} (h:0≤Zr l st):Zo l 0 st=Zr l st∧Zr l st<(l.length:Int)-1:=by
 unfold Zr at*
 split at h
 ·rw[if_pos (by assumption)];exact⟨rfl,by assumption⟩
 ·omega
structure Ztu (t:Ze) (w:ZM):Prop where
 runs:(0≤w.feeder∧w.feeder<t.runs.length)∧(0≤w.train∧w.train<t.runs.length)
 a:Zo (Zj (callsOf t) w.feeder) 0 w.station=ZA (Zj (callsOf t) w.feeder) w.station
 b:Zo (Zj (callsOf t) w.train) 0 w.station=Zr (Zj (callsOf t) w.train) w.station
 ca:1≤ZA (Zj (callsOf t) w.feeder) w.station∧ZA (Zj (callsOf t) w.feeder) w.station<(Zj (callsOf t) w.feeder).length
 gb:0≤Zr (Zj (callsOf t) w.train) w.station∧Zr (Zj (callsOf t) w.train) w.station<((Zj (callsOf t) w.train).length:Int)-1
 le:(Zt (callsOf t) w.feeder (ZA (Zj (callsOf t) w.feeder) w.station)).arrive≤(Zt (callsOf t) w.train (Zr (Zj (callsOf t) w.train) w.station)).depart
theorem Zhi {t:Ze} (hm:Zay t) {w:ZM} (hw:w∈t.waits):Ztu t w:=by
 have he:=hm.begin
 have hf:=QH he
 have hwf:=hf.w w hw
 obtain⟨k,hk,rfl⟩:=List.mem_iff_getElem.1 hw
 have hc:=ZeN he (w:=(k:Int)) ⟨by omega,by omega⟩
 have hwa:waitAt t (k:Int)=t.waits[k]:=by
  unfold waitAt
  rw[Int.toNat_natCast,List.getD_eq_getElem?_getD,List.getElem?_eq_getElem hk];rfl
 rw[hwa]at hc
 generalize t.waits[k]=w at*
 have hr:=ZlE he w hw
 have hg:=ZgA hc.2.2.2.1
 have hp:=(hm.row _ (Zcw (c:=callsOf t) (f:=w.feeder) ⟨hr.1.1,by rw[Yx];exact hr.1.2⟩)).st
 refine⟨hr,ZjT hp hwf.2.2.1,hg.1,⟨hwf.2.2.1,hc.1.2.2.2⟩,⟨hc.2.2.2.1,hg.2⟩,hwf.2.2.2.2.2 _ hc.2 (by omega) ?_⟩
 have h0:=Zog (l:=Zj (callsOf t) w.train) (st:=w.station) (by rw[hg.1];exact hc.2.2.2.1)
 rw[hg.1]at h0
 exact h0
end Go.Proofs.YtjgpiclllehgmaaGreat.Sp
namespace Go.Proofs.YtjgpiclllehgmaaGreat.Vm
attribute [local irreducible] Dn
open Go Go.Proofs Sp
set_option maxRecDepth 100000
set_option maxHeartbeats 4000000
def ZI (l:List Int):List AV:=[lst 1 XJ 0 l]
def Zhh (c:List (List Sp.Call)) (ws:List Sp.ZM) (lt:List (List Int)):AV:=.agg [lst 1 Zb [] c,lst 4 QR default ws,lst 1 ZI [] lt]
theorem ZlL (l:List Sp.Call) (st:Int):Zo l 0 st=Zn (fun c=>decide (c.station=st)) 0 l:=by
 unfold Zo
 rw[show max 0 (0:Int)=0 from rfl,show(0:Int).toNat=0 from rfl,List.drop_zero]
theorem ZuP (c:List (List Sp.Call)) (ws:List Sp.ZM) (lt:List (List Int)) (r st:Int) (hr:0≤r∧r<c.length) (hl:(Sp.Zj c r).length≤1000000):SC (fun _=>Tryz.prog) 49 [Zhh c ws lt,.int .i64 fun _=>r,.int .i64 fun _=>st] [] fun v h=>v= .int .i64 (fun _=>Zo (Sp.Zj c r) 0 st)∧h=[]:=by
 obtain⟨nt,hnt⟩:=Zu
 rw[ZlL]
 rw[Xm hnt]at hl⊢
 unfold Zhh
 simp only[Za hnt,Zb,ZI]
 refine SC.less (Qv Tryz.func49 (body:=Zk Tryz.f49) rfl (by decide+kernel) ?_)
 refine wS ?_
 refine ZS false false [] [1,2,3,7] [] (fun(i:Nat)=>[(7,.int .i64 fun _=>i)]) (fun _=>[]) (fun i=>i≤(nt (List Sp.Call) [] c r).length∧Zn (fun c=>decide (c.station=st)) 0 (nt (List Sp.Call) [] c r)=Zn (fun c=>decide (c.station=st)) i ((nt (List Sp.Call) [] c r).drop i)) (fun i=>(nt (List Sp.Call) [] c r).length-i+0) 0 ⟨Nat.zero_le _,by simp⟩ ?_ ?_
 ·exact ZK
 intro i hq
 have hi:=hq.1
 have hp:=hq.2
 clear hq
 refine wS ?_
 refine⟨fun hb=>?_,fun hb=>?_⟩
 ·simp only[decide_eq_true_eq]at hb
  have hd:=Qu (d:=default) hnt (l:=nt (List Sp.Call) [] c r) (i:=i) (by omega)
  rw[hd,Zn]at hp
  refine wS ?_
  refine⟨fun hb'=>?_,fun hb'=>?_⟩
  ·have hb':=eq_of_beq hb'
   rw[if_pos (by simpa using hb')]at hp
   rw[hp]
   refine wS ?_
   refine⟨_,_,?_,rfl,rfl⟩
   exact ZK
  ·have hb':=ne_of_beq_false hb'
   rw[if_neg (by simpa using hb')]at hp
   refine wS ?_
   refine⟨i+1,⟨by omega,hp⟩,by show(nt (List Sp.Call) [] c r).length-(i+1)+0<(nt (List Sp.Call) [] c r).length-i+0;omega,?_⟩
   exact ZK
 ·simp only[decide_eq_false_iff_not]at hb
  have hi2:i=(nt (List Sp.Call) [] c r).length:=by omega
  rw[hi2,List.drop_length,Zn]at hp
  rw[hp]
  refine wS ?_
  refine⟨_,_,?_,rfl,rfl⟩
  exact ZK
theorem ZlJ {nt:(α:Type)→α→List α→Int→α} (hnt:∀(α:Type) (d:α) (l:List α) (i:Int),nt α d l i=l.getD i.toNat d) (t:Train):encTrain t=[.int .i64 fun _=>t.number,.int .i64 fun _=>t.days,.isl 4 (fun _=>(t.stops.length:Int)) (fun e=>Qz (nt Stop default t.stops (e ()))) .none]:=by
 unfold encTrain
 rw[Za hnt]
theorem ZvH (ts:List Train) (number:Int) (c:List Sp.Call) (ht:ts.length≤1000000) (hs:∀t∈ts,t.stops.length≤1000000) (hc:c.length≤1000000):SC (fun _=>Tryz.prog) 94 [lst 3 encTrain default ts,.int .i64 fun _=>number,lst 3 Q1 default c] [] fun v h=>v= .bool (fun _=>J2 ts number c)∧h=[]:=by
 obtain⟨nt,hnt⟩:=Zu
 generalize hE:J2 ts number c=E
 simp only[Za hnt,ZlJ hnt]
 refine SC.less (Qv Tryz.func94 (body:=Zk Tryz.f94) rfl (by decide+kernel) ?_)
 refine wS ?_
 refine ZS false false [] [0,1,2,7] [] (fun(i:Nat)=>[(7,.int .i64 fun _=>i)]) (fun _=>[]) (fun i=>i≤ts.length∧J2 (ts.drop i) number c=E) (fun i=>ts.length-i+0) 0 ⟨Nat.zero_le _,hE⟩ ?_ ?_
 ·exact ZK
 intro i hq
 have hi:=hq.1
 have hp:=hq.2
 clear hq
 refine wS ?_
 refine⟨fun hb=>?_,fun hb=>?_⟩
 ·simp only[decide_eq_true_eq]at hb
  have hd:=Qu (d:=default) hnt (l:=ts) (i:=i) (by omega)
  have hst:=hs _ (QQ (d:=default) hnt (l:=ts) (i:=i) (by omega))
  rw[hd,J2]at hp
  refine wS ?_
  refine⟨fun hn=>?_,fun hn=>?_⟩
  ·have hn:(nt Train default ts i).number≠number:=by simpa only[bne_iff_ne]using hn
   rw[if_neg hn]at hp
   refine wS ?_
   refine⟨i+1,⟨by omega,hp⟩,by show ts.length-(i+1)+0<ts.length-i+0;omega,?_⟩
   exact ZK
  ·have hn:(nt Train default ts i).number=number:=by simpa only[bne_eq_false_iff_eq]using hn
   rw[if_pos hn]at hp
   subst hp
   have hz:ZaE (nt Train default ts i).stops c 0=decide (((nt Train default ts i).stops.length:Int)=(c.length:Int)):=by
    rw[ZlP]
    exact decide_eq_decide.2 (by omega)
   have hup:=fun(m:Nat) (h:m≤c.length) (h2:ZaE (nt Train default ts i).stops c m=false)=>ZqI h h2
   have hln:=fun(m:Nat) (h2:ZaE (nt Train default ts i).stops c m=true)=>Zop h2
   have hs2:∀m:Nat,ZaE (nt Train default ts i).stops c m=true→ZaE (nt Train default ts i).stops c (m+1)=((nt Stop default (nt Train default ts i).stops (m:Int)).station==(nt Sp.Call default c (m:Int)).station):=fun m h2=>by
    rw[ZlQ h2,XX hnt default c m,XX hnt default (nt Train default ts i).stops m]
    rfl
   generalize ZaE (nt Train default ts i).stops c=SE at*
   refine wS ?_
   refine Zuc false false [] [0,2,7,8,9] [] (fun(⟨k,b⟩:Nat×Bool)=>[(8,.bool fun _=>b),(9,.int .i64 fun _=>k)]) (fun _=>[]) (fun⟨k,b⟩=>k≤c.length∧b=SE k) (fun q=>c.length-q.1+0) (0,SE 0) ⟨Nat.zero_le _,rfl⟩ ?_ ?_
   ·refine JO ?_
    refine .bool ?_
    rw[hz]
    rfl
   intro k b hq
   have hk:k≤c.length:=hq.1
   have hbq:b=SE k:=hq.2
   clear hq
   refine wS ?_
   cases b
   case false=>
    have h2:=hup k hk hbq.symm
    refine Br.isF rfl ?_
    refine wS ?_
    refine⟨_,_,?_,rfl,rfl⟩
    refine JO ?_
    exact .bool h2.symm
   have hln:=hln k hbq.symm
   have hs2:=hs2 k hbq.symm
   refine⟨fun h2=>?_,fun h2=>?_⟩
   ·have h2:(k:Int)<(c.length:Int):=of_decide_eq_true h2
    refine wS ?_
    refine⟨(k+1,SE (k+1)),⟨by omega,rfl⟩,by show c.length-(k+1)+0<c.length-k+0;omega,?_⟩
    refine JO ?_
    exact .bool hs2.symm
   ·have h2:¬(k:Int)<(c.length:Int):=of_decide_eq_false h2
    have hke:k=c.length:=by omega
    subst hke
    refine wS ?_
    refine⟨_,_,?_,rfl,rfl⟩
    refine JO ?_
    exact .bool hbq
 ·simp only[decide_eq_false_iff_not]at hb
  rw[List.drop_eq_nil_of_le (by omega),J2]at hp
  subst hp
  refine wS ?_
  refine⟨_,_,?_,rfl,rfl⟩
  exact ZK
end Go.Proofs.YtjgpiclllehgmaaGreat.Vm
namespace Go.Proofs.YtjgpiclllehgmaaGreat.Vm
open Go Go.Proofs Go.Proofs.YtjgpiclllehgmaaGreat.Conc1
section
variable {P:Program} {G:Nat→Nat→Nat→Prop} {R:RC} {h:List Zi}
theorem Zrb (H:HR G R h) {E:Operand→AV} {ρ:Operand→Value} {t:TypeId} {n:Nat} {ps:Array (Nat×Operand)} {s:Nat} {m:Unit→Int} {f:(Unit→Int)→List AV} {tk:Tk} (hE:∀p∈ps.toList,VR R (E p.2) (ρ p.2)) (hv:XK P E t n ps.toList=some (.isl s m f tk)):
  ∃u R',(Instr.buildSlice t n (ps.map fun(i,x)=>(i,ρ x))).run P R.w= .ok u R'.w∧HR G R' (h++[.gar s m f])∧Xh R h R' (h++[.gar s m f])∧R.le R'∧VR R' (.gsl h.length m) u:=by
 unfold XK at hv
 split at hv
 case h_2=>cases hv
 rename_i T hT
 split at hv
 case h_2=>cases hv
 rename_i e s' eb hk
 split at hv
 case isFalse=>cases hv
 rename_i hcd
 simp only[Bool.and_eq_true]at hcd
 obtain⟨⟨hzo,hln⟩,hbig⟩:=hcd
 have hln:=ZD hln
 have hbig:=Xf hbig
 obtain⟨j,hu,hj,hs,_⟩:=Y2 hT hk
 obtain⟨j',z,hj',hz,hzs,hjs,_⟩:=JQ hzo
 rw[hj]at hj'
 cases hj'
 split at hv
 case h_2=>
  unfold ZhR at hv
  split at hv
  case h_2=>cases hv
  split at hv
  case isFalse=>cases hv
  cases hv
 rename_i rows hr
 unfold ZfC at hv
 simp only[Option.some.injEq,AV.isl.injEq]at hv
 obtain⟨rfl,rfl,rfl,_⟩:=hv
 obtain⟨arr,a1,a2,a3,a4,a5⟩:=ZdJ (R:=R) (ρ:=ρ) ps.toList 0 rows ((Array.range (n*s')).map fun k=>(if n*s'=0 then #[]else z.cells)[k%(if n*s'=0 then #[]else z.cells).size]!) hr (by simp[hln]) hE
 have hrl:rows.length=n:=by rw[a3,Array.length_toList];rw[Array.length_toList]at hln;exact hln
 have hsz:arr.size=n*s':=by rw[a2];simp
 obtain⟨R',hw,H',hx,hle,hm,hhw,hhv⟩:=H.garFresh s' (fun _=>(rows.length:Int)) (fun e=>rows.getD (e ()).toNat (rows.headD [])) n (by show(rows.length:Int)=n;rw[hrl]) arr e hsz (fun R' hle i hi=>by
  have hri:rows[i]? =some rows[i]:=List.getElem?_eq_getElem (by omega)
  have er:rows.getD (i:Int).toNat (rows.headD [])=rows[i]:=by rw[Int.toNat_natCast,List.getD_eq_getElem?_getD,hri];rfl
  show(rows.getD (i:Int).toNat (rows.headD [])).length=s'∧∀j c,(rows.getD (i:Int).toNat (rows.headD []))[j]? =some c→_
  rw[er]
  refine⟨(a5 i _ hri).1,fun j c hj=>?_⟩
  have:=(a5 i _ hri).2 j c hj
  rw[Nat.zero_add]at this
  exact this.mono hle.ok hle.keep hle.keepM)
 refine⟨.slice (some ⟨R.w.heap.size,0,none⟩) n n,R',?_,H',hx,hle,?_⟩
 ·have hpm:(ps.map fun(i,x)=>(i,ρ x)).toList=ps.toList.map fun p=>(p.1,ρ p.2):=by simp
  unfold Instr.buildSlice
  simp only[Sem.run_bind,Zy hu,Result.andThen_ok,Qa hj,hs,hpm]
  rw[if_neg (by omega)]
  rw[hw]
  by_cases hns:n*s'=0
  ·simp only[if_pos hns]at a1⊢
   simp only[Sem.run_bind,Sem.run_pure,Result.andThen_ok]
   rw[a1]
   rfl
  ·simp only[if_neg hns]at a1⊢
   simp only[Sem.run_bind,Sem.run_pure,Result.andThen_ok,zeroValue,Q7 hj,hz]
   rw[a1]
   rfl
 ·rw[H.len]
  exact .gsl _ _ _ _ _ (by omega) (by rw[hhw];exact Int.le_refl _) (fun _=>hhv.symm) ⟨by show(rows.length:Int)=n;rw[hrl],.inr ⟨_,_,rfl⟩⟩
end
def Zo3 (T:Tb) (o:Oper) (E:Operand→AV) (h:List Zi):Option (AV×List Zi×Cd):=match o.op,o.guard with
 |.buildSlice t n ps,none=>(match XU T (fun x=>strip (E x)) t n ps.toList with
  |some (.isl s m f _)=>some (.gsl h.length m,h++[.gar s m f],gdC E o.op.operands.toList)
  |_=>none)
 |_,_=>none
def Zer (T:Tb) (p:Unit→Program) (d:Nat) (ops:Array Oper):List Oper→List AV→List Zi→Cd→(List AV→List Zi→Cd→Prop)→Prop
 |[],s,h,c,K=>K s h c
 |o::r,s,h,c,K=>(match o.dst with
  |some e=>if ZG e d then(match Zo3 T o (ev s) h with
   |some (v,h',c')=>Zer T p d ops r (putO s o.dst v) h' (c++c') K
   |none=>False)else Wop T p ops o (ev s) h c fun v h c=>Zer T p d ops r (putO s o.dst v) h c K
  |none=>Wop T p ops o (ev s) h c fun v h c=>Zer T p d ops r (putO s o.dst v) h c K)
section
variable {T:Tb} {p:Unit→Program} {R₀:RC} {h₀:List Zi}
theorem Zo2 (hT:T.Of (p ())) {ops:Array Oper} {i:Nat} {o:Oper} (ho:ops[i]? =some o) {E:Operand→AV} {h h':List Zi} {v:AV} {c:Cd} (hv:Zo3 T o E h=some (v,h',c)) (hc:ZT c):Zde (p ()) R₀ h₀ ops i o E h fun v' h''=>v'=v∧h''=h':=by
 unfold Zo3 at hv
 split at hv
 case h_2=>cases hv
 rename_i t n ps hop hg
 split at hv
 case h_2=>cases hv
 rename_i s m f tk hb
 have hb':=Jj hT hb
 simp only[Option.some.injEq,Prod.mk.injEq]at hv
 obtain⟨rfl,rfl,rfl⟩:=hv
 intro R t' hi hE b ds k cs rest
 have hEs:∀x∈o.op.operands,VR R (strip (E x)) (QA t' x):=fun x hx=>(hE x (List.mem_append_left _ (Array.mem_toList_iff.2 hx))).strip (ZeM hc x (Array.mem_toList_iff.2 hx))
 obtain⟨u,R',h1,h2,h3,h4,h5⟩:=Zrb (ρ:=QA t') hi.hr (fun q hq=>hEs q.2 (by
  rw[hop]
  simp only[Op.operands]
  rw[←Array.mem_toList_iff]
  simp only[Array.toList_map]
  exact List.mem_map.2 ⟨q,hq,rfl⟩)) hb'
 refine⟨_,_,R',u,⟨rfl,rfl⟩,hi.step h2 h3 h4,h3,h4,h5,.one (Zae (nv:=.value u) ho (by simp[Region.wanted,hg]) (fun c e=>by rw[hop]at e;cases e) ?_ ?_ (.inl rfl))⟩
 ·unfold execOp
  simp only[hop]
  exact Zg (fun _=>Zbb) fun _ _=>Zp
 ·unfold execOp
  simp only[hop]
  rw[Sem.run_bind,h1]
  rfl
theorem Zjz (hT:T.Of (p ())) {d:Nat} {ops:Array Oper} {K:List AV→List Zi→Cd→Prop} (hK:∀s h c,K s h c→ZT c):∀(l:List Oper) (j:Nat) (s:List AV) (h:List Zi) (c:Cd),(∀m,m<l.length→ops[j+m]? =l[m]?)→Zer T p d ops l s h c K→
  ZT c∧Za6 (p ()) R₀ h₀ ops (List.range' j l.length) s h fun s h=>∃c,K s h c
 |[],j,s,h,c,_,hW=>⟨hK _ _ _ hW,fun R t hi hs b ds k cs=>⟨s,h,R,t,⟨_,hW⟩,hi,Xh.refl _ _,RC.le.refl _,hs,.one YM⟩⟩
 |o::r,j,s,h,c,hl,hW=>by
  have ho:ops[j]? =some o:=by simpa using hl 0 (by simp)
  have ih:=fun s h c=>Zjz hT (d:=d) hK r (j+1) s h c (fun m hm=>by have:=hl (m+1) (by simpa using hm);rw[show j+1+m=j+(m+1) by omega];simpa using this)
  have key:∀(Q:AV→List Zi→Prop),Zde (p ()) R₀ h₀ ops j o (Vm.ev s) h Q→(∀v h',Q v h'→∃c',Zer T p d ops r (putO s o.dst v) h' c' K)→Za6 (p ()) R₀ h₀ ops (List.range' j (o::r).length) s h fun s h=>∃c,K s h c:=fun Q h2 hq R t hi hs b ds k cs=>by
   obtain⟨v,h',R',u,hQ,a1,a2,a3,a4,a5⟩:=h2 R t hi (hs.eok ops o) b ds k cs (List.range' (j+1) r.length)
   obtain⟨c',hk⟩:=hq v h' hQ
   obtain⟨s'',h'',R'',t'',b1,b2,b3,b4,b5,b6⟩:=(ih _ _ _ hk).2 R' _ a1 ((hs.mono a3).putO a4 o.dst) b ds k cs
   exact⟨s'',h'',R'',t'',b1,b2,a2.trans b3,a3.trans b4,b5,a5.trans (X7 a3 b6)⟩
  have other:(Wop T p ops o (Vm.ev s) h c fun v h c=>Zer T p d ops r (putO s o.dst v) h c K)→ZT c∧Za6 (p ()) R₀ h₀ ops (List.range' j (o::r).length) s h fun s h=>∃c,K s h c:=fun hW=>by
   obtain⟨h1,h2⟩:=Zic hT (R₀:=R₀) (h₀:=h₀) ho (fun v h c hk=>(ih _ _ _ hk).1) hW
   exact⟨h1,key _ h2 fun v h' hq=>hq⟩
  unfold Zer at hW
  split at hW
  ·split at hW
   ·split at hW
    case h_2=>exact hW.elim
    rename_i v h' c' hv
    have hcc:=(ih _ _ _ hW).1
    exact⟨(Z0 hcc).1,key _ (Zo2 hT ho hv (Z0 hcc).2) fun v' h'' hq=>by
     obtain⟨rfl,rfl⟩:=hq
     exact⟨_,hW⟩⟩
   ·exact other hW
  ·exact other hW
theorem hpX {nb:Nat} {K:Ex→List AV→List Zi→Cd→Prop} {id:Nat} {ops:Array Oper} {k:List Item} {s:List AV} {h:List Zi} (hT:T.Of (p ())) (d:Nat) (hW:Zer T p d ops ops.toList s h [] fun s h c=>Chk c (HP false nb p k K s h)):HP false nb p (.code (.region id ops false)::k) K s h:=
 ⟨fun hK R₀ h₀ hnb=>by
  obtain⟨_,h2⟩:=Zjz (R₀:=R₀) (h₀:=h₀) hT (fun s h c (hk:Chk c _)=>hk.c) ops.toList 0 s h [] (fun m hm=>by simp) hW
  have h3:Za6 (p ()) R₀ h₀ ops (List.range ops.size) s h fun s h=>∃c,Chk c (HP false nb p k K s h):=by
   rw[List.range_eq_range']
   simpa using h2
  exact CI.then (CI.region h3 fun s h hk=>⟨rfl,hk⟩) fun s h ⟨c,hk⟩=>hk.g.run hK R₀ h₀ hnb⟩
end
end Go.Proofs.YtjgpiclllehgmaaGreat.Vm
namespace Go.Proofs.YtjgpiclllehgmaaGreat.Vm
open Go Go.Proofs
theorem To.freeze {s:List AV} {h:List Zi} {id sz:Nat} {n:Unit→Int} {f:(Unit→Int)→List AV} (hid:h[id]? =some (.gar sz n f)):To s h s (h.set id (.fro sz n f)):=fun G R t H hs=>by
 have hlt:=(List.getElem?_eq_some_iff.1 hid).1
 let R':RC:={R with ok:=fun b o k=>b<R.w.heap.size∧G b o k∧Zga R (h.set id (.fro sz n f)) b o k}
 have hget:∀ {j x},(h.set id (.fro sz n f))[j]? =some x→(j=id∧x= .fro sz n f)∨(j≠id∧h[j]? =some x):=fun {j x} hx=>by
  rw[List.getElem?_set]at hx
  split at hx
  ·rename_i e
   simp only[Option.some.injEq]at hx
   exact .inl ⟨e.symm,hx.symm⟩
  ·rename_i e
   exact .inr ⟨fun e'=>e e'.symm,hx⟩
 have hok:∀b o k,R.ok b o k→R'.ok b o k:=fun b o k hk=>by
  obtain⟨h1,h2,h3⟩:=(H.okd _ _ _).1 hk
  refine⟨h1,h2,fun j x hx=>?_⟩
  rcases hget hx with⟨rfl,rfl⟩|⟨hne,hx⟩
  ·exact fun h=>h
  ·exact h3 j x hx
 have hle:R.le R':=⟨Nat.le_refl _,fun _ _=>rfl,fun _ _=>⟨Int.le_refl _,fun _=>rfl⟩,fun _ _=>.refl _,hok,fun _ _ _ _ _ _=>rfl,fun _ _ _ _ h=>h,rfl⟩
 have hph:∀ {j x b},(h.set id (.fro sz n f))[j]? =some x→ZN R' j x b→j≠id∧h[j]? =some x∧ZN R j x b:=fun {j x b} hx hp=>by
  rcases hget hx with⟨rfl,rfl⟩|⟨hne,hx⟩
  ·exact hp.elim
  ·exact⟨hne,hx,(ZN.congr (R:=R) rfl rfl).1 hp⟩
 refine⟨R',rfl,⟨?_,fun _ _ _=>Iff.rfl,fun j x hx=>?_,fun i j bi bj b hij hi hj hp hp'=>?_,H.cl,H.fresh,fun j x b hx hk hp o k=>?_,H.n0m⟩,⟨rfl,rfl,rfl,rfl,Nat.le_refl _,Nat.le_refl _,fun _ _=>rfl,hok,fun _ _ _ _ _ _=>rfl,fun _ _ _=>rfl,fun j x b hx hp=>?_⟩,hle,hs.mono hle⟩
 ·rw[List.length_set];exact H.len
 ·rcases hget hx with⟨rfl,rfl⟩|⟨hne,hx⟩
  ·obtain⟨e1,e2⟩:=H.blk _ _ hid
   refine⟨e1,?_⟩
   rcases e2 with⟨h0,a0,h1⟩|⟨b,o,len,cap,arr,ty,a1,a2,a3,a4,a5,a6⟩
   ·show PR R'.w R'.ok _ (R.hv _)
    rw[h1]
    cases a0 with
    |none=>exact .isl0 _ _ _ _ h0 rfl
    |some a0=>exact .islE _ _ _ _ a0 h0 (.inl rfl)
   ·show PR R'.w R'.ok _ (R.hv _)
    rw[a3]
    rcases Nat.eq_zero_or_pos cap with hc0|hc0
    ·rw[hc0,show len=0 by omega]
     exact .islE _ _ _ _ ⟨b,o,none⟩ (by omega) (.inl rfl)
    have hmul:len*sz≤cap*sz:=Nat.mul_le_mul_right _ a2
    have hb:ZN R j (.gar sz n f) b:=⟨_,_,_,a3,hc0,rfl⟩
    refine .isl _ _ _ _ b o len cap (fun i j=>arr.getD (o+i*sz+j) undef) a1 a2 (.inl rfl) (fun h=>by cases h) (fun i hi=>(a6 i hi).1) (fun i j c hi hj=>?_) (fun i j c hi hj=>?_) ?_
    ·have hjs:j<sz:=by rw[←(a6 i hi).1];exact(List.getElem?_eq_some_iff.1 hj).1
     have:(i+1)*sz≤len*sz:=Nat.mul_le_mul_right _ hi
     rw[Nat.succ_mul]at this
     exact Qe (w:=R.w) a4 (by omega)
    ·exact((a6 i hi).2 j c hj).mono hok (fun _ _ _ _ _ _=>rfl) fun _ _ _ _ h=>h
    ·refine⟨H.phys_lt hid hb,H.tokG _ _ _ hid rfl hb _ _,fun i x hx=>?_⟩
     rcases hget hx with⟨rfl,rfl⟩|⟨hne,hx⟩
     ·exact fun h=>h
     ·exact Za3 fun hp=>H.dis _ _ _ _ b (fun e=>hne e.symm) hid hx hb hp
  ·exact(H.blk j x hx).mono hle rfl rfl rfl rfl (fun _ _=>rfl)
 ·obtain⟨_,hx,hp⟩:=hph hi hp
  obtain⟨_,hx',hp'⟩:=hph hj hp'
  exact H.dis i j bi bj b hij hx hx' hp hp'
 ·obtain⟨_,hx,hp⟩:=hph hx hp
  exact H.tokG j x b hx hk hp o k
 ·obtain⟨_,hx,hp⟩:=hph hx hp
  exact .inr ⟨j,x,hx,hp,.inl rfl⟩
theorem To.froze {s:List AV} {h:List Zi} {id sz:Nat} {n:Unit→Int} {f:(Unit→Int)→List AV} (hid:h[id]? =some (.gar sz n f)):To s h (s.map (rsv (h.set id (.fro sz n f)))) (h.set id (.fro sz n f)):=fun G R t H hs=>by
 obtain⟨R',a1,a2,a3,a4,a5⟩:=To.freeze (s:=s) hid G R t H hs
 have:=SL.rsv a2 a5 {tb with rs:=true}
 exact⟨R',a1,a2,a3,a4,this⟩
open Go Go.Proofs Sp
def Jb (r r':List AV):Prop:=r'.length=r.length∧∀(j:Nat) (c':AV),r'[j]? =some c'→∃c,r[j]? =some c∧∀w ok v,PR w ok c v→PR w ok c' v
theorem Jb.two {a b b':AV} (h:∀w ok v,PR w ok b v→PR w ok b' v):Jb [a,b] [a,b']:=⟨rfl,fun j c hj=>by
 match j with
 |0=>simp only[List.getElem?_cons_zero,Option.some.injEq]at hj;subst hj;exact⟨_,rfl,fun _ _ _ h=>h⟩
 |1=>simp only[List.getElem?_cons_succ,List.getElem?_cons_zero,Option.some.injEq]at hj;subst hj;exact⟨_,rfl,h⟩
 |j+2=>simp at hj⟩
theorem PR.elems {w:World} {ok:Nat→Nat→Nat→Prop} {s:Nat} {m m':Unit→Int} {f f':(Unit→Int)→List AV} {v:Value} (hm:m ()=m' ()) (hf:∀i:Nat,(i:Int)<m ()→Jb (f fun _=>(i:Int)) (f' fun _=>(i:Int))) (hv:PR w ok (.isl s m f .none) v):PR w ok (.isl s m' f' .none) v:=by
 cases hv with
 |isl0 _ _ _ _ hz h1=>exact .isl0 _ _ _ _ (by omega) rfl
 |islE _ _ _ _ a hz h1=>exact .islE _ _ _ _ a (by omega) (.inl rfl)
 |isl _ _ _ _ b o len cap us hn hc h1 he hl h2 h3 h4=>
  refine .isl _ _ _ _ b o len cap us (by omega) hc (.inl rfl) (fun e=>by cases e) (fun i hi=>?_) (fun i j c hi hj=>?_) (fun i j c hi hj=>?_) h4
  ·rw[(hf i (by omega)).1];exact hl i hi
  ·obtain⟨c0,g1,_⟩:=(hf i (by omega)).2 j c hj
   exact h2 i j c0 hi g1
  ·obtain⟨c0,g1,g2⟩:=(hf i (by omega)).2 j c hj
   exact g2 _ _ _ (h3 i j c0 hi g1)
theorem Jb.three {a b c c':AV} (h:∀w ok v,PR w ok c v→PR w ok c' v):Jb [a,b,c] [a,b,c']:=⟨rfl,fun j d hj=>by
 match j with
 |0=>simp only[List.getElem?_cons_zero,Option.some.injEq]at hj;subst hj;exact⟨_,rfl,fun _ _ _ h=>h⟩
 |1=>simp only[List.getElem?_cons_succ,List.getElem?_cons_zero,Option.some.injEq]at hj;subst hj;exact⟨_,rfl,fun _ _ _ h=>h⟩
 |2=>simp only[List.getElem?_cons_succ,List.getElem?_cons_zero,Option.some.injEq]at hj;subst hj;exact⟨_,rfl,h⟩
 |j+3=>simp at hj⟩
theorem ZH.elems {n k s:Nat} {m m':Unit→Int} {f f':(Unit→Int)→List AV} {tk:Tk} (hm:m ()=m' ()) (hf:∀i:Nat,(i:Int)<m ()→Jb (f fun _=>(i:Int)) (f' fun _=>(i:Int))):ZH n k (.isl s m f tk) (.isl s m' f' .none):=⟨fun R v _ hv=>.pure _ _ (hv.isl_inv.elems hm hf)⟩
theorem Zkn {nt:(α:Type)→α→List α→Int→α} (hnt:∀(α:Type) (d:α) (l:List α) (i:Int),nt α d l i=l.getD i.toNat d) {α:Type} {n k sz:Nat} (enc:α→List AV) (d:α) (l:List α) (rows:List (List AV)) (hl:rows.length=l.length) (hr:∀i,i<l.length→Jb (rows.getD i (rows.headD [])) (enc (l.getD i d))):
  ZH n k (.isl sz (fun _=>(rows.length:Int)) (fun e=>rows.getD (e ()).toNat (rows.headD [])) .exact) (.isl sz (fun _=>(l.length:Int)) (fun e=>enc (nt α d l (e ()))) .none):=
 .elems (by simp[hl]) fun i hi=>by
  have hi:i<l.length:=by have:(i:Int)<(rows.length:Int):=hi;omega
  simp only[hnt,Int.toNat_natCast]
  exact hr i hi
attribute [local irreducible] Dn
set_option maxRecDepth 100000
set_option maxHeartbeats 8000000
theorem ZR.garE {n k s:Nat} {m m':Unit→Int} {f f':(Unit→Int)→List AV} (hm:m ()=m' ()) (hf:∀i:Nat,(i:Int)<m ()→Jb (f fun _=>(i:Int)) (f' fun _=>(i:Int))):ZR n k (.gar s m f) (.gar s m' f'):=
 ⟨fun R id hN ⟨h1,h2⟩=>⟨h1.trans hm,by
  rcases h2 with⟨h3,h4⟩|⟨b,o,len,cap,arr,ty,a1,a2,a3,a4,a5,a6⟩
  ·exact .inl ⟨by omega,h4⟩
  ·refine .inr ⟨b,o,len,cap,arr,ty,by omega,a2,a3,a4,a5,fun i hi=>?_⟩
   have hle:=hf i (by omega)
   refine⟨by rw[hle.1];exact(a6 i hi).1,fun j c hj=>?_⟩
   obtain⟨c0,g1,g2⟩:=hle.2 j c hj
   exact g2 _ _ _ ((a6 i hi).2 j c0 g1)⟩,fun _ _ _=>Iff.rfl,fun _ _ _ _ _=>Iff.rfl,rfl⟩
theorem To.rsvC {s:List AV} {h:List Zi} {id:Nat} {cs:List AV} (hid:h[id]? =some (.cells cs)):To s h s (h.set id (.cells (cs.map (rsv h)))):=fun G R t H hs=>by
 have hget:∀ {j x},(h.set id (.cells (cs.map (rsv h))))[j]? =some x→(j=id∧x= .cells (cs.map (rsv h)))∨(j≠id∧h[j]? =some x):=fun {j x} hx=>by
  rw[List.getElem?_set]at hx
  split at hx
  ·rename_i e
   split at hx
   ·simp only[Option.some.injEq]at hx
    exact .inl ⟨e.symm,hx.symm⟩
   ·cases hx
  ·rename_i e
   exact .inr ⟨fun e'=>e e'.symm,hx⟩
 have hset:∀ {j},j≠id→(h.set id (.cells (cs.map (rsv h))))[j]? =h[j]? :=fun {j} e=>by rw[List.getElem?_set_ne (Ne.symm e)]
 have hlt:=(List.getElem?_eq_some_iff.1 hid).1
 have hself:(h.set id (.cells (cs.map (rsv h))))[id]? =some (.cells (cs.map (rsv h))):=by rw[List.getElem?_set_self hlt]
 have hph:∀ {j x b},(h.set id (.cells (cs.map (rsv h))))[j]? =some x→ZN R j x b→∃y,h[j]? =some y∧ZN R j y b:=fun {j x b} hx hp=>by
  rcases hget hx with⟨rfl,rfl⟩|⟨hne,hx⟩
  ·exact⟨_,hid,hp⟩
  ·exact⟨x,hx,hp⟩
 have hav:∀b o n,Zga R h b o n↔Zga R (h.set id (.cells (cs.map (rsv h)))) b o n:=fun b o n=>by
  constructor
  ·intro ha j x hx
   rcases hget hx with⟨rfl,rfl⟩|⟨hne,hx⟩
   ·exact(ha j _ hid:¬ZN R j (.cells cs) b)
   ·exact ha j x hx
  ·intro ha j x hx
   by_cases e:j=id
   ·subst e
    rw[hid]at hx
    cases hx
    exact(ha j _ hself:¬ZN R j (.cells (cs.map (rsv h))) b)
   ·exact ha j x (by rw[hset e];exact hx)
 refine⟨R,rfl,⟨by rw[List.length_set];exact H.len,fun b o n=>by rw[←hav];exact H.okd b o n,fun j x hx=>?_,fun i j bi bj b hij hi hj hp hp'=>?_,H.cl,H.fresh,fun j x b hx hk hp o n=>?_,H.n0m⟩,⟨rfl,rfl,rfl,rfl,Nat.le_refl _,Nat.le_refl _,fun _ _=>rfl,fun _ _ _ k=>k,fun _ _ _ _ _ _=>rfl,fun _ _ _=>rfl,fun j x b hx hp=>?_⟩,RC.le.refl _,hs⟩
 ·rcases hget hx with⟨rfl,rfl⟩|⟨hne,hx⟩
  ·obtain⟨arr,ty,h1,h2,h3⟩:=H.blk _ _ hid
   refine⟨arr,ty,h1,by rw[List.length_map];exact h2,fun k c hk=>?_⟩
   rw[List.getElem?_map,Option.map_eq_some_iff]at hk
   obtain⟨c0,hc0,rfl⟩:=hk
   have:=(SL.rsv (t:= #[arr.getD ((R.α j).o+k) undef]) H ⟨rfl,fun i a hi=>by
    cases i with
    |zero=>
     have hi:c0=a:=by simpa using hi
     subst hi
     exact h3 k _ hc0
    |succ i=>simp at hi⟩ {tb with rs:=true} (s:=[c0])).2 0 (rsv h c0) rfl
   exact this
  ·exact H.blk j x hx
 ·obtain⟨y,hy,hp⟩:=hph hi hp
  obtain⟨y',hy',hp'⟩:=hph hj hp'
  exact H.dis i j y y' b hij hy hy' hp hp'
 ·rcases hget hx with⟨rfl,rfl⟩|⟨hne,hx⟩
  ·cases hk
  ·exact H.tokG j x b hx hk hp o n
 ·obtain⟨y,hy,hp⟩:=hph hx hp
  exact .inr ⟨j,y,hy,hp,.inl rfl⟩
theorem ZR.deadF {n k s:Nat} {m:Unit→Int} {f:(Unit→Int)→List AV}:ZR n k (.fro s m f) .dead:=⟨fun _ _ _ _=>trivial,fun _ _ _=>Iff.rfl,fun _ _ _ _ _=>Iff.rfl,rfl⟩
theorem PR.nilw' {w:World} {ok:Nat→Nat→Nat→Prop} {s s':Nat} {m m':Unit→Int} {f f':(Unit→Int)→List AV} {v:Value} (h:PR w ok (.isl s m f .nil) v) (hm:m' ()=0):PR w ok (.isl s' m' f' .none) v:=by
 cases h with
 |isl0 _ _ _ _ hz h1=>exact .isl0 _ _ _ _ hm rfl
 |islE _ _ _ _ a hz h1=>exact .islE _ _ _ _ a hm (.inl rfl)
 |isl _ _ _ _ b o len cap us hn hc h1=>rcases h1 with h|h<;>cases h
theorem ZqU {p A:Prop} {α β γ δ ε:Type} {k:List Item} {K:Ex→List AV→List Zi→Cd→Prop} (st:α×β×γ×δ×ε→List AV) (hp:α×β×γ×δ×ε→List Zi) (inv:α×β×γ×δ×ε→Prop) (hA:p→(∀i,inv i→HP false 1 (fun _=>Tryz.prog) k K (st i) (hp i))→A) (hB:¬p→(∀i,inv i→HP false 1 (fun _=>Tryz.prog) k K (st i) (hp i))→A)
  (hM:∀a b c d e,inv (a,b,c,d,e)→HP false 1 (fun _=>Tryz.prog) k K (st (a,b,c,d,e)) (hp (a,b,c,d,e))):A:=by
 by_cases h:p
 ·exact hA h fun⟨a,b,c,d,e⟩ hi=>hM a b c d e hi
 ·exact hB h fun⟨a,b,c,d,e⟩ hi=>hM a b c d e hi
theorem ZhP (kp rs:Bool) (cs:List Nat) {x:Code} {Q:Ex→List AV→List Zi→Prop} {s:List AV} {h:List Zi} {α β γ:Type} (L:List Nat) (ex:List Zi) (ch:α×β×γ→List (Nat×AV)) (hc:α×β×γ→List (Nat×Zi)) (inv:α×β×γ→Prop) (μ:α×β×γ→Nat) (i:α×β×γ)
  (hi:inv i) (hto:To (Vm.keep L s) h (Y3 (Vm.keep L s) (ch i)) (X8 (h++ex) (hc i)))
  (step:∀a b c,inv (a,b,c)→Dn (tbX kp rs cs) (fun _=>Tryz.prog) (ZeB L (fun i=>Y3 (Vm.keep L s) (ch i)) (fun i=>X8 (h++ex) (hc i)) inv μ (a,b,c) (h++ex).length Q) 100 .none [.code x] (Y3 (Vm.keep L s) (ch (a,b,c))) (X8 (h++ex) (hc (a,b,c))) []):LP false (fun _=>Tryz.prog) x Q s h:=
 ZS kp rs cs L ex ch hc inv μ i hi hto fun⟨a,b,c⟩ h=>step a b c h
theorem ZuL {nt:(α:Type)→α→List α→Int→α} (hnt:∀(α:Type) (d:α) (l:List α) (i:Int),nt α d l i=l.getD i.toNat d) (z:Zone) (old:List Train) (n:Int) (hf:YK (Zs z old)) (hn:(QS (Zs z old) ⟨n,0⟩).2=false):SC (fun _=>Tryz.prog) 75 [.agg [.gd (fun _=>decide ((1:Int)=1)) (.isl 2 (fun _=>1) (fun e=>encZone (nt Zone default [z] (e ()))) .none),.isl 3 (fun _=>(old.length:Int)) (fun e=>encTrain (nt Train default old (e ()))) .none,.isl 0 (fun _=>0) (fun _=>[]) .nil,.int .i64 fun _=>1,.int .i64 fun _=>0],.agg [.int .i64 fun _=>n,.int .i64 fun _=>0]] [] fun v h=>v= .tup [.undef,.bool fun _=>false]∧h=[]:=by
 have k:=ZuM (Zs z old) ⟨n,0⟩ hf hn
 simp only[Zc,Zh,Zs,Za hnt]at k
 refine SC.to ?_ k
 (refine To.of [] ?_;cbv;(try simp only[nc]);(repeat' (first|exact trivial|exact ZH.refl _|exact ZR.refl _|refine⟨?_,?_⟩|refine ZR.cells ?_|refine ZH.agg ?_|refine ZH.tup ?_));(all_goals (first|exact XZ|skip)))
 all_goals exact .gd rfl (.none rfl fun _ _=>rfl)
theorem Zs4 (kp rs:Bool) (cs:List Nat) {x:Code} {Q:Ex→List AV→List Zi→Prop} {s:List AV} {h:List Zi} {α β γ δ:Type} (L:List Nat) (ex:List Zi) (ch:α×β×γ×δ→List (Nat×AV)) (hc:α×β×γ×δ→List (Nat×Zi)) (inv:α×β×γ×δ→Prop) (μ:α×β×γ×δ→Nat) (i:α×β×γ×δ)
  (hi:inv i) (hto:To (Vm.keep L s) h (Y3 (Vm.keep L s) (ch i)) (X8 (h++ex) (hc i)))
  (step:∀a b c d,inv (a,b,c,d)→Dn (tbX kp rs cs) (fun _=>Tryz.prog) (ZeB L (fun i=>Y3 (Vm.keep L s) (ch i)) (fun i=>X8 (h++ex) (hc i)) inv μ (a,b,c,d) (h++ex).length Q) 100 .none [.code x] (Y3 (Vm.keep L s) (ch (a,b,c,d))) (X8 (h++ex) (hc (a,b,c,d))) []):LP false (fun _=>Tryz.prog) x Q s h:=
 ZS kp rs cs L ex ch hc inv μ i hi hto fun⟨a,b,c,d⟩ h=>step a b c d h
structure ByL (b:List Int) (n:Int):Prop where
 rng:∀k,k<b.length→0≤b.getD k 0∧b.getD k 0≤240
 asc:∀k,k+1<b.length→b.getD k 0<b.getD (k+1) 0
 bd:0≤n∧n≤10+60*b.length
 last:∀k,k<b.length→b.getD k 0<n
theorem ByL.nil {n:Int} (h:0≤n∧n≤10):ByL [] n:=⟨fun k h=>by simp at h,fun k h=>by simp at h,by simp;omega,fun k h=>by simp at h⟩
theorem ByL.snoc {b:List Int} {n y:Int} (h:ByL b n) (hl:b.length≤2) (hy:1≤y∧y≤60):ByL (b++[n]) (n+y):=by
 have hbd:=h.bd
 have hg:∀k,k<b.length→(b++[n]).getD k 0=b.getD k 0:=fun k hk=>ZdE hk
 have hz:(b++[n]).getD b.length 0=n:=ZdF
 have hlen:(b++[n]).length=b.length+1:=by rw[List.length_append,List.length_singleton]
 refine⟨fun k hk=>?_,fun k hk=>?_,by rw[hlen];omega,fun k hk=>?_⟩
 ·by_cases e:k<b.length
  ·rw[hg k e];exact h.rng k e
  ·rw[show k=b.length by omega,hz];omega
 ·rw[hg k (by omega)]
  by_cases e:k+1<b.length
  ·rw[hg _ e];exact h.asc k e
  ·rw[show k+1=b.length by omega,hz];exact h.last k (by omega)
 ·by_cases e:k<b.length
  ·rw[hg k e];have:=h.last k e;omega
  ·rw[show k=b.length by omega,hz];omega
theorem ZmG {α:Type} {p:α→Bool} {d:α} {l:List α} {k:Nat} (h:k<l.length):(l.take (k+1)).any p=((l.take k).any p||p (l.getD k d)):=by
 rw[List.take_add_one,List.any_append,List.getElem?_eq_getElem h,List.getD_eq_getElem?_getD,List.getElem?_eq_getElem h]
 simp
theorem Zrv (a b c d:Int):decide (a=b∧c=d)=(bif a==b then c==d else false):=by
 by_cases h:a=b
 ·subst h;simp;rfl
 ·simp[h]
theorem cL2 (l:List Nat) {f:FuncId} {xs ys:List AV} {h hc:List Zi} {Post Q:AV→List Zi→Prop} (H:SC (fun _=>Tryz.prog) f ys hc Q) (hq:∀ r h₂,Q r h₂→Post (ren (YO l h.length) 5 r) (back l h h₂)) (hn:l.Nodup:=by decide) (hl:∀ i∈l,i<h.length:=by simp) (hx:xs.map (Qx false l h 5)=ys:=by first|rfl|(simp only[Zd,Zc,Zf,Zb,Zh,Zs,Za hnt];rfl)) (hh:sel false l h=hc:=by first|rfl|(simp only[Zd,Zc,Zf,Zb,Zh,Zs,Za hnt];rfl)):SC (fun _=>Tryz.prog) f xs h Post:=ZP l H hn hl hx hh hq
theorem ZvT (s runs waits delays:Int) (hr:1≤runs∧runs≤4) (hw:0≤waits∧waits≤4) (hd:0≤delays∧delays≤6):SC (fun _=>Tryz.prog) 19 [.ptr 0 0,.int .i64 fun _=>runs,.int .i64 fun _=>waits,.int .i64 fun _=>delays] [XB s] fun v h=>
  ∃(t:Ze) (s':Int),(Zay t∧(t.runs.length:Int)≤runs∧(t.waits.length:Int)≤waits∧(t.delays.length:Int)≤delays)∧v=Zf t∧h=[XB s']:=by
 obtain⟨nt,hnt⟩:=Zu
 obtain⟨N,hN⟩:∃N:Nat,(N:Int)=4*waits:=⟨(4*waits).toNat,by omega⟩
 refine SC.less (Zte false false [] [1] false 1 Tryz.func19 (body:=Zk Tryz.f19) rfl (by decide+kernel) rfl ?_)
 refine wS ?_
 refine hpX (T:=tbH false false [] [] false 1) (hTH false false [] [] false 1) 33 ?_
 refine vS ?_
 refine cL2 [0] (c22 s (-1) 1 (by omega) (by omega)) fun r h₂ hp=>?_
 (try simp only[Zd,Zc,Zf,Zb,Zh,Zs,Za hnt]at hp)
 obtain⟨x,s1,hx,rfl,rfl⟩:=hp
 refine wS ?_
 refine ZbC [0,1,2,3,8,9] 4 rfl rfl (s₂:=mkS 312 [(0,.ptr 0 0),(1,.int .i64 fun _=>runs),(2,.int .i64 fun _=>waits),(3,.int .i64 fun _=>delays),(8,.ptr 1 0),(9,.ptr 3 0)]) (h₂:=[XB s1,.cells [.isl 0 (fun _=>0) (fun _=>[]) .nil,.isl 0 (fun _=>0) (fun _=>[]) .nil,.isl 0 (fun _=>0) (fun _=>[]) .nil,.int .i64 fun _=>0,.int .i64 fun _=>0,.isl 0 (fun _=>0) (fun _=>[]) .nil,.isl 0 (fun _=>0) (fun _=>[]) .nil,.isl 0 (fun _=>0) (fun _=>[]) .nil],.gar 2 (fun _=>1) (fun e=>encZone (nt Zone default [⟨30*x,[]⟩] (e ()))),.cells [.gsl 2 fun _=>1,.isl 0 (fun _=>0) (fun _=>[]) .nil,.isl 0 (fun _=>0) (fun _=>[]) .nil,.int .i64 fun _=>1,.int .i64 fun _=>0,.isl 0 (fun _=>0) (fun _=>[]) .nil,.isl 0 (fun _=>0) (fun _=>[]) .nil,.isl 0 (fun _=>0) (fun _=>[]) .nil]]) ?_ ?_
 ·refine JO ?_
  refine ZR.garE rfl fun i hi=>?_
  match i,hi with
  |0,_=>(show Jb [_,_] (encZone (nt Zone default [⟨30*x,[]⟩] 0)));rw[hnt];exact Jb.two fun w ok v h=>h.nilw' rfl
 refine Zej false false [4] [19,21] false ?_
 refine wS ?_
 refine cL2 [0] (c37 s1 1 5 (by omega)) fun r h₂ hp=>?_
 (try simp only[Zd,Zc,Zf,Zb,Zh,Zs,Za hnt]at hp)
 obtain⟨bb,s2,rfl,rfl⟩:=hp
 refine wS ?_
 refine Ztc false false [] 50 [0,1,2,3,8,9] (fun _=>[]) (fun(⟨s,z⟩:Int×Zone)=>[(0,XB s),(2,.gar 2 (fun _=>1) (fun e=>encZone (nt Zone default [z] (e ())))),(3,.cells [.gsl 2 fun _=>1,.isl 0 (fun _=>0) (fun _=>[]) .nil,.isl 0 (fun _=>0) (fun _=>[]) .nil,.int .i64 fun _=>1,.int .i64 fun _=>0,.isl 0 (fun _=>0) (fun _=>[]) .nil,.isl 0 (fun _=>0) (fun _=>[]) .nil,.isl 0 (fun _=>0) (fun _=>[]) .nil])]) (fun⟨s,z⟩=>Zpz 1 z) (fun _ _ h=>h) (by decide) ?_ ?_
 ·refine wS ?_
  refine⟨fun hb=>?_,fun hb=>?_⟩
  ·refine wS ?_
   refine cL2 [0] (c29 s2 1 (by omega)) fun r h₂ hp=>?_
   (try simp only[Zd,Zc,Zf,Zb,Zh,Zs,Za hnt]at hp)
   obtain⟨z,s3,hz,rfl,rfl⟩:=hp
   refine wS ?_
   refine⟨(s3,z),hz,?_⟩
   refine JO ?_
   refine ZR.garE rfl fun i hi=>?_
   match i,hi with
   |0,_=>(simp only[hnt]);exact Jb.two fun w ok v h=>h.wk rfl (fun j hj=>rfl) (.inl rfl)
  ·refine wS ?_
   refine⟨(s2,⟨30*x,[]⟩),⟨by dsimp only;omega,.inr rfl,.nil,by simp,by simp⟩,?_⟩
   exact ZK
 rintro⟨s,z⟩ hz
 refine wS ?_
 refine cL2 [0] (c22 s 1 runs (by omega) (by omega)) fun r h₂ hp=>?_
 (try simp only[Zd,Zc,Zf,Zb,Zh,Zs,Za hnt]at hp)
 obtain⟨n,s4,hn,rfl,rfl⟩:=hp
 refine wS ?_
 obtain⟨n,rfl⟩:∃k:Nat,n=k:=⟨n.toNat,by omega⟩
 refine ZS false false [] [0,2,3,8,9,10] [.tok 3 fun _=>0] (fun(⟨i,s,old⟩:Nat×Int×List Train)=>[(10,.int .i64 fun _=>i)])
  (fun⟨i,s,old⟩=>[(0,XB s),(3,.cells [.gsl 2 fun _=>1,.isl 3 (fun _=>(old.length:Int)) (fun e=>encTrain (nt Train default old (e ()))) (.own 4),.isl 0 (fun _=>0) (fun _=>[]) .nil,.int .i64 fun _=>1,.int .i64 fun _=>0,.isl 0 (fun _=>0) (fun _=>[]) .nil,.isl 0 (fun _=>0) (fun _=>[]) .nil,.isl 0 (fun _=>0) (fun _=>[]) .nil]),(4,.tok 3 fun _=>(old.length:Int))])
  (fun⟨i,s,old⟩=>i≤n∧old.length+i=n∧DL n old) (fun i=>i.1+0) (n,s4,[]) ⟨Nat.le_refl _,by simp,⟨fun k hk=>by simp at hk⟩⟩ ?_ ?_
 ·(refine To.of [(3,false)] ?_;cbv;(try simp only[nc]);(repeat' (first|exact trivial|exact ZH.refl _|exact ZR.refl _|refine⟨?_,?_⟩|refine ZR.cells ?_|refine ZH.agg ?_|refine ZH.tup ?_));(all_goals (first|exact XZ|skip)))
 rintro⟨i,s,old⟩ ⟨hi,hlen,hdl⟩
 refine wS ?_
 refine⟨fun hb=>?_,fun hb=>?_⟩
 ·simp only[decide_eq_true_eq]at hb
  refine wS ?_
  refine cL2 [0] (c22 s 3 5 (by omega) (by omega)) fun r h₂ hp=>?_
  (try simp only[Zd,Zc,Zf,Zb,Zh,Zs,Za hnt]at hp)
  obtain⟨st,s5,hst,rfl,rfl⟩:=hp
  refine wS ?_
  obtain⟨st,rfl⟩:∃k:Nat,st=k:=⟨st.toNat,by omega⟩
  refine cL2 [0] (ZvJ s5 i st (by omega)) fun r h₂ hp=>?_
  (try simp only[Zd,Zc,Zf,Zb,Zh,Zs,Za hnt]at hp)
  obtain⟨t,s6,ht,rfl,rfl⟩:=hp
  refine wS ?_
  obtain⟨j,rfl⟩:∃j,i=j+1:=⟨i-1,by omega⟩
  refine⟨(j,s6,old++[t]),⟨by omega,by simp only[List.length_append,List.length_cons,List.length_nil];omega,hdl.snoc (st:=st) (by omega) (by rw[show(n:Int)-old.length=((j+1:Nat):Int) by omega];exact ht)⟩,by show j+0<j+1+0;omega,?_⟩
  (refine To.of [] ?_;cbv;(try simp only[nc]);(repeat' (first|exact trivial|exact ZH.refl _|exact ZR.refl _|refine⟨?_,?_⟩|refine ZR.cells ?_|refine ZH.agg ?_|refine ZH.tup ?_));(all_goals (first|exact XZ|skip)))
  all_goals trace_state
 ·simp only[decide_eq_false_iff_not]at hb
  have hlen:old.length=n:=by omega
  have hni:(n:Int)=old.length:=by omega
  have hl4:old.length≤4:=by omega
  have hlr:(old.length:Int)≤runs:=by omega
  have hzk:=ZmS hz (by decide)
  have hck:=Zh0 hzk hdl (by omega) (by omega)
  have hf:YK (Zs z old):=by
   have hc:=Zb8 hck
   exact⟨by have:=hc.zlen;omega,by have:=hc.olen;omega,by have:=hc.nlen;omega,fun z hz=>by have:=(ZbN (hc.zones z hz)).2.2.1;omega,⟨fun t ht=>by have:=(hc.old t ht).len;omega,fun t ht=>by have:=(hc.new t ht).len;omega⟩⟩
  apply ZqU (p:=∃j,j<old.length∧(QS (Zs z old) (Qw (Zs z old) j)).2=true) (fun(⟨s,z,old,rs,rows⟩:Int×Zone×List Train×List Sp.Qi×List (List Sp.Call))=>mkS 312 [(0,.ptr 0 0),(2,.int .i64 fun _=>waits),(3,.int .i64 fun _=>delays),(8,.ptr 1 0),(9,.ptr 3 0),(11,.isl 1 (fun _=>(rows.length:Int)) (fun e=>[.isl 3 (fun _=>((nt (List Sp.Call) [] rows (e ())).length:Int)) (fun e2=>Q1 (nt Sp.Call default (nt (List Sp.Call) [] rows (e ())) (e2 ()))) .none]) .none)])
   (fun⟨s,z,old,rs,rows⟩=>[XB s,.cells [.isl 0 (fun _=>0) (fun _=>[]) .nil,.isl 0 (fun _=>0) (fun _=>[]) .nil,.isl 0 (fun _=>0) (fun _=>[]) .nil,.int .i64 fun _=>0,.int .i64 fun _=>0,.isl 0 (fun _=>0) (fun _=>[]) .nil,.isl 0 (fun _=>0) (fun _=>[]) .nil,.isl 0 (fun _=>0) (fun _=>[]) .nil],.dead,.cells [.isl 2 (fun _=>1) (fun e=>encZone (nt Zone default [z] (e ()))) .none,.isl 3 (fun _=>(old.length:Int)) (fun e=>encTrain (nt Train default old (e ()))) .none,.isl 0 (fun _=>0) (fun _=>[]) .nil,.int .i64 fun _=>1,.int .i64 fun _=>0,.isl 2 (fun _=>(rs.length:Int)) (fun e=>Zh (nt Sp.Qi default rs (e ()))) .none,.isl 0 (fun _=>0) (fun _=>[]) .nil,.isl 0 (fun _=>0) (fun _=>[]) .nil]])
   (fun⟨s,z,old,rs,rows⟩=>RJ (Zs z old) rs rows∧(rs.length:Int)≤runs∧Zx z=0∧∃n,DL n old)
  ·intro hany M
   refine wS ?_
   refine ZS false false [] [0,2,3,8,9,11,12] [.tok 1 fun _=>0,.tok 2 fun _=>0] (fun(⟨i,runs,rows⟩:Nat×List Sp.Qi×List (List Sp.Call))=>[(11,.isl 1 (fun _=>(rows.length:Int)) (fun e=>Zb (nt (List Sp.Call) [] rows (e ()))) (.own 5)),(12,.int .i64 fun _=>i)])
    (fun⟨i,runs,rows⟩=>[(2,.dead),(3,.cells [.isl 2 (fun _=>1) (fun e=>encZone (nt Zone default [z] (e ()))) .none,.isl 3 (fun _=>(old.length:Int)) (fun e=>encTrain (nt Train default old (e ()))) .none,.isl 0 (fun _=>0) (fun _=>[]) .nil,.int .i64 fun _=>1,.int .i64 fun _=>0,.isl 2 (fun _=>(runs.length:Int)) (fun e=>Zh (nt Sp.Qi default runs (e ()))) (.own 6),.isl 0 (fun _=>0) (fun _=>[]) .nil,.isl 0 (fun _=>0) (fun _=>[]) .nil]),(5,.tok 1 fun _=>(rows.length:Int)),(6,.tok 2 fun _=>(runs.length:Int))])
    (fun⟨i,runs,rows⟩=>i≤old.length∧RL (Zs z old) i runs rows) (fun i=>old.length-i.1+0) (0,[],[]) ⟨Nat.zero_le _,.nil⟩ ?_ ?_
   ·refine(To.froze (id:=2) rfl).trans ((To.rsvC (id:=3) rfl).trans ?_)
    (refine To.of [(1,false),(2,false)] ?_;cbv;(try simp only[nc]);(repeat' (first|exact trivial|exact ZH.refl _|exact ZR.refl _|refine⟨?_,?_⟩|refine ZR.cells ?_|refine ZH.agg ?_|refine ZH.tup ?_));(all_goals (first|exact XZ|skip)))
    ·exact .deadF
    ·exact .none rfl fun _ _=>rfl
   rintro⟨i,runs,rows⟩ ⟨hi,hrl⟩
   refine wS ?_
   refine⟨fun hb=>?_,fun hb=>?_⟩
   ·simp only[decide_eq_true_eq]at hb
    have hD':Qw (Zs z old) i=⟨(nt Train default old i).number,0⟩:=by unfold Qw Zs;rw[hnt];rfl
    have hE:QS (Zs z old) (Qw (Zs z old) i)=QS ⟨[z],old,[],1,0⟩ ⟨(nt Train default old i).number,0⟩:=by rw[hD'];rfl
    have k:=Ztl ⟨[z],old,[],1,0⟩ ⟨(nt Train default old i).number,0⟩ hf
    generalize QS ⟨[z],old,[],1,0⟩ ⟨(nt Train default old i).number,0⟩=E at hE k
    refine wS ?_
    refine Ji (k) (by(try simp only[Zd,Zc,Zf,Zb,Zh,Zs,Za hnt]);exact ZK) (by first|rfl|(simp only[Zd,Zc,Zf,Zb,Zh,Zs,Za hnt];rfl)) fun r h₂ hp=>?_
    (try simp only[Zd,Zc,Zf,Zb,Zh,Zs,Za hnt]at hp)
    obtain⟨rfl,rfl⟩:=hp
    refine wS ?_
    refine⟨fun h9=>?_,fun h9=>?_⟩
    ·have hrlen:=hrl.len
     have hrle:=hrl.le
     refine wS ?_
     refine⟨(i+1,runs++[⟨(nt Train default old i).number,0⟩],rows++[E.1]),⟨by omega,by
      have:=hrl.snoc hdl (by show i<old.length;omega) (C:=E.1) (by rw[hE,←h9])
      rw[hD']at this
      exact this⟩,by show old.length-(i+1)+0<old.length-i+0;omega,?_⟩
     refine JO ?_
     exact .snoc hnt rfl (by simp) (by unfold Zb;rw[Za hnt];rfl)
    ·refine wS ?_
     refine⟨(i+1,runs,rows),⟨by omega,hrl.skip (by rw[hE,←h9])⟩,by show old.length-(i+1)+0<old.length-i+0;omega,?_⟩
     exact ZK
   ·simp only[decide_eq_false_iff_not]at hb
    have hpos:0<runs.length:=by
     obtain⟨j,hj1,hj2⟩:=hany
     exact hrl.some j (by omega) hj2
    refine wS ?_
    refine Br.isF (by simp only[beq_eq_false_iff_ne];omega) ?_
    refine wS ?_
    have hi':i=old.length:=by omega
    subst hi'
    have hrle:=hrl.le
    refine ZbC [0,2,3,8,9,11] 4 rfl rfl ?_ (M (s,z,old,runs,rows) ⟨hrl.ok hzk hdl hni hl4 hl4 hpos,by show(runs.length:Int)≤_;omega,hzk,_,hdl⟩)
    refine JO ?_
    exact .none rfl fun i hi=>by simp only[Zb,Za hnt]
  ·intro hno M
   refine wS ?_
   refine ZS false false [] [0,2,3,8,9,11,12] [] (fun(i:Nat)=>[(12,.int .i64 fun _=>i)]) (fun _=>[]) (fun i=>i≤old.length) (fun i=>old.length-i+0) 0 (Nat.zero_le _) ?_ ?_
   ·exact ZK
   intro i hi
   have hi:i≤old.length:=hi
   refine wS ?_
   refine⟨fun hb=>?_,fun hb=>?_⟩
   ·simp only[decide_eq_true_eq]at hb
    have hD':Qw (Zs z old) i=⟨(nt Train default old i).number,0⟩:=by unfold Qw Zs;rw[hnt];rfl
    have hE:(QS (Zs z old) ⟨(nt Train default old i).number,0⟩).2=false:=by
     rw[←hD',←Bool.not_eq_true]
     exact fun h=>hno ⟨i,by omega,h⟩
    refine wS ?_
    refine SC.lend0 (ZuL hnt z old _ hf hE) rfl fun r h₂ hp=>?_
    obtain⟨rfl,rfl⟩:=hp
    refine⟨rfl,rfl,?_⟩
    refine wS ?_
    refine Br.isF rfl ?_
    refine wS ?_
    refine⟨i+1,by show i+1≤_;omega,by show old.length-(i+1)+0<old.length-i+0;omega,?_⟩
    exact ZK
   ·simp only[decide_eq_false_iff_not]at hb
    refine wS ?_
    refine Br.isT rfl ?_
    refine wS ?_
    have hck0:=Zh0 (z:=⟨0,[]⟩) rfl hdl hni hl4
    have hf0:YK (Zs ⟨0,[]⟩ old):=⟨by simp[Zs],hf.old,hf.new,fun z hz=>by simp[Zs]at hz;subst hz;simp,hf.stops⟩
    have hone:=RL.one hck0 hdl (by omega)
    have hD':Qw (Zs ⟨0,[]⟩ old) 0=⟨(nt Train default old 0).number,0⟩:=by unfold Qw Zs;rw[hnt];rfl
    have hrl:=RL.snoc (C:=(QS (Zs ⟨0,[]⟩ old) (Qw (Zs ⟨0,[]⟩ old) 0)).1) hdl RL.nil (by show 0<old.length;omega) hone
    have hrj:=hrl.ok (z:=⟨0,[]⟩) rfl hdl hni hl4 (by omega) (by simp)
    have k:=Ztl (Zs ⟨0,[]⟩ old) (Qw (Zs ⟨0,[]⟩ old) 0) hf0
    rw[hD']at k hrj hone
    rw[show(QS (Zs ⟨0,[]⟩ old) ⟨(nt Train default old 0).number,0⟩).2=true by rw[hone]]at k
    generalize (QS (Zs ⟨0,[]⟩ old) ⟨(nt Train default old 0).number,0⟩).1=C at hrj k
    refine ZbC [0,2,3,8,9] 4 rfl rfl (s₂:=mkS 312 [(0,.ptr 0 0),(2,.int .i64 fun _=>waits),(3,.int .i64 fun _=>delays),(8,.ptr 1 0),(9,.ptr 3 0)]) (h₂:=[XB s,.cells [.isl 0 (fun _=>0) (fun _=>[]) .nil,.isl 0 (fun _=>0) (fun _=>[]) .nil,.isl 0 (fun _=>0) (fun _=>[]) .nil,.int .i64 fun _=>0,.int .i64 fun _=>0,.isl 0 (fun _=>0) (fun _=>[]) .nil,.isl 0 (fun _=>0) (fun _=>[]) .nil,.isl 0 (fun _=>0) (fun _=>[]) .nil],.dead,.cells [.isl 2 (fun _=>1) (fun e=>encZone (nt Zone default [⟨0,[]⟩] (e ()))) .none,.isl 3 (fun _=>(old.length:Int)) (fun e=>encTrain (nt Train default old (e ()))) .none,.isl 0 (fun _=>0) (fun _=>[]) .nil,.int .i64 fun _=>1,.int .i64 fun _=>0,.isl 2 (fun _=>1) (fun e=>Zh (nt Sp.Qi default [⟨(nt Train default old 0).number,0⟩] (e ()))) .none,.isl 0 (fun _=>0) (fun _=>[]) .nil,.isl 0 (fun _=>0) (fun _=>[]) .nil]]) ((To.froze (id:=2) rfl).trans ((To.rsvC (id:=3) rfl).trans ?_)) ?_
    ·(refine To.of [] ?_;cbv;(try simp only[nc]);(repeat' (first|exact trivial|exact ZH.refl _|exact ZR.refl _|refine⟨?_,?_⟩|refine ZR.cells ?_|refine ZH.agg ?_|refine ZH.tup ?_));(all_goals (first|exact XZ|skip)))
     ·exact .deadF
     ·refine .gd rfl (.elems rfl fun i hi=>?_)
      match i,hi with
      |0,_=>(simp only[hnt]);exact Jb.two fun w ok v h=>h.wk rfl (fun j hj=>by have hj:(j:Int)<0:=hj;omega) (.inl rfl)
     ·refine .none rfl fun i hi=>?_
      match i,hi with
      |0,_=>(simp only[hnt]);rfl
    refine Zej false false [] [21] false ?_
    simp only[Zc,Zh,Zs,Za hnt]at k
    refine wS ?_
    have e0:nt Sp.Qi default [⟨(nt Train default old 0).number,0⟩] 0=⟨(nt Train default old 0).number,0⟩:=by rw[hnt];rfl
    refine Ji k (by((refine To.of [] ?_;cbv;(try simp only[nc]);(repeat' (first|exact trivial|exact ZH.refl _|exact ZR.refl _|refine⟨?_,?_⟩|refine ZR.cells ?_|refine ZH.agg ?_|refine ZH.tup ?_));(all_goals (first|exact XZ|skip)));all_goals exact .int (by simp only[e0]))) rfl fun r h₂ hp=>?_
    obtain⟨rfl,rfl⟩:=hp
    refine wS ?_
    refine ZbC [0,2,3,8,9,11] 4 rfl rfl ?_ (M (s,⟨0,[]⟩,old,[⟨(nt Train default old 0).number,0⟩],[C]) ⟨hrj,by show((1:Nat):Int)≤_;omega,rfl,_,hdl⟩)
    refine JO ?_
    refine .none rfl fun i hi=>?_
    match i,hi with
    |0,_=>(simp only[hnt]);rfl
  ·intro s z old rs rows hj
   have hrj:=hj.1
   have hrs:=hj.2.1
   have hbk:(∃z' old' n,Zs z old=Zs z' old'∧Zx z'=0∧DL n old')∧∀k,k<rs.length→∃j,j<old.length∧rs.getD k default=Qw (Zs z old) j:=⟨⟨z,old,hj.2.2.2.choose,rfl,hj.2.2.1,hj.2.2.2.choose_spec⟩,hrj.from_⟩
   have hrpos:=hrj.pos
   have hrlen:=hrj.len
   clear hj
   have hrow:∀f:Int,0≤f→f<rows.length→ZjE (nt (List Sp.Call) [] rows f):=fun f h1 h2=>by rw[hnt];exact hrj.row _ (Zki (by omega))
   refine Zej false false [] [] false ?_
   refine wS ?_
   refine ZhP false false [] [0,2,3,8,9,11,18] [.tok 4 fun _=>0] (fun(⟨i,s,ws⟩:Nat×Int×List Sp.ZM)=>[(18,.int .i64 fun _=>i)])
    (fun⟨i,s,ws⟩=>[(0,XB s),(3,.cells [.isl 2 (fun _=>1) (fun e=>encZone (nt Zone default [z] (e ()))) .none,.isl 3 (fun _=>(old.length:Int)) (fun e=>encTrain (nt Train default old (e ()))) .none,.isl 0 (fun _=>0) (fun _=>[]) .nil,.int .i64 fun _=>1,.int .i64 fun _=>0,.isl 2 (fun _=>(rs.length:Int)) (fun e=>Zh (nt Sp.Qi default rs (e ()))) .none,.isl 4 (fun _=>(ws.length:Int)) (fun e=>QR (nt Sp.ZM default ws (e ()))) (.own 4),.isl 0 (fun _=>0) (fun _=>[]) .nil]),(4,.tok 4 fun _=>(ws.length:Int))])
    (fun⟨i,s,ws⟩=>i≤N∧LOk (Qt rows) ws∧(ws.length:Int)≤waits) (fun i=>i.1+0) (N,s,[]) ⟨Nat.le_refl _,.nil,by simp;omega⟩ ?_ ?_
   ·(refine To.of [(4,false)] ?_;cbv;(try simp only[nc]);(repeat' (first|exact trivial|exact ZH.refl _|exact ZR.refl _|refine⟨?_,?_⟩|refine ZR.cells ?_|refine ZH.agg ?_|refine ZH.tup ?_));(all_goals (first|exact XZ|skip)))
    exact .int hN.symm
   intro i s ws hq
   have hi:i≤N:=hq.1
   have hok:LOk (Qt rows) ws:=hq.2.1
   have hwl:(ws.length:Int)≤waits:=hq.2.2
   clear hq
   refine wS ?_
   refine⟨fun hb=>?_,fun hb=>?_⟩
   ·have hb1:0<i∧(ws.length:Int)<waits:=by
     by_cases h0:(0:Int)<i<;>simp[h0]at hb<;>omega
    refine wS ?_
    refine cL2 [0] (c17 s ((rows.length:Int)-1) (by omega)) fun r h₂ hp=>?_
    (try simp only[Zd,Zc,Zf,Zb,Zh,Zs,Za hnt]at hp)
    obtain⟨fe,s5,hfe,rfl,rfl⟩:=hp
    refine wS ?_
    refine cL2 [0] (c17 s5 ((rows.length:Int)-1) (by omega)) fun r h₂ hp=>?_
    (try simp only[Zd,Zc,Zf,Zb,Zh,Zs,Za hnt]at hp)
    obtain⟨tr,s6,htr,rfl,rfl⟩:=hp
    refine wS ?_
    have hfr:=hrow fe (by omega) (by omega)
    have htr2:=hrow tr (by omega) (by omega)
    have hfl:=hfr.len
    have htl:=htr2.len
    refine cL2 [0] (c17 s6 20 (by omega)) fun r h₂ hp=>?_
    (try simp only[Zd,Zc,Zf,Zb,Zh,Zs,Za hnt]at hp)
    obtain⟨m1,s7,hm1,rfl,rfl⟩:=hp
    refine wS ?_
    refine cL2 [0] (c17 s7 60 (by omega)) fun r h₂ hp=>?_
    (try simp only[Zd,Zc,Zf,Zb,Zh,Zs,Za hnt]at hp)
    obtain⟨m2,s8,hm2,rfl,rfl⟩:=hp
    refine wS ?_
    refine cL2 [0] (Zjm s8 [0,m1,m2] (by simp)) fun r h₂ hp=>?_
    (try simp only[Zd,Zc,Zf,Zb,Zh,Zs,Za hnt]at hp)
    obtain⟨mi,s9,hmi,rfl,rfl⟩:=hp
    have hmi:0≤mi∧mi≤60:=by simp at hmi;omega
    refine wS ?_
    refine⟨?_,?_⟩
    all_goals
     (try refine wS ?_)
     refine cL2 [0] (c22 s9 1 (((nt (List Sp.Call) [] rows fe).length:Int)-1) (by omega) (by omega)) fun r h₂ hp=>?_
     (try simp only[Zd,Zc,Zf,Zb,Zh,Zs,Za hnt]at hp)
     obtain⟨x,s10,hx,rfl,rfl⟩:=hp
     refine wS ?_
     refine ZhP false false [] [0,2,3,8,9,11,18,19,20,21] [] (fun(⟨j,ws,u⟩:Nat×List Sp.ZM×Unit)=>[(21,.int .i64 fun _=>j)])
      (fun⟨j,ws,u⟩=>[(3,.cells [.isl 2 (fun _=>1) (fun e=>encZone (nt Zone default [z] (e ()))) .none,.isl 3 (fun _=>(old.length:Int)) (fun e=>encTrain (nt Train default old (e ()))) .none,.isl 0 (fun _=>0) (fun _=>[]) .nil,.int .i64 fun _=>1,.int .i64 fun _=>0,.isl 2 (fun _=>(rs.length:Int)) (fun e=>Zh (nt Sp.Qi default rs (e ()))) .none,.isl 4 (fun _=>(ws.length:Int)) (fun e=>QR (nt Sp.ZM default ws (e ()))) (.own 4),.isl 0 (fun _=>0) (fun _=>[]) .nil]),(4,.tok 4 fun _=>(ws.length:Int))])
      (fun⟨j,ws,u⟩=>LOk (Qt rows) ws∧(ws.length:Int)≤waits∧((ws.length:Int)<waits∨(ws.any fun q=>decide (q.feeder=fe∧q.train=tr∧q.station=(nt Sp.Call default (nt (List Sp.Call) [] rows fe) x).station))=true)) (fun q=>(nt (List Sp.Call) [] rows tr).length-q.1+0) (0,ws,()) ⟨hok,hwl,.inl hb1.2⟩ ?_ ?_
     ·exact ZK
     intro j ws2 u hq2
     have hok2:LOk (Qt rows) ws2:=hq2.1
     have hwl2:(ws2.length:Int)≤waits:=hq2.2.1
     have hor2:=hq2.2.2
     clear hq2
     refine wS ?_
     refine⟨fun hb2=>?_,fun hb2=>?_⟩
     ·have hj2:(j:Int)<((nt (List Sp.Call) [] rows tr).length:Int)-1∧fe≠tr:=by
       by_cases h0:(j:Int)<((nt (List Sp.Call) [] rows tr).length:Int)-1<;>simp[h0]at hb2<;>exact⟨h0,hb2⟩
      refine wS ?_
      generalize hc7:(bif (nt Sp.Call default (nt (List Sp.Call) [] rows tr) (j:Int)).station==(nt Sp.Call default (nt (List Sp.Call) [] rows fe) x).station then decide ((nt Sp.Call default (nt (List Sp.Call) [] rows fe) x).arrive≤(nt Sp.Call default (nt (List Sp.Call) [] rows tr) (j:Int)).depart)else false)=c7
      refine⟨fun h7=>?_,fun h7=>?_⟩
      ·subst h7
       have h8:(nt Sp.Call default (nt (List Sp.Call) [] rows tr) (j:Int)).station=(nt Sp.Call default (nt (List Sp.Call) [] rows fe) x).station∧(nt Sp.Call default (nt (List Sp.Call) [] rows fe) x).arrive≤(nt Sp.Call default (nt (List Sp.Call) [] rows tr) (j:Int)).depart:=by
        by_cases h0:(nt Sp.Call default (nt (List Sp.Call) [] rows tr) (j:Int)).station=(nt Sp.Call default (nt (List Sp.Call) [] rows fe) x).station
        ·simp only[h0,beq_self_eq_true,cond_true,decide_eq_true_eq]at hc7
         exact⟨h0,hc7⟩
        ·have h1:((nt Sp.Call default (nt (List Sp.Call) [] rows tr) (j:Int)).station==(nt Sp.Call default (nt (List Sp.Call) [] rows fe) x).station)=false:=by simpa using h0
         rw[h1]at hc7
         cases hc7
       clear hc7
       have k:=ZvI ws2 ⟨fe,tr,(nt Sp.Call default (nt (List Sp.Call) [] rows fe) x).station,mi⟩ (by omega)
       dsimp only at k
       generalize hE:(ws2.any fun q=>decide (q.feeder=fe∧q.train=tr∧q.station=(nt Sp.Call default (nt (List Sp.Call) [] rows fe) x).station))=E at k
       simp only[Za hnt]at k
       refine wS ?_
       refine Ji k (by((refine To.of [] ?_;cbv;(try simp only[nc]);(repeat' (first|exact trivial|exact ZH.refl _|exact ZR.refl _|refine⟨?_,?_⟩|refine ZR.cells ?_|refine ZH.agg ?_|refine ZH.tup ?_));(all_goals (first|exact XZ|skip)));all_goals exact .none rfl fun _ _=>rfl)) rfl fun r h₂ hp=>?_
       obtain⟨rfl,rfl⟩:=hp
       refine wS ?_
       refine⟨fun h9=>?_,fun h9=>?_⟩
       ·have h9:E=false:=by
         cases E
         ·rfl
         ·cases h9
        have hlt:(ws2.length:Int)<waits:=by
         rcases hor2 with h|h
         ·exact h
         ·rw[hE,h9]at h;cases h
        have hx1:1≤x.toNat∧x.toNat<(Sp.Zj rows fe).length:=by have h1:=hx;have h2:=hfl;simp only[hnt]at h1 h2;unfold Sp.Zj;omega
        have hx2:j+1<(Sp.Zj rows tr).length:=by have:=hj2.1;simp only[hnt]at this;unfold Sp.Zj;omega
        have hw9:Qt rows ⟨fe,tr,(nt Sp.Call default (nt (List Sp.Call) [] rows fe) x).station,mi⟩ ws2=0:=ZpR (w:=⟨fe,tr,(nt Sp.Call default (nt (List Sp.Call) [] rows fe) x).station,mi⟩) hrj.row (i:=x.toNat) (k:=j) ⟨hfe.1,by dsimp only;omega⟩ ⟨htr.1,by dsimp only;omega⟩ hj2.2 hx1 hx2 (by simp only[hnt];rfl) (by have:=h8.1;simp only[hnt,Int.toNat_natCast]at this⊢;exact this) (by have:=h8.2;simp only[hnt,Int.toNat_natCast]at this⊢;exact this) hmi (by dsimp only;rw[hE,h9])
        have hok3:=hok2.snoc hw9
        have hl9:((ws2++[(⟨fe,tr,(nt Sp.Call default (nt (List Sp.Call) [] rows fe) x).station,mi⟩:Sp.ZM)]).length:Int)≤waits:=by rw[List.length_append,List.length_singleton];omega
        have ha9:((ws2++[(⟨fe,tr,(nt Sp.Call default (nt (List Sp.Call) [] rows fe) x).station,mi⟩:Sp.ZM)]).any fun q=>decide (q.feeder=fe∧q.train=tr∧q.station=(nt Sp.Call default (nt (List Sp.Call) [] rows fe) x).station))=true:=by rw[List.any_append];simp
        refine wS ?_
        refine⟨(j+1,ws2++[⟨fe,tr,(nt Sp.Call default (nt (List Sp.Call) [] rows fe) x).station,mi⟩],()),⟨hok3,hl9,.inr ha9⟩,by show(nt (List Sp.Call) [] rows tr).length-(j+1)+0<(nt (List Sp.Call) [] rows tr).length-j+0;omega,?_⟩
        exact ZK
       ·refine wS ?_
        refine⟨(j+1,ws2,()),⟨hok2,hwl2,hor2⟩,by show(nt (List Sp.Call) [] rows tr).length-(j+1)+0<(nt (List Sp.Call) [] rows tr).length-j+0;omega,?_⟩
        exact ZK
      ·subst h7
       clear hc7
       refine wS ?_
       refine Br.isF rfl ?_
       refine wS ?_
       refine⟨(j+1,ws2,()),⟨hok2,hwl2,hor2⟩,by show(nt (List Sp.Call) [] rows tr).length-(j+1)+0<(nt (List Sp.Call) [] rows tr).length-j+0;omega,?_⟩
       exact ZK
     ·refine wS ?_
      obtain⟨k,rfl⟩:∃k,i=k+1:=⟨i-1,by omega⟩
      refine⟨(k,s10,ws2),⟨by omega,hok2,hwl2⟩,by show k+0<k+1+0;omega,?_⟩
      exact ZK
   ·refine wS ?_
    obtain⟨D,hD⟩:∃D:Nat,(D:Int)=delays:=⟨delays.toNat,by omega⟩
    refine ZhP false false [] [0,8,9,11,23] [.tok 3 fun _=>0] (fun(⟨i,s,ds⟩:Nat×Int×List Sp.Qj)=>[(23,.int .i64 fun _=>i)])
     (fun⟨i,s,ds⟩=>[(0,XB s),(3,.cells [.isl 2 (fun _=>1) (fun e=>encZone (nt Zone default [z] (e ()))) .none,.isl 3 (fun _=>(old.length:Int)) (fun e=>encTrain (nt Train default old (e ()))) .none,.isl 0 (fun _=>0) (fun _=>[]) .nil,.int .i64 fun _=>1,.int .i64 fun _=>0,.isl 2 (fun _=>(rs.length:Int)) (fun e=>Zh (nt Sp.Qi default rs (e ()))) .none,.isl 4 (fun _=>(ws.length:Int)) (fun e=>QR (nt Sp.ZM default ws (e ()))) (.own 4),.isl 3 (fun _=>(ds.length:Int)) (fun e=>ZB (nt Sp.Qj default ds (e ()))) (.own 5)]),(5,.tok 3 fun _=>(ds.length:Int))])
     (fun⟨i,s,ds⟩=>i≤D∧LOk (QJ rows) ds∧ds.length+i≤D) (fun i=>i.1+0) (D,s,[]) ⟨Nat.le_refl _,.nil,by simp⟩ ?_ ?_
    ·(refine To.of [(3,false)] ?_;cbv;(try simp only[nc]);(repeat' (first|exact trivial|exact ZH.refl _|exact ZR.refl _|refine⟨?_,?_⟩|refine ZR.cells ?_|refine ZH.agg ?_|refine ZH.tup ?_));(all_goals (first|exact XZ|skip)))
     exact .int hD.symm
    intro i s ds hq
    have hi2:i≤D:=hq.1
    have hdk:LOk (QJ rows) ds:=hq.2.1
    have hdl2:ds.length+i≤D:=hq.2.2
    clear hq
    refine wS ?_
    refine⟨fun hb3=>?_,fun hb3=>?_⟩
    ·simp only[decide_eq_true_eq]at hb3
     refine wS ?_
     refine cL2 [0] (c17 s ((rows.length:Int)-1) (by omega)) fun r h₂ hp=>?_
     (try simp only[Zd,Zc,Zf,Zb,Zh,Zs,Za hnt]at hp)
     obtain⟨r,s5,hr5,rfl,rfl⟩:=hp
     have hrr:=hrow r (by omega) (by omega)
     have hrl:=hrr.len
     refine wS ?_
     refine cL2 [0] (c17 s5 (((nt (List Sp.Call) [] rows r).length:Int)-2) (by omega)) fun r h₂ hp=>?_
     (try simp only[Zd,Zc,Zf,Zb,Zh,Zs,Za hnt]at hp)
     obtain⟨lg,s6,hlg,rfl,rfl⟩:=hp
     refine wS ?_
     refine cL2 [0] (c17 s6 10 (by omega)) fun r h₂ hp=>?_
     (try simp only[Zd,Zc,Zf,Zb,Zh,Zs,Za hnt]at hp)
     obtain⟨n0,s7,hn0,rfl,rfl⟩:=hp
     refine wS ?_
     refine cL2 [0] (Zjm s7 [0,0,n0] (by simp)) fun r h₂ hp=>?_
     (try simp only[Zd,Zc,Zf,Zb,Zh,Zs,Za hnt]at hp)
     obtain⟨nn,s8,hnn,rfl,rfl⟩:=hp
     have hnn:0≤nn∧nn≤10:=by simp at hnn;omega
     refine wS ?_
     refine cL2 [0] (c22 s8 1 3 (by omega) (by omega)) fun r h₂ hp=>?_
     (try simp only[Zd,Zc,Zf,Zb,Zh,Zs,Za hnt]at hp)
     obtain⟨kk,s9,hkk,rfl,rfl⟩:=hp
     refine wS ?_
     obtain⟨kk,rfl⟩:∃q:Nat,kk=q:=⟨kk.toNat,by omega⟩
     refine Zs4 false false [] [0,8,9,11,23,24,25,26] [.tok 1 fun _=>0] (fun(⟨k,n,s,b⟩:Nat×Int×Int×List Int)=>[(25,.int .i64 fun _=>n),(26,.int .i64 fun _=>k)])
      (fun⟨k,n,s,b⟩=>[(0,XB s),(6,.cells [.int .i64 fun _=>r,.int .i64 fun _=>lg,.isl 1 (fun _=>(b.length:Int)) (fun e=>XJ (nt Int 0 b (e ()))) (.own 7)]),(7,.tok 1 fun _=>(b.length:Int))])
      (fun⟨k,n,s,b⟩=>b.length+k=kk∧ByL b n) (fun q=>q.1+0) (kk,nn,s9,[]) ⟨by simp,.nil hnn⟩ ?_ ?_
     ·(refine To.of [(1,false)] ?_;cbv;(try simp only[nc]);(repeat' (first|exact trivial|exact ZH.refl _|exact ZR.refl _|refine⟨?_,?_⟩|refine ZR.cells ?_|refine ZH.agg ?_|refine ZH.tup ?_));(all_goals (first|exact XZ|skip)))
     intro k n s b hq3
     have hbk:b.length+k=kk:=hq3.1
     have hbl:ByL b n:=hq3.2
     clear hq3
     refine wS ?_
     refine⟨fun hb4=>?_,fun hb4=>?_⟩
     ·simp only[decide_eq_true_eq]at hb4
      have hbd:=hbl.bd
      refine wS ?_
      refine cL2 [0] (c22 s 1 60 (by omega) (by omega)) fun r h₂ hp=>?_
      (try simp only[Zd,Zc,Zf,Zb,Zh,Zs,Za hnt]at hp)
      obtain⟨y,s10,hy,rfl,rfl⟩:=hp
      refine wS ?_
      refine cL2 [0] (Zjm s10 [5,10,20,y] (by simp)) fun r h₂ hp=>?_
      (try simp only[Zd,Zc,Zf,Zb,Zh,Zs,Za hnt]at hp)
      obtain⟨y2,s11,hy2,rfl,rfl⟩:=hp
      have hy2:1≤y2∧y2≤60:=by simp at hy2;omega
      refine wS ?_
      obtain⟨k,rfl⟩:∃q,k=q+1:=⟨k-1,by omega⟩
      refine⟨(k,n+y2,s11,b++[n]),⟨by simp only[List.length_append,List.length_cons,List.length_nil];omega,hbl.snoc (by omega) hy2⟩,by show k+0<k+1+0;omega,?_⟩
      exact ZK
     ·simp only[decide_eq_false_iff_not]at hb4
      refine wS ?_
      have hbk:b.length=kk:=by omega
      refine ZhP false false [] [0,8,9,11,23,24,27,28] [] (fun(⟨k,M,u⟩:Nat×Bool×Unit)=>[(27,.bool fun _=>M),(28,.int .i64 fun _=>k)])
       (fun⟨k,M,u⟩=>[(6,.cells [.int .i64 fun _=>r,.int .i64 fun _=>lg,.isl 1 (fun _=>(b.length:Int)) (fun e=>XJ (nt Int 0 b (e ()))) .none])])
       (fun⟨k,M,u⟩=>k≤ds.length∧M=(ds.take k).any fun q=>decide (q.run=r∧q.leg=lg)) (fun q=>ds.length-q.1+0) (0,false,()) ⟨Nat.zero_le _,rfl⟩ ?_ ?_
      ·(refine To.of [] ?_;cbv;(try simp only[nc]);(repeat' (first|exact trivial|exact ZH.refl _|exact ZR.refl _|refine⟨?_,?_⟩|refine ZR.cells ?_|refine ZH.agg ?_|refine ZH.tup ?_));(all_goals (first|exact XZ|skip)))
       all_goals exact .none rfl fun _ _=>rfl
      intro k M u hq4
      have hkd:k≤ds.length:=hq4.1
      have hM:M=(ds.take k).any fun q=>decide (q.run=r∧q.leg=lg):=hq4.2
      clear hq4
      refine wS ?_
      refine⟨fun hb5=>?_,fun hb5=>?_⟩
      ·simp only[decide_eq_true_eq]at hb5
       have hst:=ZmG (p:=fun q:Sp.Qj=>decide (q.run=r∧q.leg=lg)) (d:=default) (l:=ds) (k:=k) (by omega)
       have hsr:decide ((ds.getD k default).run=r∧(ds.getD k default).leg=lg)=(bif (ds.getD k default).run==r then(ds.getD k default).leg==lg else false):=Zrv _ _ _ _
       have hn1:ds.getD k default=nt Sp.Qj default ds (k:Int):=by rw[hnt];rfl
       rw[hn1]at hsr hst
       rw[←hM]at hst
       cases M
       ·refine wS ?_
        refine⟨(k+1,(bif (nt Sp.Qj default ds (k:Int)).run==r then(nt Sp.Qj default ds (k:Int)).leg==lg else false),()),⟨by omega,by rw[hst];exact hsr.symm⟩,by show ds.length-(k+1)+0<ds.length-k+0;omega,?_⟩
        exact ZK
       ·refine wS ?_
        refine⟨(k+1,true,()),⟨by omega,by rw[hst];rfl⟩,by show ds.length-(k+1)+0<ds.length-k+0;omega,?_⟩
        exact ZK
      ·simp only[decide_eq_false_iff_not]at hb5
       have hM:M=ds.any fun q=>decide (q.run=r∧q.leg=lg):=by rw[hM,List.take_of_length_le (by omega)]
       refine wS ?_
       obtain⟨i,rfl⟩:∃q,i=q+1:=⟨i-1,by omega⟩
       refine⟨fun hb6=>?_,fun hb6=>?_⟩
       ·have hb6:M=false:=by
         cases M
         ·rfl
         ·cases hb6
        rw[hb6]at hM
        have hok9:QJ rows ⟨r,lg,b⟩ ds=0:=Zpe (d:=⟨r,lg,b⟩) ⟨hr5.1,by dsimp only;omega⟩ ⟨hlg.1,by have h1:=hlg.2;have h2:=hrl;simp only[hnt]at h1 h2;unfold Sp.Zj;dsimp only;omega⟩ ⟨by dsimp only;omega,by dsimp only;omega⟩ hbl.rng hbl.asc hM.symm
        have hok10:=hdk.snoc hok9
        have hl10:(ds++[(⟨r,lg,b⟩:Sp.Qj)]).length+i≤D:=by rw[List.length_append,List.length_singleton];omega
        refine wS ?_
        refine⟨(i,s,ds++[⟨r,lg,b⟩]),⟨by omega,hok10,hl10⟩,by show i+0<i+1+0;omega,?_⟩
        refine JO ?_
        exact .snoc hnt rfl (by simp) (by unfold ZB;rw[Za hnt];rfl)
       ·refine wS ?_
        refine⟨(i,s,ds),⟨by omega,hdk,by show ds.length+i≤D;omega⟩,by show i+0<i+1+0;omega,?_⟩
        exact ZK
    ·refine wS ?_
     have hbg:Zl ⟨Zs z old,rs,ws,ds⟩=0:=Zjr hrj.check (hrj.err ws ds) (by show ws.length≤4;omega) (by rw[hrj.calls];exact hok) (by show ds.length≤6;omega) (by rw[hrj.calls];exact hdk)
     refine⟨Zf ⟨Zs z old,rs,ws,ds⟩,[XB s],?_,⟨Zs z old,rs,ws,ds⟩,s,⟨⟨hbg,by rw[hrj.calls];exact hrj.row,hbk.1,hbk.2⟩,hrs,hwl,by show(ds.length:Int)≤delays;omega⟩,rfl,rfl⟩
     unfold Zf Zs
     simp only[Za hnt]
     (refine To.of [] ?_;cbv;(try simp only[nc]);(repeat' (first|exact trivial|exact ZH.refl _|exact ZR.refl _|refine⟨?_,?_⟩|refine ZR.cells ?_|refine ZH.agg ?_|refine ZH.tup ?_));(all_goals (first|exact XZ|skip)))
     all_goals exact .none rfl fun _ _=>rfl
set_option maxHeartbeats 4000000
theorem ZkN (st a d:Int):SC (fun _=>Tryz.prog) 126 [.int .i64 fun _=>st,.int .i64 fun _=>a,.int .i64 fun _=>d] [] fun v h=>v= .agg (Qz (Zc3 st a d))∧h=[]:=by
 unfold Qz Zc3
 refine SC.less (Qv Tryz.func126 (body:=Zk Tryz.f126) rfl (by decide+kernel) ?_)
 refine wS ?_
 refine⟨_,[],?_,rfl,rfl⟩
 exact ZK
theorem Ztm (a b:Int):SC (fun _=>Tryz.prog) 64 [.int .i64 fun _=>a,.int .i64 fun _=>b] [] fun v h=>v= .agg (YL ⟨a,b⟩)∧h=[]:=by
 unfold YL
 refine SC.less (Qv Tryz.func64 (body:=Zk Tryz.f64) rfl (by decide+kernel) ?_)
 refine wS ?_
 refine⟨_,[],?_,rfl,rfl⟩
 exact ZK
theorem ZuN:SC (fun _=>Tryz.prog) 70 [] [] fun v h=>v=XV Zi2∧h=[]:=by
 obtain⟨nt,hnt⟩:=Zu
 unfold XV
 simp only[Za hnt]
 refine SC.less (Qv Tryz.func70 (body:=Zk Tryz.f70) rfl (by decide+kernel) ?_)
 refine wS ?_
 refine⟨_,[],?_,rfl,rfl⟩
 exact ZK
theorem ZvK:SC (fun _=>Tryz.prog) 71 [] [] fun v h=>v=XV Zmj∧h=[]:=by
 obtain⟨nt,hnt⟩:=Zu
 have k:=ZuN
 have h2:Zmj.steps=Zi2.steps.take 2:=rfl
 have e:XV Zmj= .agg [.int .i64 fun _=>0,.int .i64 fun _=>0,.int .i64 fun _=>3,lst 3 XR default (Zi2.steps.take 2)]:=rfl
 rw[e]
 unfold XV at k
 simp only[Za hnt]at k⊢
 have hlen:Zi2.steps.length=3:=rfl
 generalize Zi2.steps=S at*
 refine SC.less (Qv Tryz.func71 (body:=Zk Tryz.f71) rfl (by decide+kernel) ?_)
 refine wS ?_
 refine ZY (k) (by first|rfl|(simp only[Zd,Zc,Zf,Zb,Za hnt];rfl)) fun r h₂ hp=>?_
 (try simp only[Zd,Zc,Zf,Zb,Za hnt]at hp)
 obtain⟨rfl,rfl⟩:=hp
 refine wS ?_
 refine⟨_,[],?_,rfl,rfl⟩
 refine JO ?_
 refine .isl (by show(2:Int)=((S.take 2).length:Int);rw[List.length_take,hlen];rfl) fun i hi=>?_
 have hi:(i:Int)<2:=hi
 show XR (nt Sp.Step default S (i:Int))=XR (nt Sp.Step default (S.take 2) (i:Int))
 rw[hnt,hnt,Int.toNat_natCast,List.getD_eq_getElem?_getD,List.getD_eq_getElem?_getD,List.getElem?_take,if_pos (by omega)]
theorem Zth (t:Ze) (hf:ZJ t) (B0 B1 B2 B3 B4 B5 B6:Nat→Zi) (stop:Nat→Bool)
  (hs:∀i X,sel true [0,1,2,3,4,5,6] [B0 i,B1 i,B2 i,B3 i,B4 i,B5 i,B6 i,X]=[B0 i,B1 i,B2 i,B3 i,B4 i,B5 i,B6 i])
  (hs6:∀i (f0 f1 f2 f3 f4 f5:Unit→Int),sel true [0,1,2,3,4,5,6,7] [B0 i,B1 i,B2 i,B3 i,B4 i,B5 i,B6 i,.cells [.int .i64 f0,.int .i64 f1,.int .i64 f2,.int .i64 f3,.int .i64 f4,.int .i64 f5]]=[B0 i,B1 i,B2 i,B3 i,B4 i,B5 i,B6 i,.cells [.int .i64 f0,.int .i64 f1,.int .i64 f2,.int .i64 f3,.int .i64 f4,.int .i64 f5]])
  (hfr:∀i X,sel false [0,1,2,3,4,5,6] [B0 i,B1 i,B2 i,B3 i,B4 i,B5 i,B6 i,X]=[B0 i,B1 i,B2 i,B3 i,B4 i,B5 i,B6 i])
  (hbk:∀i j X,back [0,1,2,3,4,5,6] [B0 i,B1 i,B2 i,B3 i,B4 i,B5 i,B6 i,X] [B0 j,B1 j,B2 j,B3 j,B4 j,B5 j,B6 j]=[B0 j,B1 j,B2 j,B3 j,B4 j,B5 j,B6 j,X])
  (hy:∀i,i<Z7 t→(∀j,j<i→stop j=false)→YC (fun _=>Tryz.prog) 6 [.agg (X2 (Zm t i))] [B0 i,B1 i,B2 i,B3 i,B4 i,B5 i,B6 i] fun v h=>v= .bool (fun _=> !stop i)∧h=[B0 (i+1),B1 (i+1),B2 (i+1),B3 (i+1),B4 (i+1),B5 (i+1),B6 (i+1)])
  (hB:zOk [B0 0,B1 0,B2 0,B3 0,B4 0,B5 0,B6 0]=true:=by rfl):
  SC (fun _=>Tryz.prog) 176 [.yld 6,X0 t] [B0 0,B1 0,B2 0,B3 0,B4 0,B5 0,B6 0] fun v h=>∃m,EndAt stop (Z7 t) m∧h=[B0 m,B1 m,B2 m,B3 m,B4 m,B5 m,B6 m]:=by
 obtain⟨nt,hnt⟩:=Zu
 have hfit:=Yj hf
 have hnext:=fun n=> @ZcL t hf n
 have hmany:=ZiM hf
 have hd6:=hf.dlen
 have hd0:=ZcK hf
 have hlen3:∀k,k<t.delays.length→lenAt t.delays k≤3:=fun k h=>by
  unfold lenAt
  rw[List.getD_eq_getElem?_getD,List.getElem?_eq_getElem h]
  exact(hf.d _ (List.getElem_mem h)).2.1
 have hnd:∀k:Nat,(nt Sp.Qj default t.delays (k:Int)).by_.length=lenAt t.delays k:=fun k=>by rw[hnt];rfl
 have hbd:∀n k,0≤(Zm t n).getD k 0∧(Zm t n).getD k 0≤3:=fun n k=>by
  by_cases h:k<t.delays.length
  ·have h1:=(hfit n).d k h
   have h2:=hlen3 k h
   unfold lenAt at h2
   omega
  ·have:=Zav (ds:=t.delays) t.delays.length n k (by omega)
   unfold Zm
   omega
 generalize Z7 t=N at*
 generalize Zm t=TA at*
 unfold X0 ZX
 simp only[Za hnt,Zb,ZB]
 refine Qv Tryz.func176 (body:=Zk Tryz.f176) rfl (by decide+kernel) ?_ hB
 refine wS ?_
 refine ZS false false [] [0,1,3] [] (fun(i:Nat)=>[]) (fun i=>[(0,B0 i),(1,B1 i),(2,B2 i),(3,B3 i),(4,B4 i),(5,B5 i),(6,B6 i),(7,.cells (X2 (TA i)))]) (fun i=>i<N∧∀j,j<i→stop j=false) (fun i=>N-i+0) 0 ⟨by omega,fun j h=>by omega⟩ ?_ ?_
 ·unfold X2
  rw[hd0]
  have hs':=hs6 0 (fun _=>0) (fun _=>0) (fun _=>0) (fun _=>0) (fun _=>0) (fun _=>0)
  cbv at hs'
  simp only[List.cons.injEq,and_true]at hs'
  obtain⟨e0,e1,e2,e3,e4,e5,e6⟩:=hs'
  (refine To.of [] ?_;cbv;(try simp only[nc]);(repeat' (first|exact trivial|exact ZH.refl _|exact ZR.refl _|refine⟨?_,?_⟩|refine ZR.cells ?_|refine ZH.agg ?_|refine ZH.tup ?_));(all_goals (first|exact XZ|skip)))
  all_goals first|(rw[e0];exact ZR.refl _)|(rw[e1];exact ZR.refl _)|(rw[e2];exact ZR.refl _)|(rw[e3];exact ZR.refl _)|(rw[e4];exact ZR.refl _)|(rw[e5];exact ZR.refl _)|(rw[e6];exact ZR.refl _)
 intro i hh
 unfold X2 at*
 refine wS ?_
 have hi:=hh.1
 have hno:=hh.2
 have hni:=hnext i hi
 refine YC.frameB [0,1,2,3,4,5,6] (by decide) (by simp) rfl rfl (hfr i _) (hy i hi hno) (hbk i (i+1) _) ?_
 refine wS ?_
 refine⟨fun hst=>?_,fun hst=>?_⟩
 ·have hst:stop i=true:=by simpa using hst
  have hs':=fun X=>hs (i+1) X
  refine wS ?_
  refine⟨i+1,.inr ⟨i,rfl,hi,hst,hno⟩,?_⟩
  have hs':=hs' (.cells [.int .i64 fun _=>(TA i).getD 0 0,.int .i64 fun _=>(TA i).getD 1 0,.int .i64 fun _=>(TA i).getD 2 0,.int .i64 fun _=>(TA i).getD 3 0,.int .i64 fun _=>(TA i).getD 4 0,.int .i64 fun _=>(TA i).getD 5 0])
  cbv at hs'
  simp only[List.cons.injEq,and_true]at hs'⊢
  exact hs'
 have hst:stop i=false:=by simpa using hst
 refine wS ?_
 refine Zaq fun Q hQ=>?_
 refine ZS false false [] [0,1,3,4] [] (fun p:Nat×List Int=>[(4,.int .i64 fun _=>(p.1:Int)-1)]) (fun p=>[(7,.cells [.int .i64 fun _=>p.2.getD 0 0,.int .i64 fun _=>p.2.getD 1 0,.int .i64 fun _=>p.2.getD 2 0,.int .i64 fun _=>p.2.getD 3 0,.int .i64 fun _=>p.2.getD 4 0,.int .i64 fun _=>p.2.getD 5 0])])
  (fun p=>p.1≤t.delays.length∧p.2.length=6∧(∀k,0≤p.2.getD k 0∧p.2.getD k 0≤3)∧Sp.stepT t.delays t.delays.length (TA i)=Sp.stepT t.delays p.1 p.2) (fun p=>p.1+0) (t.delays.length,TA i) ⟨Nat.le_refl _,(hfit i).len,hbd i,rfl⟩ ?_ ?_
 ·exact ZK
 intro p hp
 refine vS ?_
 have hm:=hp.1
 have hyl:=hp.2.1
 have hyb:=hp.2.2.1
 have hst2:=hp.2.2.2
 clear hp
 by_cases h0:p.1=0
 ·rw[h0,Sp.stepT]at hst2
  rw[hst2]at hni
  have hend:¬i+1<N:=fun h=>by rw[if_pos h]at hni;cases hni
  refine Chk.mk (Qd) ?_
  refine Br.isF (by show(bif decide (0≤(p.1:Int)-1)then _ else false)=false;rw[decide_eq_false (by omega)];rfl) ?_
  refine wS ?_
  refine hQ _ _ _ ?_
  refine wS ?_
  refine Br.isT (decide_eq_true (by show(p.1:Int)-1<0;omega)) ?_
  refine wS ?_
  have hs':=hs (i+1) (.cells [.int .i64 fun _=>p.2.getD 0 0,.int .i64 fun _=>p.2.getD 1 0,.int .i64 fun _=>p.2.getD 2 0,.int .i64 fun _=>p.2.getD 3 0,.int .i64 fun _=>p.2.getD 4 0,.int .i64 fun _=>p.2.getD 5 0])
  cbv at hs'
  simp only[List.cons.injEq,and_true]at hs'
  refine⟨i+1,.inl ⟨by omega,fun j hj=>?_⟩,?_⟩
  ·by_cases h:j=i
   ·rw[h];exact hst
   ·exact hno j (by omega)
  ·simp only[List.cons.injEq,and_true]
   exact hs'
 obtain⟨k,hk⟩:∃k,p.1=k+1:=⟨p.1-1,by omega⟩
 have e1:=ZeF (x:=p.2) (e:=(p.1:Int)-1) (i:=k) (by omega) (by omega)
 have e2:(nt Sp.Qj default t.delays ((p.1:Int)-1)).by_.length=lenAt t.delays k:=by rw[show(p.1:Int)-1=(k:Int) by omega];exact hnd k
 have hl3:=hlen3 k (by omega)
 have hybk:=hyb k
 refine Chk.mk (Qd) ?_
 refine⟨fun h1=>?_,fun h1=>?_⟩
 ·have h1:p.2.getD k 0=(lenAt t.delays k:Int)-1:=by
   rw[decide_eq_true (by omega),e1,e2]at h1
   exact eq_of_beq h1
  rw[hk,Sp.stepT,if_pos h1]at hst2
  refine wS ?_
  refine⟨(k,p.2.set k 0),⟨by show k≤_;omega,by show(p.2.set k 0).length=6;rw[List.length_set];exact hyl,fun j=>?_,hst2⟩,by show k+0<p.1+0;omega,?_⟩
  ·show 0≤(p.2.set k 0).getD j 0∧(p.2.set k 0).getD j 0≤3
   rw[←Z2 (e:=(k:Int)) rfl (by omega)]
   have:=hyb j
   cases decide ((k:Int)=j)
   ·exact this
   ·exact⟨Int.le_refl _,by show(0:Int)≤3;decide⟩
  have g0:=Z2 (x:=p.2) (e:=(p.1:Int)-1) (k:=k) (j:=0) (v:=0) (by omega) (by omega)
  have g1:=Z2 (x:=p.2) (e:=(p.1:Int)-1) (k:=k) (j:=1) (v:=0) (by omega) (by omega)
  have g2:=Z2 (x:=p.2) (e:=(p.1:Int)-1) (k:=k) (j:=2) (v:=0) (by omega) (by omega)
  have g3:=Z2 (x:=p.2) (e:=(p.1:Int)-1) (k:=k) (j:=3) (v:=0) (by omega) (by omega)
  have g4:=Z2 (x:=p.2) (e:=(p.1:Int)-1) (k:=k) (j:=4) (v:=0) (by omega) (by omega)
  have g5:=Z2 (x:=p.2) (e:=(p.1:Int)-1) (k:=k) (j:=5) (v:=0) (by omega) (by omega)
  have hs':=hs6 (i+1) (fun _=>bif decide ((p.1:Int)-1=((0:Nat):Int))then 0 else p.2.getD 0 0) (fun _=>bif decide ((p.1:Int)-1=((1:Nat):Int))then 0 else p.2.getD 1 0) (fun _=>bif decide ((p.1:Int)-1=((2:Nat):Int))then 0 else p.2.getD 2 0) (fun _=>bif decide ((p.1:Int)-1=((3:Nat):Int))then 0 else p.2.getD 3 0) (fun _=>bif decide ((p.1:Int)-1=((4:Nat):Int))then 0 else p.2.getD 4 0) (fun _=>bif decide ((p.1:Int)-1=((5:Nat):Int))then 0 else p.2.getD 5 0)
  cbv at hs'
  simp only[List.cons.injEq,and_true]at hs'
  obtain⟨e3,e4,e5,e6,e7,e8,e9⟩:=hs'
  (refine To.of [] ?_;cbv;(try simp only[nc]);(repeat' (first|exact trivial|exact ZH.refl _|exact ZR.refl _|refine⟨?_,?_⟩|refine ZR.cells ?_|refine ZH.agg ?_|refine ZH.tup ?_));(all_goals (first|exact XZ|skip)))
  all_goals first|(rw[e3];exact ZR.refl _)|(rw[e4];exact ZR.refl _)|(rw[e5];exact ZR.refl _)|(rw[e6];exact ZR.refl _)|(rw[e7];exact ZR.refl _)|(rw[e8];exact ZR.refl _)|(rw[e9];exact ZR.refl _)
 ·have h1:p.2.getD k 0≠(lenAt t.delays k:Int)-1:=by
   rw[decide_eq_true (by omega),e1,e2]at h1
   exact ne_of_beq_false h1
  rw[hk,Sp.stepT,if_neg h1]at hst2
  rw[hst2]at hni
  have hlt:i+1<N:=by
   by_cases h:i+1<N
   ·exact h
   ·rw[if_neg h]at hni;cases hni
  rw[if_pos hlt]at hni
  have hni:=Option.some.inj hni
  refine wS ?_
  refine hQ _ _ _ ?_
  refine wS ?_
  refine Br.isF (decide_eq_false (by show¬(p.1:Int)-1<0;omega)) ?_
  refine vS ?_
  simp only[e1]
  refine Chk.mk (Qd) ?_
  have hs':=hs6 (i+1) (fun _=>bif decide ((p.1:Int)-1=((0:Nat):Int))then p.2.getD k 0+1 else p.2.getD 0 0) (fun _=>bif decide ((p.1:Int)-1=((1:Nat):Int))then p.2.getD k 0+1 else p.2.getD 1 0) (fun _=>bif decide ((p.1:Int)-1=((2:Nat):Int))then p.2.getD k 0+1 else p.2.getD 2 0) (fun _=>bif decide ((p.1:Int)-1=((3:Nat):Int))then p.2.getD k 0+1 else p.2.getD 3 0) (fun _=>bif decide ((p.1:Int)-1=((4:Nat):Int))then p.2.getD k 0+1 else p.2.getD 4 0) (fun _=>bif decide ((p.1:Int)-1=((5:Nat):Int))then p.2.getD k 0+1 else p.2.getD 5 0)
  cbv at hs'
  simp only[List.cons.injEq,and_true]at hs'
  obtain⟨e3,e4,e5,e6,e7,e8,e9⟩:=hs'
  refine⟨i+1,⟨hlt,fun j hj=>?_⟩,by show N-(i+1)+0<N-i+0;omega,?_⟩
  ·by_cases h:j=i
   ·rw[h];exact hst
   ·exact hno j (by omega)
  rw[←hni]
  have g0:=Z2 (x:=p.2) (e:=(p.1:Int)-1) (k:=k) (j:=0) (v:=p.2.getD k 0+1) (by omega) (by omega)
  have g1:=Z2 (x:=p.2) (e:=(p.1:Int)-1) (k:=k) (j:=1) (v:=p.2.getD k 0+1) (by omega) (by omega)
  have g2:=Z2 (x:=p.2) (e:=(p.1:Int)-1) (k:=k) (j:=2) (v:=p.2.getD k 0+1) (by omega) (by omega)
  have g3:=Z2 (x:=p.2) (e:=(p.1:Int)-1) (k:=k) (j:=3) (v:=p.2.getD k 0+1) (by omega) (by omega)
  have g4:=Z2 (x:=p.2) (e:=(p.1:Int)-1) (k:=k) (j:=4) (v:=p.2.getD k 0+1) (by omega) (by omega)
  have g5:=Z2 (x:=p.2) (e:=(p.1:Int)-1) (k:=k) (j:=5) (v:=p.2.getD k 0+1) (by omega) (by omega)
  (refine To.of [] ?_;cbv;(try simp only[nc]);(repeat' (first|exact trivial|exact ZH.refl _|exact ZR.refl _|refine⟨?_,?_⟩|refine ZR.cells ?_|refine ZH.agg ?_|refine ZH.tup ?_));(all_goals (first|exact XZ|skip)))
  all_goals first|(rw[e3];exact ZR.refl _)|(rw[e4];exact ZR.refl _)|(rw[e5];exact ZR.refl _)|(rw[e6];exact ZR.refl _)|(rw[e7];exact ZR.refl _)|(rw[e8];exact ZR.refl _)|(rw[e9];exact ZR.refl _)
theorem Zrm (t:Ze) (hf:ZJ t) (B0 B1 B2 B3 B4 B5 B6:Nat→Zi) (stop:Nat→Bool)
  (h0:∀i,Qy 7 (B0 i)) (h1:∀i,Qy 7 (B1 i)) (h2:∀i,Qy 7 (B2 i)) (h3:∀i,Qy 7 (B3 i)) (h4:∀i,Qy 7 (B4 i)) (h5:∀i,Qy 7 (B5 i)) (h6:∀i,Qy 7 (B6 i))
  (hy:∀i,i<Z7 t→(∀j,j<i→stop j=false)→YC (fun _=>Tryz.prog) 6 [.agg (X2 (Zm t i))] [B0 i,B1 i,B2 i,B3 i,B4 i,B5 i,B6 i] fun v h=>v= .bool (fun _=> !stop i)∧h=[B0 (i+1),B1 (i+1),B2 (i+1),B3 (i+1),B4 (i+1),B5 (i+1),B6 (i+1)]):
  SC (fun _=>Tryz.prog) 176 [.yld 6,X0 t] [B0 0,B1 0,B2 0,B3 0,B4 0,B5 0,B6 0] fun v h=>∃m,EndAt stop (Z7 t) m∧h=[B0 m,B1 m,B2 m,B3 m,B4 m,B5 m,B6 m]:=by
 have p6:∀j,j<7→Qo j [0,1,2,3,4,5,6] 0=some j:=by decide
 have p7:∀j,j<7→Qo j [0,1,2,3,4,5,6,7] 0=some j:=by decide
 have f7:∀j,j<7→YO [0,1,2,3,4,5,6] 8 j=j:=by decide
 refine Zth t hf B0 B1 B2 B3 B4 B5 B6 stop (fun i X=>?_) (fun i f0 f1 f2 f3 f4 f5=>?_) (fun i X=>?_) (fun i j X=>?_) hy (Zdi fun b hb=>?_)
 ·show [ZQ true _ _ (B0 i),ZQ true _ _ (B1 i),ZQ true _ _ (B2 i),ZQ true _ _ (B3 i),ZQ true _ _ (B4 i),ZQ true _ _ (B5 i),ZQ true _ _ (B6 i)]=_
  rw[(h0 i).s _ _ _ p6,(h1 i).s _ _ _ p6,(h2 i).s _ _ _ p6,(h3 i).s _ _ _ p6,(h4 i).s _ _ _ p6,(h5 i).s _ _ _ p6,(h6 i).s _ _ _ p6]
 ·show [ZQ true _ _ (B0 i),ZQ true _ _ (B1 i),ZQ true _ _ (B2 i),ZQ true _ _ (B3 i),ZQ true _ _ (B4 i),ZQ true _ _ (B5 i),ZQ true _ _ (B6 i),_]=_
  rw[(h0 i).s _ _ _ p7,(h1 i).s _ _ _ p7,(h2 i).s _ _ _ p7,(h3 i).s _ _ _ p7,(h4 i).s _ _ _ p7,(h5 i).s _ _ _ p7,(h6 i).s _ _ _ p7]
  rfl
 ·show [ZQ false _ _ (B0 i),ZQ false _ _ (B1 i),ZQ false _ _ (B2 i),ZQ false _ _ (B3 i),ZQ false _ _ (B4 i),ZQ false _ _ (B5 i),ZQ false _ _ (B6 i)]=_
  rw[(h0 i).s _ _ _ p6,(h1 i).s _ _ _ p6,(h2 i).s _ _ _ p6,(h3 i).s _ _ _ p6,(h4 i).s _ _ _ p6,(h5 i).s _ _ _ p6,(h6 i).s _ _ _ p6]
 ·show [Xc (YO [0,1,2,3,4,5,6] 8) (B0 j),Xc (YO [0,1,2,3,4,5,6] 8) (B1 j),Xc (YO [0,1,2,3,4,5,6] 8) (B2 j),Xc (YO [0,1,2,3,4,5,6] 8) (B3 j),Xc (YO [0,1,2,3,4,5,6] 8) (B4 j),Xc (YO [0,1,2,3,4,5,6] 8) (B5 j),Xc (YO [0,1,2,3,4,5,6] 8) (B6 j),X]=_
  rw[(h0 j).r _ f7,(h1 j).r _ f7,(h2 j).r _ f7,(h3 j).r _ f7,(h4 j).r _ f7,(h5 j).r _ f7,(h6 j).r _ f7]
 ·simp only[List.mem_cons,List.not_mem_nil,or_false]at hb
  rcases hb with rfl|rfl|rfl|rfl|rfl|rfl|rfl
  ·exact(h0 0).z
  ·exact(h1 0).z
  ·exact(h2 0).z
  ·exact(h3 0).z
  ·exact(h4 0).z
  ·exact(h5 0).z
  ·exact(h6 0).z
theorem Zti (t:Ze) (hf:ZJ t) (B0 B1 B2 B3 B4:Nat→Zi) (stop:Nat→Bool)
  (h0:∀i,Qy 5 (B0 i)) (h1:∀i,Qy 5 (B1 i)) (h2:∀i,Qy 5 (B2 i)) (h3:∀i,Qy 5 (B3 i)) (h4:∀i,Qy 5 (B4 i))
  (hy:∀i,i<Z7 t→(∀j,j<i→stop j=false)→YC (fun _=>Tryz.prog) 4 [.agg (X2 (Zm t i)),.imap 2 3 fun _=>Ql t (Zm t i)] [B0 i,B1 i,B2 i,B3 i,B4 i] fun v h=>v= .bool (fun _=> !stop i)∧h=[B0 (i+1),B1 (i+1),B2 (i+1),B3 (i+1),B4 (i+1)]):
  SC (fun _=>Tryz.prog) 135 [.yld 4,X0 t] [B0 0,B1 0,B2 0,B3 0,B4 0] fun v h=>∃m,EndAt stop (Z7 t) m∧h=[B0 m,B1 m,B2 m,B3 m,B4 m]:=by
 obtain⟨nt,hnt⟩:=Zu
 have p4:∀j,j<5→Qo j [0,1,2,3,4] 0=some j:=by decide
 have p5:∀j,j<5→Qo j [0,1,2,3,4,5] 0=some j:=by decide
 have p6:∀j,j<5→Qo j [0,1,2,3,4,5,6] 0=some j:=by decide
 have f7:∀j,j<5→YO [0,1,2,3,4] 8 j=j:=by decide
 have hfr:∀i X4 X5 X6,sel false [0,1,2,3,4] [B0 i,B1 i,B2 i,B3 i,B4 i,X4,X5,X6]=[B0 i,B1 i,B2 i,B3 i,B4 i]:=fun i X4 X5 X6=>by
  show [ZQ false _ _ (B0 i),ZQ false _ _ (B1 i),ZQ false _ _ (B2 i),ZQ false _ _ (B3 i),ZQ false _ _ (B4 i)]=_
  rw[(h0 i).s _ _ _ p4,(h1 i).s _ _ _ p4,(h2 i).s _ _ _ p4,(h3 i).s _ _ _ p4,(h4 i).s _ _ _ p4]
 have hbk:∀i j X4 X5 X6,back [0,1,2,3,4] [B0 i,B1 i,B2 i,B3 i,B4 i,X4,X5,X6] [B0 j,B1 j,B2 j,B3 j,B4 j]=[B0 j,B1 j,B2 j,B3 j,B4 j,X4,X5,X6]:=fun i j X4 X5 X6=>by
  show [Xc (YO [0,1,2,3,4] 8) (B0 j),Xc (YO [0,1,2,3,4] 8) (B1 j),Xc (YO [0,1,2,3,4] 8) (B2 j),Xc (YO [0,1,2,3,4] 8) (B3 j),Xc (YO [0,1,2,3,4] 8) (B4 j),X4,X5,X6]=_
  rw[(h0 j).r _ f7,(h1 j).r _ f7,(h2 j).r _ f7,(h3 j).r _ f7,(h4 j).r _ f7]
 have e5:∀m L,sel true (List.range 6) [B0 m,B1 m,B2 m,B3 m,B4 m,.cells [.yld 4],L]=[B0 m,B1 m,B2 m,B3 m,B4 m,.cells [.yld 4]]:=fun m L=>by
  show [ZQ true [0,1,2,3,4,5] _ (B0 m),ZQ true [0,1,2,3,4,5] _ (B1 m),ZQ true [0,1,2,3,4,5] _ (B2 m),ZQ true [0,1,2,3,4,5] _ (B3 m),ZQ true [0,1,2,3,4,5] _ (B4 m),_]=_
  rw[(h0 m).s _ _ _ p5,(h1 m).s _ _ _ p5,(h2 m).s _ _ _ p5,(h3 m).s _ _ _ p5,(h4 m).s _ _ _ p5]
  rfl
 have hz:zOk [B0 0,B1 0,B2 0,B3 0,B4 0]=true:=Zdi fun b hb=>by
  simp only[List.mem_cons,List.not_mem_nil,or_false]at hb
  rcases hb with rfl|rfl|rfl|rfl|rfl
  ·exact(h0 0).z
  ·exact(h1 0).z
  ·exact(h2 0).z
  ·exact(h3 0).z
  ·exact(h4 0).z
 have hz6:∀i a s d,zOk [B0 i,B1 i,B2 i,B3 i,B4 i,.cells a,.loop s d]=true:=fun i a s d=>Zdi fun b hb=>by
  simp only[List.mem_cons,List.not_mem_nil,or_false]at hb
  rcases hb with rfl|rfl|rfl|rfl|rfl|rfl|rfl
  ·exact(h0 i).z
  ·exact(h1 i).z
  ·exact(h2 i).z
  ·exact(h3 i).z
  ·exact(h4 i).z
  ·rfl
  ·rfl
 have k436:=ZuE t
 have k476:=fun s ps a x g4 g5=>Zrm t hf B0 B1 B2 B3 B4 (fun _=>.cells [.yld 4]) (fun m=>.loop s ⟨ps,a,x,bif QF stop m then .done else .ready,bif QF stop m then some .ret else none⟩) stop (fun i=>(h0 i).mono (by decide)) (fun i=>(h1 i).mono (by decide)) (fun i=>(h2 i).mono (by decide)) (fun i=>(h3 i).mono (by decide)) (fun i=>(h4 i).mono (by decide)) g4 g5
 have k437:=fun i=>ZuD t (Zm t i) hf (Yj hf i)
 generalize Zm t=TA at*
 generalize Ql t=HL at*
 generalize Z7 t=N at*
 unfold X0 ZX X2 at*
 simp only[Za hnt,Zb,ZB]at*
 refine Qv Tryz.func135 (body:=Zk Tryz.f135) rfl (by decide+kernel) ?_ hz
 refine wS ?_
 refine ZY (k436) (by first|rfl|(simp only[Zd,Zc,Zf,Zb,Za hnt];rfl)) fun r h₂ hp=>?_
 (try simp only[Zd,Zc,Zf,Zb,Za hnt]at hp)
 obtain⟨rfl,rfl⟩:=hp
 refine wS ?_
 refine ZoA (fid:=176) (first:=[]) rfl XL ?_
 refine SC.mono (k476 _ _ _ _ ?_ ?_ ?_) ?_
 ·exact fun i=>⟨fun fz ι h hp=>by simp only[ZQ,Qx,List.map,hp 4 (by decide)],fun φ hp=>by simp only[Xc,ren,List.map,hp 4 (by decide)],rfl⟩
 ·exact fun i=>⟨fun fz ι h hp=>by simp only[ZQ,Qx,List.map,hp 4 (by decide),hp 5 (by decide)],fun φ hp=>by simp only[Xc,ren,List.map,hp 4 (by decide),hp 5 (by decide)],rfl⟩
 ·intro i hi hno
  have hst:QF stop i=false:=by
   cases i with
   |zero=>rfl
   |succ j=>exact hno j (by omega)
  simp only[hst,cond_false]
  refine YC.less (Zct false false [] rfl rfl ?_ (hz6 i _ _ _))
  refine wS ?_
  refine ZY (k437 i) (by first|rfl|(simp only[Zd,Zc,Zf,Zb,Za hnt];rfl)) fun r h₂ hp=>?_
  (try simp only[Zd,Zc,Zf,Zb,Za hnt]at hp)
  obtain⟨rfl,rfl⟩:=hp
  refine wS ?_
  refine YC.frameB [0,1,2,3,4] (by decide) (by simp) rfl rfl (hfr i _ _ _) (hy i hi hno) (hbk i (i+1) _ _ _) ?_
  refine wS ?_
  refine⟨fun hb=>?_,fun hb=>?_⟩
  ·have hb:stop i=true:=by simpa using hb
   have hb2:QF stop (i+1)=true:=hb
   refine wS ?_
   simp only[hb2,cond_true]
   refine⟨.bool fun _=> !stop i,_,?_,rfl,rfl⟩
   (refine To.of [] ?_;cbv;(try simp only[nc]);(repeat' (first|exact trivial|exact ZH.refl _|exact ZR.refl _|refine⟨?_,?_⟩|refine ZR.cells ?_|refine ZH.agg ?_|refine ZH.tup ?_));(all_goals (first|exact XZ|skip)))
   all_goals first|exact .bool (by rw[hb];rfl)|exact(h0 _).wk p6|exact(h1 _).wk p6|exact(h2 _).wk p6|exact(h3 _).wk p6|exact(h4 _).wk p6
  ·have hb:stop i=false:=by simpa using hb
   have hb2:QF stop (i+1)=false:=hb
   refine wS ?_
   simp only[hb2,cond_false]
   refine⟨.bool fun _=> !stop i,_,?_,rfl,rfl⟩
   (refine To.of [] ?_;cbv;(try simp only[nc]);(repeat' (first|exact trivial|exact ZH.refl _|exact ZR.refl _|refine⟨?_,?_⟩|refine ZR.cells ?_|refine ZH.agg ?_|refine ZH.tup ?_));(all_goals (first|exact XZ|skip)))
   all_goals first|exact .bool (by rw[hb];rfl)|exact(h0 _).wk p6|exact(h1 _).wk p6|exact(h2 _).wk p6|exact(h3 _).wk p6|exact(h4 _).wk p6
 ·intro v h hh
  obtain⟨m,hm,rfl⟩:=hh
  rcases hm with⟨hm,hno⟩|⟨j,hm,hj,hst,hno⟩
  ·have hst:QF stop m=false:=by
    cases m with
    |zero=>rfl
    |succ j=>exact hno j (by omega)
   simp only[hst,cond_false]
   refine ZgM rfl rfl rfl (e5 m _) ?_
   refine wS ?_
   refine⟨m,.inl ⟨hm,hno⟩,?_⟩
   show [ZQ true [0,1,2,3,4] _ (B0 m),ZQ true [0,1,2,3,4] _ (B1 m),ZQ true [0,1,2,3,4] _ (B2 m),ZQ true [0,1,2,3,4] _ (B3 m),ZQ true [0,1,2,3,4] _ (B4 m)]=_
   rw[(h0 m).s _ _ _ p4,(h1 m).s _ _ _ p4,(h2 m).s _ _ _ p4,(h3 m).s _ _ _ p4,(h4 m).s _ _ _ p4]
  ·have hst2:QF stop m=true:=by rw[hm];exact hst
   simp only[hst2,cond_true]
   refine ZgL rfl rfl rfl (e5 m _) ?_
   refine wS ?_
   refine⟨m,.inr ⟨j,hm,hj,hst,hno⟩,?_⟩
   show [ZQ true [0,1,2,3,4] _ (B0 m),ZQ true [0,1,2,3,4] _ (B1 m),ZQ true [0,1,2,3,4] _ (B2 m),ZQ true [0,1,2,3,4] _ (B3 m),ZQ true [0,1,2,3,4] _ (B4 m)]=_
   rw[(h0 m).s _ _ _ p4,(h1 m).s _ _ _ p4,(h2 m).s _ _ _ p4,(h3 m).s _ _ _ p4,(h4 m).s _ _ _ p4]
theorem Zvb (M:Nat→Bool) {i:Nat} (hi:i<4):Ziw [fun _=>M 0,fun _=>M 1,fun _=>M 2,fun _=>M 3] (i:Int)=M i:=by
 match i,hi with
 |0,_=>rfl
 |1,_=>rfl
 |2,_=>rfl
 |3,_=>rfl
theorem ZvP (t:Ze) (d:Int) (hf:Xj t):SC (fun _=>Tryz.prog) 41 [Zf t,.int .i64 fun _=>d] [] fun v h=>
  v= .tup [lst 1 XJ 0 (Za7 t d).1,.int .i64 fun _=>(Za7 t d).2]∧h=[]:=by
 obtain⟨nt,hnt⟩:=Zu
 have k:=Zpr t hf
 have hdl:=hf.delays
 have k1:=ZbL d 0 ((t.delays.length:Int)-1)
 by_cases he:Zl t=0
 ·have hw:=QH he
  have k382:=Zrp t
  have k4:=fun B0 B1 B2 B3 B4 stop=>Zti t hw B0 B1 B2 B3 B4 stop
  have k5:=fun B0 B1 B2 B3 B4 B5 stop=>Zrn t hw B0 B1 B2 B3 B4 B5 stop
  obtain⟨F,hF0,hFS⟩:∃F:Nat→List (List Int×List (List Int×List Int)),F 0=[]∧∀i,F (i+1)=if(Zm t i).getD d.toNat 0=0 then Y4 (F i) (Sp.keyT (Zm t i)) (Ql t (Zm t i))else F i:=⟨Zaa t d.toNat,rfl,fun _=>rfl⟩
  have hd6:=hw.dlen
  have hsix:=fun i (h:d.toNat<6)=> @ZsX (Zm t i) d.toNat (XS _ _) h
  have hmn:=fun i h r=> @Zj4 t d.toNat i h r
  have hcvn:=fun L W r=> @Zri L W r
  have hcvs:=fun L W S e he hn r=> @Zph L W S e he hn r
  have hkeys:=fun x=> @ZiZ t x
  have hkey2:=fun x p hp=> @Zi0 t hw x p hp
  have hhe:∀W p,Zkr W p=(p.2.headD 0 !=((W.lookup p.1).getD []).headD 0||p.2.tail.tail.headD 0 !=((W.lookup p.1).getD []).tail.tail.headD 0):=fun _ _=>rfl
  have hcva:=fun i h0 S hS r=> @Zrj t d.toNat i h0 S hS r
  have hTl:∀i,(Zm t i).length=6:=fun i=>XS _ _
  obtain⟨MV,hMV0,hMVS⟩:∃M:Nat→Nat→Bool,(∀r,M 0 r=false)∧∀i r,M (i+1) r=(M i r||ZaN t d.toNat i r):=⟨ZeI t d.toNat,fun _=>rfl,fun _ _=>rfl⟩
  have hML:Zfn t d.toNat=((List.range 4).filter fun r=>MV (Z7 t) r).map fun(r:Nat)=>(r:Int):=by
   have e:∀n r,MV n r=ZeI t d.toNat n r:=fun n=>by
    induction n with
    |zero=>intro r;rw[hMV0];rfl
    |succ n ih=>intro r;rw[hMVS,ih];rfl
   unfold Zfn
   simp only[e]
  have hFl:∀i,d.toNat<t.delays.length→(F (Z7 t)).lookup (Sp.keyT ((Zm t i).set d.toNat 0))=some (Ql t ((Zm t i).set d.toNat 0)):=fun i hd=>by
   have e:∀n,F n=Zaa t d.toNat n:=fun n=>by
    induction n with
    |zero=>exact hF0
    |succ n ih=>rw[hFS,Zaa,ih]
   rw[e]
   exact Zml hw hd
  have hE:Za7 t d=if Qs d 0 ((t.delays.length:Int)-1)then([],3)else(Zfn t d.toNat,0):=by
   unfold Za7
   rw[if_neg (fun h=>h he)]
  unfold QD at k
  rw[if_pos he,he]at k
  generalize Za7 t d=BE at*
  generalize hcv:cvE=CV at*
  generalize hhit:Zkr=HIT at*
  generalize ZaN t d.toNat=MI at*
  generalize Zm t=TA at*
  generalize Ql t=HL at*
  unfold X0 ZX Zf X2 Sp.keyT at*
  simp only[Za hnt,Zb,ZB]at*
  refine SC.less (Qv Tryz.func41 (body:=Zk Tryz.f41) rfl (by decide+kernel) ?_)
  refine wS ?_
  refine Zpt (k) ?_
  refine wS ?_
  refine Br.isF rfl ?_
  refine wS ?_
  refine Zpt (k1) ?_
  refine wS ?_
  refine⟨fun h=>?_,fun h=>?_⟩
  ·rw[if_pos h]at hE
   subst hE
   refine wS ?_
   refine⟨_,[],?_,rfl,rfl⟩
   exact ZK
  have hb:=QO h
  rw[if_neg (by rw[h];exact Bool.false_ne_true)]at hE
  have hsel:=fun i=> @ZeF (TA i) d d.toNat (by omega) (by omega)
  refine wS ?_
  refine Zpt (k382) ?_
  refine wS ?_
  refine Zfe [3,6,8,37] [] [(2,.gob (.mapM 6 2 3 fun _=>F 0))] (fid:=135) (first:=[]) ?_ rfl ?_ ?_
  ·rw[hF0]
   exact ZK
  ·exact XL
  refine SC.mono (k4 (fun _=>_) (fun _=>_) (fun i=>.gob (.mapM 6 2 3 fun _=>F i)) (fun _=>_) (fun _=>_) (fun _=>false) ?_ ?_ ?_ ?_ ?_ ?_) ?_
  iterate 5 exact fun i=>Qy.of rfl
  ·intro i hi hno
   have hFi:=hFS i
   have hsi:=hsel i
   refine YC.less (Zct false false [] rfl rfl ?_)
   refine vS ?_
   simp only[hsi]
   refine Chk.mk (Qd) ?_
   refine⟨fun h2=>?_,fun h2=>?_⟩
   ·have h2:=eq_of_beq h2
    rw[if_pos h2]at hFi
    refine wS ?_
    refine⟨.bool fun _=>true,_,?_,rfl,rfl⟩
    rw[hFi]
    exact ZK
   ·have h2:=ne_of_beq_false h2
    rw[if_neg h2]at hFi
    refine wS ?_
    refine⟨.bool fun _=>true,_,?_,rfl,rfl⟩
    rw[hFi]
    exact ZK
  ·intro v h hh
   obtain⟨m,hm,rfl⟩:=hh
   have hmN:m=Z7 t:=by
    rcases hm with h|⟨_,_,_,h,_⟩
    ·exact h.1
    ·cases h
   have hFat:=fun i=>hFl i
   rw[←hmN]at hFat
   refine wS ?_
   refine Zpt (k382) ?_
   refine wS ?_
   refine Zfe [3,8,11,48] [] [(4,.cells [.bool fun _=>MV 0 0,.bool fun _=>MV 0 1,.bool fun _=>MV 0 2,.bool fun _=>MV 0 3])] (fid:=135) (first:=[]) ?_ rfl ?_ ?_
   ·(refine To.of [] ?_;cbv;(try simp only[nc]);(repeat' (first|exact trivial|exact ZH.refl _|exact ZR.refl _|refine⟨?_,?_⟩|refine ZR.cells ?_|refine ZH.agg ?_|refine ZH.tup ?_));(all_goals (first|exact XZ|skip)))
    all_goals exact .bool (by rw[hMV0])
   ·exact XL
   refine SC.mono (k5 (fun _=>_) (fun _=>_) (fun _=>_) (fun _=>_) (fun i=>.cells [.bool fun _=>MV i 0,.bool fun _=>MV i 1,.bool fun _=>MV i 2,.bool fun _=>MV i 3]) (fun _=>_) (fun _=>false) ?_ ?_ ?_ ?_ ?_ ?_ ?_) ?_
   iterate 6 exact fun i=>Qy.of rfl
   ·intro i hi hno
    have hMi:=hMVS i
    have g0:=Z2 (x:=TA i) (e:=d) (k:=d.toNat) (j:=0) (v:=0) (by omega) (by rw[hTl];omega)
    have g1:=Z2 (x:=TA i) (e:=d) (k:=d.toNat) (j:=1) (v:=0) (by omega) (by rw[hTl];omega)
    have g2:=Z2 (x:=TA i) (e:=d) (k:=d.toNat) (j:=2) (v:=0) (by omega) (by rw[hTl];omega)
    have g3:=Z2 (x:=TA i) (e:=d) (k:=d.toNat) (j:=3) (v:=0) (by omega) (by rw[hTl];omega)
    have g4:=Z2 (x:=TA i) (e:=d) (k:=d.toNat) (j:=4) (v:=0) (by omega) (by rw[hTl];omega)
    have g5:=Z2 (x:=TA i) (e:=d) (k:=d.toNat) (j:=5) (v:=0) (by omega) (by rw[hTl];omega)
    refine YC.less (Zct false false [] rfl rfl ?_)
    refine vS ?_
    simp only[g0,g1,g2,g3,g4,g5]
    refine Chk.mk (Qd) ?_
    have hsi:=hsix i (by omega)
    refine⟨fun h2=>?_,fun h2=>?_⟩
    ·have h2:(TA i).getD d.toNat 0=0:=of_decide_eq_true (hsi.symm.trans h2)
     have hm0:=hmn i h2
     simp only[hm0,Bool.or_false]at hMi
     refine wS ?_
     refine⟨.bool fun _=>true,_,?_,rfl,rfl⟩
     (refine To.of [] ?_;cbv;(try simp only[nc]);(repeat' (first|exact trivial|exact ZH.refl _|exact ZR.refl _|refine⟨?_,?_⟩|refine ZR.cells ?_|refine ZH.agg ?_|refine ZH.tup ?_));(all_goals (first|exact XZ|skip)))
     all_goals exact .bool (by rw[hMi])
    have h2:(TA i).getD d.toNat 0≠0:=of_decide_eq_false (hsi.symm.trans h2)
    refine wS ?_
    refine Zsy false false [] [3,8,11,14,49,50,58] [] (fun _:List (List Int)×List Int×List Int=>[]) (fun p=>[(4,.cells [.bool fun _=>MV i 0||CV (HL (TA i)) (HL ((TA i).set d.toNat 0)) p.1 0,.bool fun _=>MV i 1||CV (HL (TA i)) (HL ((TA i).set d.toNat 0)) p.1 1,.bool fun _=>MV i 2||CV (HL (TA i)) (HL ((TA i).set d.toNat 0)) p.1 2,.bool fun _=>MV i 3||CV (HL (TA i)) (HL ((TA i).set d.toNat 0)) p.1 3]),(8,.gob (.mapIt 2 3 (fun _=>HL (TA i)) (fun _=>p.1) fun _=>p.2))])
     (fun _=>True) (fun p=>((HL (TA i)).filter fun q=> !p.1.contains q.1).length+0) ([],[],[]) trivial ?_ ?_
    ·(refine To.of [] ?_;cbv;(try simp only[nc]);(repeat' (first|exact trivial|exact ZH.refl _|exact ZR.refl _|refine⟨?_,?_⟩|refine ZR.cells ?_|refine ZH.agg ?_|refine ZH.tup ?_));(all_goals (first|exact XZ|skip)))
     all_goals exact .bool (by rw[hcvn,Bool.or_false])
    intro p _
    refine wS ?_
    have hkx:=hkeys (TA i)
    have hFx:=hFat i (by omega)
    refine NC.next rfl (fun hall=>?_) fun e heL hns=>?_
    ·have hM:∀r,MV (i+1) r=(MV i r||CV (HL (TA i)) (HL ((TA i).set d.toNat 0)) p.1 r):=fun r=>by rw[hMi r,hcva i h2 p.1 hall r]
     refine wS ?_
     refine Br.isF rfl ?_
     refine wS ?_
     refine⟨.bool fun _=>true,_,?_,rfl,rfl⟩
     (refine To.of [] ?_;cbv;(try simp only[nc]);(repeat' (first|exact trivial|exact ZH.refl _|exact ZR.refl _|refine⟨?_,?_⟩|refine ZR.cells ?_|refine ZH.agg ?_|refine ZH.tup ?_));(all_goals (first|exact XZ|skip)))
     all_goals exact .bool (by rw[hM])
    have hke:=hkey2 (TA i) e heL
    have hst:=hcvs (HL (TA i)) (HL ((TA i).set d.toNat 0)) p.1 e heL hkx
    refine wS ?_
    refine Br.isT rfl ?_
    refine vS ?_
    simp only[g0,g1,g2,g3,g4,g5,hFx,Option.getD_some,hke.1]
    refine Chk.mk (by(try simp only[nc,QW,QV,Q3,QU,Cn.p,and_true,true_and,decide_eq_true_eq,imp_self,List.length_cons,List.length_nil]);(repeat' (first|apply And.intro|intro _))<;>first|omega|assumption|exact nb1 (by assumption)|exact nb2 (by assumption)|exact nb3 (by assumption)|exact nb4 (by assumption)|(simp;done)|rfl|exact Or.inl rfl|decide+kernel|(exfalso;rename_i hx;exact absurd hx (by simp))|skip) ?_
    have hcnd:(bif e.2.headD 0 !=((List.lookup e.1 (HL ((TA i).set d.toNat 0))).getD []).headD 0 then true else e.2.tail.tail.headD 0 !=((List.lookup e.1 (HL ((TA i).set d.toNat 0))).getD []).tail.tail.headD 0)=HIT (HL ((TA i).set d.toNat 0)) e:=by
     rw[hhe]
     cases (e.2.headD 0 !=((List.lookup e.1 (HL ((TA i).set d.toNat 0))).getD []).headD 0)<;>rfl
    refine⟨fun h3=>?_,fun h3=>?_⟩
    ·have hh:=hcnd.symm.trans h3
     have hst2:∀k:Nat,(bif decide (e.1.headD 0=(k:Int))then true else(MV i k||CV (HL (TA i)) (HL ((TA i).set d.toNat 0)) p.1 k))=(MV i k||CV (HL (TA i)) (HL ((TA i).set d.toNat 0)) (p.1++[e.1]) k):=fun k=>by
      rw[hst k,hh]
      by_cases h:e.1.headD 0=(k:Int)
      ·rw[decide_eq_true h,h]
       simp
      ·rw[decide_eq_false h,show(e.1.headD 0==(k:Int))=false by simpa using h]
       show(MV i k||CV (HL (TA i)) (HL ((TA i).set d.toNat 0)) p.1 k)=(MV i k||(CV (HL (TA i)) (HL ((TA i).set d.toNat 0)) p.1 k||false))
       rw[Bool.or_false]
     refine vS ?_
     refine Chk.mk (Qd) ?_
     refine⟨(p.1++[e.1],e),trivial,by show(List.filter _ _).length+0<(List.filter _ _).length+0;exact Zla heL hns,?_⟩
     (refine To.of [] ?_;cbv;(try simp only[nc]);(repeat' (first|exact trivial|exact ZH.refl _|exact ZR.refl _|refine⟨?_,?_⟩|refine ZR.cells ?_|refine ZH.agg ?_|refine ZH.tup ?_));(all_goals (first|exact XZ|skip)))
     all_goals exact .bool (hst2 _)
    ·have hh:=hcnd.symm.trans h3
     have hst2:∀k:Nat,(MV i k||CV (HL (TA i)) (HL ((TA i).set d.toNat 0)) p.1 k)=(MV i k||CV (HL (TA i)) (HL ((TA i).set d.toNat 0)) (p.1++[e.1]) k):=fun k=>by
      rw[hst k,hh,Bool.and_false,Bool.or_false]
     refine wS ?_
     refine⟨(p.1++[e.1],e),trivial,by show(List.filter _ _).length+0<(List.filter _ _).length+0;exact Zla heL hns,?_⟩
     (refine To.of [] ?_;cbv;(try simp only[nc]);(repeat' (first|exact trivial|exact ZH.refl _|exact ZR.refl _|refine⟨?_,?_⟩|refine ZR.cells ?_|refine ZH.agg ?_|refine ZH.tup ?_));(all_goals (first|exact XZ|skip)))
     all_goals exact .bool (hst2 _)
   ·intro v h hh
    obtain⟨m2,hm2,rfl⟩:=hh
    have hm2N:m2=Z7 t:=by
     rcases hm2 with h|⟨_,_,_,h,_⟩
     ·exact h.1
     ·cases h
    rw[←hm2N]at hML
    generalize Zfn t d.toNat=ML at*
    refine wS ?_
    refine ZS false false [] [18,84,85] [.tok 1 fun _=>0] (fun p:Nat×List Int=>[(85,.int .i64 fun _=>(p.1:Int)),(18,.isl 1 (fun _=>(p.2.length:Int)) (fun e=>XJ (nt Int 0 p.2 (e ()))) (.own 5))]) (fun p=>[(5,.tok 1 fun _=>(p.2.length:Int))])
     (fun p=>p.1≤4∧p.2.length≤p.1∧p.2=((List.range p.1).filter fun r=>MV m2 r).map fun(r:Nat)=>(r:Int)) (fun p=>4-p.1+0) (0,[]) ⟨Nat.zero_le _,Nat.le_refl _,rfl⟩ ?_ ?_
    ·(refine To.of [(1,false)] ?_;cbv;(try simp only[nc]);(repeat' (first|exact trivial|exact ZH.refl _|exact ZR.refl _|refine⟨?_,?_⟩|refine ZR.cells ?_|refine ZH.agg ?_|refine ZH.tup ?_));(all_goals (first|exact XZ|skip)))
    intro p hp
    refine wS ?_
    refine⟨fun h1=>?_,fun h1=>?_⟩
    ·simp only[decide_eq_true_eq]at h1
     have hlt:p.1<4:=by omega
     have hp2:=hp.2.2
     have hsucc:= @List.range_succ p.1
     have hlen:=hp.2.1
     have hsb:=Zvb (fun r=>MV m2 r) (i:=p.1) hlt
     refine vS ?_
     simp only[hsb]
     try refine Chk.mk (Qd) ?_
     refine⟨fun h3=>?_,fun h3=>?_⟩
     ·refine wS ?_
      refine⟨(p.1+1,p.2++[(p.1:Int)]),⟨by show p.1+1≤4;omega,by show(p.2++[(p.1:Int)]).length≤p.1+1;rw[List.length_append];show p.2.length+1≤_;omega,?_⟩,by show 4-(p.1+1)+0<4-p.1+0;omega,?_⟩
      ·show p.2++[(p.1:Int)]=_
       rw[hsucc,List.filter_append,List.map_append,←hp2]
       simp[h3]
      exact ZK
     ·refine wS ?_
      refine⟨(p.1+1,p.2),⟨by show p.1+1≤4;omega,by show p.2.length≤p.1+1;omega,?_⟩,by show 4-(p.1+1)+0<4-p.1+0;omega,?_⟩
      ·show p.2=_
       rw[hsucc,List.filter_append,List.map_append,←hp2]
       simp[h3]
      exact ZK
    ·simp only[decide_eq_false_iff_not]at h1
     have h4:p.1=4:=by have:=hp.1;omega
     have hr:p.2=ML:=by rw[hp.2.2,h4,hML]
     subst hE
     refine wS ?_
     rw[hr]
     refine⟨_,[],?_,rfl,rfl⟩
     exact ZK
 ·have hE:Za7 t d=([],Zl t):=by
   unfold Za7
   rw[if_pos he]
  rw[hE]
  unfold QD at k
  rw[if_neg he]at k
  generalize Zl t=e at*
  unfold Zf at*
  simp only[Za hnt,Zb,ZB]at*
  refine SC.less (Qv Tryz.func41 (body:=Zk Tryz.f41) rfl (by decide+kernel) ?_)
  refine wS ?_
  refine Zpt (k) ?_
  refine wS ?_
  refine⟨fun h=>?_,fun h=>?_⟩
  ·refine wS ?_
   refine⟨_,[],?_,rfl,rfl⟩
   exact ZK
  ·exact absurd (by simpa only[bne_eq_false_iff_eq]using h) he
end Go.Proofs.YtjgpiclllehgmaaGreat.Vm
namespace Go.Proofs.YtjgpiclllehgmaaGreat.Vm
open Go Go.Conc Go.Proofs Go.Proofs.YtjgpiclllehgmaaGreat.Conc1
def Zh2 (ts:Array TypeId) (ty:TypeId) (cs:Array Bool) (ch:Nat):Deferred:={target:=.builtin .close ts ty cs,args:= #[.chan (some ch)]}
def Zak (n:Nat) (ds:List Deferred):Frame:={(default:Frame)with fn:=n,defers:=ds,mode:=.panicking [goexitEntry]}
section
variable {P:Program} {ch cell:Nat} {f:FuncId} {fn:Func} {t:Array Value} {todo:List Item}
theorem Zt7 (hf:P.funcs[f]? =some fn) (hr:fn.results= #[]):QuitsD P 2 0 (G {mkF ⟨f,true,none,[]⟩ t [] todo with mode:=.returning} [Zak P.funcs.size []]):=by
 refine .inr ⟨rfl,G (Zak P.funcs.size []) [], #[],by simp,fun w=>?_,.inr ⟨rfl,{frame:=Zak P.funcs.size [],callers:=[],status:=.finished,dying:=none}, #[],by simp,fun w=>?_,⟨rfl,rfl⟩⟩⟩
 ·have h1:results fn t=pure (.tuple #[]):=by
   unfold results
   rw[hr]
   simp
  have h2:(results fn t).run P w= .ok (.tuple #[]) w:=by rw[h1];rfl
  have h3:(results fn t).events P w #[]= #[]:=by rw[h1];rfl
  simp[G,stepG,unwind,doReturn,mkF,FB.kind,hf,h2,h3,GStep.after,Zak,goexitEntry,seen_none]
 ·have h:(default:Frame).todo=[]:=rfl
  simp[G,stepG,unwind,Zak,goexitEntry,Frame.catches,h]
theorem Zpu {ts:Array TypeId} {ty:TypeId} {cs:Array Bool} (hf:P.funcs[f]? =some fn) (hr:fn.results= #[]):
  Zii P (fun n=>n=cell∨n=ch) ch {mkF ⟨f,true,none,[]⟩ t [Zh2 ts ty cs ch] todo with mode:=.returning} [Zak P.funcs.size []]:=by
 refine⟨rfl,G {mkF ⟨f,true,none,[]⟩ t [] todo with mode:=.returning} [Zak P.funcs.size []], #[⟨.obj ch,false,true⟩],2,fun w buf s r tm h=>?_,fun e he=>.inr (by simpa using he),Zt7 hf hr⟩
 have e:Builtin.close_ ts ty #[.chan (some ch)]=(getObj ch>>=fun o=>match o with
   |.chan room buf closed sent received timer=>(do
    if closed then runtimePanic (.plain "close of closed channel")
    setObj ch (.chan room buf true sent received timer)
    pure (.tuple #[]))
   |_=>stuck "close: no channel in this block"):=rfl
 have e2:invoke (.builtin .close ts ty cs) #[.chan (some ch)]=(Builtin.close_ ts ty #[.chan (some ch)]>>=fun x=>pure (.value x)):=rfl
 have h1:(invoke (.builtin .close ts ty cs) #[.chan (some ch)]).run P w= .ok (.value (.tuple #[])) (w.setChan ch 0 buf true s r tm):=by
  rw[e2,e]
  simp[getObj,setObj,Sem.run_bind,Sem.run,h,World.setChan]
 have h2:(invoke (.builtin .close ts ty cs) #[.chan (some ch)]).events P w #[]= #[⟨.obj ch,false,true⟩,⟨.obj ch,true,true⟩]:=by
  rw[e2,e]
  unfold Sem.events
  show(Sem.runT P (Sem.getObj ch _) w #[]).2=_
  simp only[Sem.runT,h]
  show(Sem.runT P (Sem.setObj ch _ _) w _).2=_
  simp only[Sem.runT,h]
  rfl
 have h3:seen P f #[⟨.obj ch,false,true⟩,⟨.obj ch,true,true⟩]= #[⟨.obj ch,false,true⟩,⟨.obj ch,true,true⟩]:=by
  simp[seen]
 simp[G,stepG,unwind,callDeferred,mkF,Zh2,h1,h2,h3,GStep.after]
theorem Zo0 {fr:Frame} {cs:List Frame} {w:World} {fr' cfr:Frame} {E:RP} {s:Nat} {tm:Bool} (hk:kf P fr cs=some (ch,cell,E)) (hgo:ZmJ P fr cs fr' cfr) (hE:ZpK P ch cell E (fr',cs)) (hch:w.heap[ch]? =some (.chan 0 #[] false s s tm))
  (hcell:w.cell? ⟨cell,0,none⟩=some (.chan (some ch))) (hne:ch≠cell) {f1:Frame} {c1:List Frame} (h0:∀main w,stepG P main (G cfr []) w= .go (G f1 c1) w) {wf:World} (hF:Fz cell wf w) {b:Cf} (hst:StepsC P (some ch) ⟨f1,c1,wf⟩ b)
  {L:List Bool} {s' r':Nat} {tm':Bool} (hb:b.w.heap[ch]? =some (.chan 0 (L.map Value.bool).toArray false s' r' tm')) (hcl:Zii P (fun n=>n=cell∨n=ch) ch b.fr b.cs):
  ∃w',Fz cell b.w w'∧StepsC P none ⟨fr,cs,w⟩ ⟨(got (E L) false false).1,(got (E L) false false).2,w'.setChan ch 0 #[] true s' s' tm'⟩:=by
 obtain⟨w',h1,h2,_⟩:=StepsC.child (KF:=kf P) (R:=E) hne hst w hF ⟨#[],s,s,tm,(hF.ne ch hne).symm.trans hch⟩
 refine⟨w',h2,.one ?_⟩
 exact .head (.go hk hgo hE hch hcell hne) (.head (.cown (Ow.ctl h0)) (Zdd.trans h1 (.head (.close hcl ((h2.ne ch hne).trans hb)) (.refl _))))
theorem YZ {x y:Frame×List Frame} (h:∀w,stepG P true (G x.1 x.2) w= .go (G y.1 y.2) w):ZdY P ch cell x y:=fun w _=>⟨#[],h w,fun e he=>by simp at he⟩
variable {b:FB} {ds:List Deferred} {k:List Item} {cs:List Frame}
theorem ZoL:ZdY P ch cell (mkF b t ds (.code .skip::k),cs) (mkF b t ds k,cs):=YZ fun _=>rfl
theorem Zeh {id:Nat}:ZdY P ch cell (mkF b t ds (.inBlock id::k),cs) (mkF b t ds k,cs):=YZ fun _=>rfl
theorem Jr {x y:Code}:ZdY P ch cell (mkF b t ds (.code (.seq x y)::k),cs) (mkF b t ds (.code x:: .code y::k),cs):=YZ fun _=>rfl
theorem ZiU {c:Operand} {x y:Code} {v:Bool} (h:QA t c= .bool v):ZdY P ch cell (mkF b t ds (.code (.cond c x y)::k),cs) (mkF b t ds (.code (if v then x else y)::k),cs):=
 YZ fun _=>by
  have h:(mkF b t ds (.code (.cond c x y)::k)).eval c= .bool v:=by rw[Zb1];exact h
  simp only[mkF]at h
  simp[stepG,stepG.exec,mkF,G,h]
theorem ZgN {id:Nat} {c:Code}:ZdY P ch cell (mkF b t ds (.code (.block id c)::k),cs) (mkF b t ds (.code c:: .inBlock id::k),cs):=YZ fun _=>rfl
theorem ZoM {c:Code}:ZdY P ch cell (mkF b t ds (.code (.loop c)::k),cs) (mkF b t ds (.code c:: .inLoop c::k),cs):=YZ fun _=>rfl
theorem Zfz {c:Code}:ZdY P ch cell (mkF b t ds (.inLoop c::k),cs) (mkF b t ds (.code c:: .inLoop c::k),cs):=YZ fun _=>rfl
theorem Xw {id:Nat} {ops:Array Oper} {l:List Nat} (hl:List.range ops.size=l):ZdY P ch cell (mkF b t ds (.code (.region id ops false)::k),cs) (mkF b t ds (.inRegion ops l::k),cs):=YZ fun _=>by subst hl;simp[stepG,stepG.exec,mkF,G]
theorem Xs {ops:Array Oper}:ZdY P ch cell (mkF b t ds (.inRegion ops []::k),cs) (mkF b t ds k,cs):=YZ fun _=>by simp[stepG,stepG.exec,mkF,G]
structure Jk (ops:Array Oper) (i:Nat) (d:Option Tmp) (op:Op):Prop where
 ok:∃o,ops[i]? =some o∧o.op=op∧o.dst=d∧o.guard=none
theorem ZdT {ops:Array Oper} {i:Nat} {rest:List Nat} {o:Oper} {v:Value} {w w':World} {es:Array Event} (ho:ops[i]? =some o) (hg:o.guard=none) (hd:∀c,o.op≠ .defer c) (hr:(execOp (QA t) o).runT P w #[]=(.ok (.value v) w',es)) (main:Bool):
  stepG P main (G (mkF b t ds (.inRegion ops (i::rest)::k)) cs) w= .go (G (mkF b (Z1 t o.dst v) ds (.inRegion ops rest::k)) cs) w' (seen P b.fn es):=by
 have hf:(mkF b t ds (.inRegion ops (i::rest)::k)).finish v=mkF b (Z1 t o.dst v) ds (.inRegion ops rest::k):=by rw[Xd,ho];rfl
 rw[Zcv ho (by simp[Region.wanted,hg]) hd,←hf]
 unfold stepG.apply
 simp only[if_true,hr,b.not_early,show((mkF b t ds (.inRegion ops (i::rest)::k)).kind==CallKind.early)=false from b.not_early,Bool.false_eq_true,if_false]
 simp[GStep.after,G,mkF]
theorem Jf {ops:Array Oper} {i:Nat} {rest:List Nat} {d:Option Tmp} {op:Op} {v:Value} (H:Jk ops i d op) (hd:∀c,op≠ .defer c) (hr:∀o:Oper,o.op=op→execOp (QA t) o=pure (.value v)):
  ZdY P ch cell (mkF b t ds (.inRegion ops (i::rest)::k),cs) (mkF b (Z1 t d v) ds (.inRegion ops rest::k),cs):=by
 obtain⟨o,ho,hop,hdst,hg⟩:=H.ok
 refine YZ fun w=>?_
 have:=ZdT (P:=P) (b:=b) (ds:=ds) (k:=k) (cs:=cs) (rest:=rest) (w:=w) (w':=w) (v:=v) (es:= #[]) ho hg (fun c=>by rw[hop];exact hd c) (by rw[hr o hop];rfl) true
 rw[seen_none,hdst]at this
 exact this
theorem ZoN {ops:Array Oper} {i:Nat} {rest:List Nat} {d:Option Tmp} {T:TypeId} {a:Operand} {dr:ChanDir} {B:TypeId} (H:Jk ops i d (.load T a)) (hU:P.underlying T=some (.chan dr B)) (ha:QA t a= .pointer (some ⟨cell,0,none⟩)):
  ZdY P ch cell (mkF b t ds (.inRegion ops (i::rest)::k),cs) (mkF b (Z1 t d (.chan (some ch))) ds (.inRegion ops rest::k),cs):=by
 obtain⟨o,ho,hop,hdst,hg⟩:=H.ok
 intro w hw
 have hr:(execOp (QA t) o).runT P w #[]=(.ok (.value (.chan (some ch))) w, #[⟨.cell ⟨cell,0,none⟩,false,false⟩]):=by
  have e:execOp (QA t) o=(Instr.loadAt T (.pointer (some ⟨cell,0,none⟩))>>=fun x=>pure (.value x)):=by
   unfold execOp
   simp only[hop,ha]
  rw[e]
  have h1:∀es,(isAgg T).runT P w es=(.ok false w,es):=fun es=>by
   unfold isAgg underlying
   show(Sem.bind (Sem.bind program _) _).runT P w es=_
   rw[Sem.runT_bind',Sem.runT_bind',show program.runT P w es=(.ok P w,es)from rfl]
   simp only[hU]
   rfl
  have h2:∀es,(load ⟨cell,0,none⟩).runT P w es=(.ok (.chan (some ch)) w,es.push ⟨.cell ⟨cell,0,none⟩,false,false⟩):=fun es=>by
   unfold load
   simp only[Sem.runT,hw]
   rfl
  show(Sem.bind (Sem.bind (isAgg T) _) _).runT P w #[]=_
  rw[Sem.runT_bind',Sem.runT_bind',h1]
  simp only[Bool.false_eq_true,if_false]
  rw[h2]
  rfl
 have:=ZdT (P:=P) (b:=b) (ds:=ds) (k:=k) (cs:=cs) (rest:=rest) ho hg (fun c=>by rw[hop];intro h;cases h) hr true
 rw[hdst]at this
 exact⟨_,this,fun e he=>by simpa using mem_seen he⟩
end
end Go.Proofs.YtjgpiclllehgmaaGreat.Vm
