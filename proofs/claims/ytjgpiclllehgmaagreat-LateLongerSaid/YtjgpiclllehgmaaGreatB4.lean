/- Contracts: trains of made traffic. -/
import Derived.KernelRfl
import Derived.Test.YtjgpiclllehgmaaGreatB3
import Derived.Test.YtjgpiclllehgmaaGreatB1
import Derived.Test.YtjgpiclllehgmaaGreatM5
import Derived.Test.YtjgpiclllehgmaaGreatB2
set_option linter.all false
namespace Go.Proofs.YtjgpiclllehgmaaGreat.Vm
attribute [local irreducible] Dn
open Go Go.Proofs Sp
set_option maxRecDepth 100000
set_option maxHeartbeats 4000000
theorem Zig.join3 {A B:Prop} {α β γ:Type} {G P:α→β→γ→Prop} (hA:(∀a c d,P a c d→G a c d)→A) (hB:(∀a c d,P a c d→G a c d)→B) (hM:∀a c d,P a c d→G a c d):Zig A B:=⟨hA hM,hB hM⟩
structure ZjH (st:Nat) (number:Int) (t:Train):Prop where
 made:Zha 1 st number t
 days:t.days=127
 late:∀s∈t.stops,s.depart≤1000
 asc:∀k,k+1<t.stops.length→(t.stops.getD k default).depart<(t.stops.getD (k+1) default).arrive
theorem ZvJ (s number:Int) (st:Nat) (hs:2≤st∧st≤10):SC (fun _=>Tryz.prog) 74 [.ptr 0 0,.int .i64 fun _=>number,.int .i64 fun _=>(st:Int)] [XB s] fun v h=>∃(t:Train) (s':Int),ZjH st number t∧v= .agg (encTrain t)∧h=[XB s']:=by
 obtain⟨nt,hnt⟩:=Zu
 refine SC.less (Qv Tryz.func74 (body:=Zk Tryz.f74) rfl (by decide+kernel) ?_)
 refine wS ?_
 refine cL0 [0] (c17 s 90 (by omega)) fun r h₂ hp=>?_
 (try simp only[Zd,Zc,Za hnt]at hp)
 obtain⟨now,s1,hnow,rfl,rfl⟩:=hp
 refine wS ?_
 refine cL0 [0] (Zv6 s1 st (by omega)) fun r h₂ hp=>?_
 (try simp only[Zd,Zc,Za hnt]at hp)
 obtain⟨L,s4,hL,rfl,rfl⟩:=hp
 refine wS ?_
 have hmn:2≤(if(st:Int)<4 then(st:Int)else 4)∧(if(st:Int)<4 then(st:Int)else 4)≤4∧(if(st:Int)<4 then(st:Int)else 4)≤st:=by split<;>omega
 generalize (if(st:Int)<4 then(st:Int)else 4)=mn at*
 refine cL0 [0] (c22 s4 2 mn (by omega) (by omega)) fun r h₂ hp=>?_
 (try simp only[Zd,Zc,Za hnt]at hp)
 obtain⟨m,s5,hm,rfl,rfl⟩:=hp
 refine wS ?_
 obtain⟨m,rfl⟩:∃k:Nat,m=k:=⟨m.toNat,by omega⟩
 refine ZS false false [] [0,6,7,8,9,10] [.tok 4 fun _=>0] (fun(⟨i,now,s,out⟩:Nat×Int×Int×List Stop)=>[(8,.int .i64 fun _=>60+now),(10,.int .i64 fun _=>i)])
  (fun⟨i,now,s,out⟩=>[(0,XB s),(2,.cells [.int .i64 fun _=>number,.int .i64 fun _=>127,.isl 4 (fun _=>(out.length:Int)) (fun e=>Qz (nt Stop default out (e ()))) (.own 3)]),(3,.tok 4 fun _=>(out.length:Int))])
  (fun⟨i,now,s,out⟩=>i≤m∧out.length+i=m∧(0≤now∧now≤90+70*(out.length:Int))∧(∀x∈out,(0≤x.station∧x.station<st)∧(0≤x.zone∧x.zone<1)∧0≤x.arrive∧x.arrive≤x.depart∧x.depart<60+now)∧out.Pairwise (fun a b=>a.station≠b.station)∧(∀x∈out,∃j,i≤j∧j<m∧x.station=L.getD j 0)∧∀k,k+1<out.length→(out.getD k default).depart<(out.getD (k+1) default).arrive) (fun i=>i.1+0) (m,now,s5,[]) ⟨Nat.le_refl _,by simp,by simp;omega,by simp,.nil,by simp,by simp⟩ ?_ ?_
 ·(refine To.of [(4,false)] ?_;cbv;(try simp only[nc]);(repeat' (first|exact trivial|exact ZH.refl _|exact ZR.refl _|refine⟨?_,?_⟩|refine ZR.cells ?_|refine ZH.agg ?_|refine ZH.tup ?_));(all_goals (first|exact XZ|skip)))
 rintro⟨i,now,s,out⟩ ⟨hi,hlen,hnow,hall,hpw,hst,hasc⟩
 refine wS ?_
 refine⟨fun hb=>?_,fun hb=>?_⟩
 ·simp only[decide_eq_true_eq]at hb
  have hLi:=hL.bd (i-1) (by omega)
  have hLn:nt Int 0 L ((i:Int)-1)=L.getD (i-1) 0:=by rw[hnt];congr 1;omega
  have hLl:=hL.len
  refine wS ?_
  apply Zig.join3 (P:=fun(x y s8:Int)=>0≤y∧y≤20)
  ·intro M
   refine cL0 [0] (c17 s 20 (by omega)) fun r h₂ hp=>?_
   (try simp only[Zd,Zc,Za hnt]at hp)
   obtain⟨x,s7,hx,rfl,rfl⟩:=hp
   refine wS ?_
   refine⟨?_,?_⟩
   ·skip
    refine cL0 [0] (Zjm s7 [0,x] (by simp)) fun r h₂ hp=>?_
    (try simp only[Zd,Zc,Za hnt]at hp)
    obtain⟨y,s8,hy,rfl,rfl⟩:=hp
    have hy:0≤y∧y≤20:=by simp at hy;omega
    refine wS ?_
    exact M x y s8 hy
   ·refine wS ?_
    refine cL0 [0] (Zjm s7 [0,x] (by simp)) fun r h₂ hp=>?_
    (try simp only[Zd,Zc,Za hnt]at hp)
    obtain⟨y,s8,hy,rfl,rfl⟩:=hp
    have hy:0≤y∧y≤20:=by simp at hy;omega
    refine wS ?_
    exact M x y s8 hy
  ·intro M
   refine wS ?_
   refine cL0 [0] (c17 s 20 (by omega)) fun r h₂ hp=>?_
   (try simp only[Zd,Zc,Za hnt]at hp)
   obtain⟨x,s7,hx,rfl,rfl⟩:=hp
   refine wS ?_
   refine cL0 [0] (Zjm s7 [0,x] (by simp)) fun r h₂ hp=>?_
   (try simp only[Zd,Zc,Za hnt]at hp)
   obtain⟨y,s8,hy,rfl,rfl⟩:=hp
   have hy:0≤y∧y≤20:=by simp at hy;omega
   refine wS ?_
   refine SC.mono (M x y s8 hy) fun r h' hr=>?_
   revert hr
   generalize YJ _ _ _ _ _ _=z
   cases z with
   |none=>exact id
   |some z=>exact fun h=>ZpL (by decide) h
  intro x y s8 hy
  rw[hLn]
  refine cL0 [0] (c22 s8 10 50 (by omega) (by omega)) fun r h₂ hp=>?_
  (try simp only[Zd,Zc,Za hnt]at hp)
  obtain⟨q,s9,hq,rfl,rfl⟩:=hp
  refine wS ?_
  obtain⟨j,rfl⟩:∃j,i=j+1:=⟨i-1,by omega⟩
  refine⟨(j,now+y+q,s9,out++[⟨L.getD j 0,0,60+now,60+now+y⟩]),⟨by omega,by simp only[List.length_append,List.length_cons,List.length_nil];omega,by simp only[List.length_append,List.length_cons,List.length_nil];omega,?_,?_,?_,?_⟩,by show j+0<j+1+0;omega,?_⟩
  ·intro x hx
   rcases List.mem_append.1 hx with hx|hx
   ·have:=hall x hx
    refine⟨this.1,this.2.1,this.2.2.1,this.2.2.2.1,?_⟩
    show x.depart<60+(now+y+q)
    omega
   ·simp only[List.mem_singleton]at hx
    subst hx
    simp only[Nat.add_sub_cancel]at hLi
    dsimp only
    omega
  ·refine List.pairwise_append.2 ⟨hpw,List.pairwise_singleton _ _,fun c hc e he=>?_⟩
   simp only[List.mem_singleton]at he
   subst he
   obtain⟨k,hk1,hk2,hk3⟩:=hst c hc
   dsimp only
   rw[hk3]
   intro e
   have:=hL.inj _ _ (by omega) (by omega) e
   omega
  ·intro x hx
   rcases List.mem_append.1 hx with hx|hx
   ·obtain⟨k,hk1,hk2,hk3⟩:=hst x hx
    exact⟨k,by omega,hk2,hk3⟩
   ·simp only[List.mem_singleton]at hx
    subst hx
    exact⟨j,Nat.le_refl _,by omega,rfl⟩
  ·intro k hk
   simp only[List.length_append,List.length_cons,List.length_nil]at hk
   by_cases hk2:k+1<out.length
   ·simp only[List.getD_eq_getElem?_getD,List.getElem?_append_left hk2,List.getElem?_append_left (show k<out.length by omega)]
    simp only[←List.getD_eq_getElem?_getD]
    exact hasc k hk2
   ·have hk3:k+1=out.length:=by omega
    have hm:out.getD k default∈out:=by rw[List.getD_eq_getElem?_getD,List.getElem?_eq_getElem (by omega)];exact List.getElem_mem _
    have:=hall _ hm
    have e2:(out++[(⟨L.getD j 0,0,60+now,60+now+y⟩:Stop)]).getD (k+1) default=⟨L.getD j 0,0,60+now,60+now+y⟩:=by rw[hk3];simp[List.getD_eq_getElem?_getD]
    have e3:(out++[(⟨L.getD j 0,0,60+now,60+now+y⟩:Stop)]).getD k default=out.getD k default:=by simp only[List.getD_eq_getElem?_getD,List.getElem?_append_left (show k<out.length by omega)]
    rw[e2,e3]
    exact this.2.2.2.2
  ·exact ZK
 ·simp only[decide_eq_false_iff_not]at hb
  refine wS ?_
  refine⟨.agg (encTrain ⟨number,127,out⟩),[XB s],?_,⟨number,127,out⟩,s,⟨⟨rfl,by dsimp only;omega,by dsimp only;omega,fun x hx=>?_,hpw⟩,rfl,fun x hx=>?_,hasc⟩,rfl,rfl⟩
  ·unfold encTrain
   simp only[Za hnt]
   exact ZK
  ·have:=hall x hx
   exact⟨this.1,this.2.1,this.2.2.1,this.2.2.2.1,by omega⟩
  ·have:=hall x hx
   omega
theorem ZvI (l:List Sp.ZM) (w:Sp.ZM) (hl:l.length≤1000000):SC (fun _=>Tryz.prog) 76 [lst 4 QR default l,.agg (QR w)] [] fun v h=>v= .bool (fun _=>l.any fun x=>decide (x.feeder=w.feeder∧x.train=w.train∧x.station=w.station))∧h=[]:=by
 obtain⟨nt,hnt⟩:=Zu
 generalize hE:(l.any fun x=>decide (x.feeder=w.feeder∧x.train=w.train∧x.station=w.station))=E
 unfold QR
 simp only[Za hnt]
 refine Qv Tryz.func76 (body:=Zk Tryz.f76) rfl (by decide+kernel) ?_
 refine wS ?_
 refine ZS false false [] [0,3,5] [] (fun(i:Nat)=>[(5,.int .i64 fun _=>i)]) (fun _=>[]) (fun i=>i≤l.length∧(l.drop i).any (fun x=>decide (x.feeder=w.feeder∧x.train=w.train∧x.station=w.station))=E) (fun i=>l.length-i+0) 0 ⟨Nat.zero_le _,hE⟩ ?_ ?_
 ·exact ZK
 rintro i ⟨hi,hp⟩
 refine wS ?_
 refine⟨fun hb=>?_,fun hb=>?_⟩
 ·have hb:=of_decide_eq_true hb
  have hd:=Qu (d:=default) hnt (l:=l) (i:=i) (by omega)
  rw[hd,List.any_cons]at hp
  generalize hx:nt Sp.ZM default l i=x at*
  refine vS ?_
  try simp only[hx]
  try refine Chk.mk (Qd) ?_
  have he:(bif (bif x.feeder==w.feeder then x.train==w.train else false)then x.station==w.station else false)=decide (x.feeder=w.feeder∧x.train=w.train∧x.station=w.station):=by
   by_cases e1:x.feeder=w.feeder<;>by_cases e2:x.train=w.train<;>by_cases e3:x.station=w.station<;>simp[e1,e2,e3]
  refine⟨fun h9=>?_,fun h9=>?_⟩
  ·rw[he]at h9
   rw[h9,Bool.true_or]at hp
   subst hp
   (cbv;(try simp only[nc]at*);(try refine Chk.mk (Qd) ?_))
   (try first|exact⟨rfl,trivial⟩|exact⟨trivial,trivial⟩)
  ·rw[he]at h9
   rw[h9,Bool.false_or]at hp
   refine wS ?_
   refine⟨i+1,⟨by omega,hp⟩,by show l.length-(i+1)+0<l.length-i+0;omega,?_⟩
   exact ZK
 ·have hb:=of_decide_eq_false hb
  rw[List.drop_eq_nil_of_le (by omega),List.any_nil]at hp
  subst hp
  (cbv;(try simp only[nc]at*);(try refine Chk.mk (Qd) ?_))
  (try first|exact⟨rfl,trivial⟩|exact⟨trivial,trivial⟩)
end Go.Proofs.YtjgpiclllehgmaaGreat.Vm
namespace Go.Proofs.YtjgpiclllehgmaaGreat.Vm
open Go Go.Proofs Sp
set_option maxRecDepth 100000
set_option maxHeartbeats 1600000
theorem Zha.with {zones n m:Int} {t u:Train} (ht:Zha zones 4 n t) (hu:Zha zones 4 m u):Zha zones 4 n ⟨t.number,t.days,u.stops⟩:=⟨ht.number,ht.days,hu.len,hu.stop,hu.nodup⟩
attribute [local irreducible] Dn
set_option maxHeartbeats 800000
theorem c39 (a b:List Int) (ha:a.length≤1000000000):SC (fun _=>Tryz.prog) 47 [lst 1 XJ 0 a,lst 1 XJ 0 b] [] fun r h=>r= .bool (fun _=>decide (a=b))∧h=[]:=by
 obtain⟨nt,hnt⟩:=Zu
 rw[Za hnt,Za hnt]
 refine Qv Tryz.func47 (body:=Zk Tryz.f47) rfl (by decide+kernel) ?_
 refine wS ?_
 refine⟨fun hb=>?_,fun hb=>?_⟩
 ·simp only[bne_iff_ne,ne_eq]at hb
  refine wS ?_
  refine⟨?_,trivial⟩
  rw[decide_eq_false (fun h=>hb (by rw[h]))]
 simp only[bne_eq_false_iff_eq]at hb
 refine wS ?_
 refine ZiP [0,1,5] (fun i:Nat=>mkS 26 [(0,.isl 1 (fun _=>(a.length:Int)) (fun e=>XJ (nt Int 0 a (e ()))) .none),(1,.isl 1 (fun _=>(b.length:Int)) (fun e=>XJ (nt Int 0 b (e ()))) .none),(5,.int .i64 fun _=>(i:Int))]) (fun _=>[])
  (fun i=>i≤a.length∧(a=b↔a.drop i=b.drop i)) (fun i=>a.length-i+0) 0 0 (fun _=>rfl) ⟨Nat.zero_le _,by simp⟩ (To.of [] ?_) ?_
 ·cbv
  exact⟨⟨.refl _,.refl _,.int rfl,trivial⟩,trivial⟩
 rintro i ⟨hi,hp⟩
 refine wS ?_
 refine⟨fun hb'=>?_,fun hb'=>?_⟩
 ·simp only[decide_eq_true_eq]at hb'
  have hd:=Qu (d:=(0:Int)) hnt (l:=a) (i:=i) (by omega)
  have hd':=Qu (d:=(0:Int)) hnt (l:=b) (i:=i) (by omega)
  rw[hd,hd']at hp
  refine wS ?_
  refine⟨fun hb''=>?_,fun hb''=>?_⟩
  ·simp only[bne_iff_ne,ne_eq]at hb''
   refine wS ?_
   exact⟨by rw[decide_eq_false (fun h=>hb'' (List.cons.inj (hp.1 h)).1)],trivial⟩
  ·simp only[bne_eq_false_iff_eq]at hb''
   refine wS ?_
   refine⟨i+1,⟨by omega,by rw[hp,hb''];simp⟩,by show a.length-(i+1)+0<a.length-i+0;omega,To.of [] ?_⟩
   cbv
   exact⟨⟨.refl _,.refl _,.int rfl,trivial⟩,trivial⟩
 ·simp only[decide_eq_false_iff_not]at hb'
  have h1:a.drop i=[]:=List.drop_eq_nil_of_le (by omega)
  have h2:b.drop i=[]:=List.drop_eq_nil_of_le (by omega)
  rw[h1,h2]at hp
  have hp:a=b:=hp.2 rfl
  subst hp
  refine wS ?_
  exact⟨by simp,trivial⟩
end Go.Proofs.YtjgpiclllehgmaaGreat.Vm
namespace Go.Proofs.YtjgpiclllehgmaaGreat.Vm
open Go Go.Proofs Sp
set_option maxRecDepth 100000
def sl (s:Nat) (rows:List (List AV)):AV:=.isl s (fun _=>(rows.length:Int)) (fun e=>rows.getD (e ()).toNat (rows.headD [])) .none
set_option maxHeartbeats 4000000
set_option maxHeartbeats 800000
open Sp
set_option maxHeartbeats 1600000
theorem nb5 {a b:Bool} (h1:a=true) (h2:b=true):(bif a then b else false)=true:=by rw[h1,h2];rfl
theorem nb6 {a b:Bool} (h1:a=false) (h2:b=false):(bif a then true else b)=false:=by rw[h1,h2];rfl
theorem c72 (n a b:Int):SC (fun _=>Tryz.prog) 141 [.int .i64 fun _=>n,.int .i64 fun _=>a,.int .i64 fun _=>b] [] fun r h=>r= .bool (fun _=>Yz n a b)∧h=[]:=by
 refine Qv Tryz.func141 (body:=Zk Tryz.f141) rfl (by decide+kernel) ?_
 cbv
 try simp only[nc]at*
 refine⟨by simp[QW,QV,Q3,QU,Cn.p],?_,trivial⟩
 congr 1;funext _;unfold Yz;cases decide (a≤n)<;>rfl
theorem c70 (z:Zone) (hlen:z.chs.length≤1000000):SC (fun _=>Tryz.prog) 139 [Zd z] [] fun v h=>v= .int .i64 (fun _=>Zx z)∧h=[]:=by
 obtain⟨nt,hnt⟩:=Zu
 unfold Zd Zx
 rw[Za hnt]
 refine Qv Tryz.func139 (body:=Zk Tryz.f139) rfl (by decide+kernel) ?_
 (cbv;(try simp only[nc]at*);(try refine Chk.mk (Qd) ?_))
 refine ZY (c72 z.base (-720) 720) (by first|rfl|(simp only[Zd,Za hnt];rfl)) fun r h₂ hp=>?_
 (try simp only[Zd,Za hnt]at hp)
 obtain⟨rfl,rfl⟩:=hp
 (cbv;(try simp only[nc]at*);(try refine Chk.mk (Qd) ?_))
 refine⟨fun h1=>?_,fun h1=>?_⟩
 ·rw[if_pos h1]
  (cbv;(try simp only[nc]at*);(try refine Chk.mk (Qd) ?_))
  (try first|exact⟨rfl,trivial⟩|exact⟨trivial,trivial⟩)
 rw[if_neg (by rw[h1];exact Bool.false_ne_true)]
 refine⟨fun h2=>?_,fun h2=>?_⟩
 ·simp only[decide_eq_true_eq]at h2
  rw[if_pos (by omega)]
  (cbv;(try simp only[nc]at*);(try refine Chk.mk (Qd) ?_))
  (try first|exact⟨rfl,trivial⟩|exact⟨trivial,trivial⟩)
 simp only[decide_eq_false_iff_not]at h2
 rw[if_neg (by omega)]
 generalize hC:YS none z.chs=C at*
 (cbv;(try simp only[nc]at*);(try refine Chk.mk (Qd) ?_))
 refine ZS false false [] [1,3] [] (fun(i:Nat)=>[(3,.int .i64 fun _=>(i:Int))]) (fun _=>[]) (fun i=>i≤z.chs.length∧YS (if i=0 then none else some (nt Chg default z.chs ((i:Int)-1)).at_) (z.chs.drop i)=C) (fun i=>z.chs.length-i+0) 0 ⟨Nat.zero_le _,by simpa using hC⟩ ?_ ?_
 ·(refine To.of [] ?_;cbv;(try simp only[nc]);(repeat' (first|exact trivial|exact ZH.refl _|exact ZR.refl _|refine⟨?_,?_⟩|refine ZR.cells ?_|refine ZH.agg ?_|refine ZH.tup ?_));(all_goals (first|exact XZ|skip)))
 rintro i ⟨hi,hp⟩
 (cbv;(try simp only[nc]at*);(try refine Chk.mk (Qd) ?_))
 refine⟨fun hb=>?_,fun hb=>?_⟩
 ·simp only[decide_eq_true_eq]at hb
  have hil:i<z.chs.length:=by omega
  rw[Qu (d:=default) hnt hil,Yw]at hp
  have hnx:(if i+1=0 then none else some (nt Chg default z.chs (((i+1:Nat):Int)-1)).at_)=some (nt Chg default z.chs (i:Int)).at_:=by
   rw[if_neg (by omega)];congr 3;omega
  generalize hc:nt Chg default z.chs (i:Int)=c at*
  have hlow:(bif decide (0<(i:Int))then decide (c.at_≤(nt Chg default z.chs ((i:Int)-1)).at_)else false)=leP (if i=0 then none else some (nt Chg default z.chs ((i:Int)-1)).at_) c.at_:=by
   by_cases h0:i=0
   ·subst h0;rfl
   ·rw[if_neg h0,decide_eq_true (show 0<(i:Int) by omega)];rfl
  rw[←hlow]at hp
  have k1:=c72 c.at_ 0 43200
  have k2:=c72 c.by_ (-180) 180
  generalize Yz c.at_ 0 43200=b1 at*
  generalize Yz c.by_ (-180) 180=b2 at*
  (cbv;try simp only[nc]at*)
  simp only[hc]
  refine Chk.mk (Qd) ?_
  refine ZY (k1) (by first|rfl|(simp only[Zd,Za hnt];rfl)) fun r h₂ hp=>?_
  (try simp only[Zd,Za hnt]at hp)
  obtain⟨rfl,rfl⟩:=hp
  (cbv;(try simp only[nc]at*);(try refine Chk.mk (Qd) ?_))
  refine⟨fun h3=>?_,fun h3=>?_⟩
  ·rw[if_pos h3]at hp
   rw[←hp]
   (cbv;(try simp only[nc]at*);(try refine Chk.mk (Qd) ?_))
   (try first|exact⟨rfl,trivial⟩|exact⟨trivial,trivial⟩)
  rw[if_neg (by rw[h3];exact Bool.false_ne_true)]at hp
  (cbv;(try simp only[nc]at*);(try refine Chk.mk (Qd) ?_))
  refine⟨fun h4=>?_,fun h4=>?_⟩
  ·rw[if_pos h4]at hp
   rw[←hp]
   (cbv;(try simp only[nc]at*);(try refine Chk.mk (Qd) ?_))
   (try first|exact⟨rfl,trivial⟩|exact⟨trivial,trivial⟩)
  rw[if_neg (by rw[h4];exact Bool.false_ne_true)]at hp
  (cbv;(try simp only[nc]at*);(try refine Chk.mk (Qd) ?_))
  refine ZY (k2) (by first|rfl|(simp only[Zd,Za hnt];rfl)) fun r h₂ hp=>?_
  (try simp only[Zd,Za hnt]at hp)
  obtain⟨rfl,rfl⟩:=hp
  (cbv;(try simp only[nc]at*);(try refine Chk.mk (Qd) ?_))
  refine⟨fun h5=>?_,fun h5=>?_⟩
  ·have h5':(!b2||decide (c.by_=0))=true:=by
    cases b2
    ·rfl
    ·simpa using h5
   rw[if_pos h5']at hp
   rw[←hp]
   (cbv;(try simp only[nc]at*);(try refine Chk.mk (Qd) ?_))
   (try first|exact⟨rfl,trivial⟩|exact⟨trivial,trivial⟩)
  ·have h5':¬(!b2||decide (c.by_=0))=true:=by
    cases b2
    ·simp at h5
    ·simpa using h5
   rw[if_neg h5']at hp
   (cbv;(try simp only[nc]at*);(try refine Chk.mk (Qd) ?_))
   refine⟨i+1,⟨by omega,by rw[hnx];exact hp⟩,by show z.chs.length-(i+1)+0<z.chs.length-i+0;omega,?_⟩
   (refine To.of [] ?_;cbv;(try simp only[nc]);(repeat' (first|exact trivial|exact ZH.refl _|exact ZR.refl _|refine⟨?_,?_⟩|refine ZR.cells ?_|refine ZH.agg ?_|refine ZH.tup ?_));(all_goals (first|exact XZ|skip)))
 ·have hie:z.chs.length≤i:=by simp only[decide_eq_false_iff_not]at hb;omega
  rw[List.drop_eq_nil_of_le hie,ZcC]at hp
  rw[←hp]
  (cbv;(try simp only[nc]at*);(try refine Chk.mk (Qd) ?_))
  (try first|exact⟨rfl,trivial⟩|exact⟨trivial,trivial⟩)
attribute [local irreducible] Dn
def ZiB:Int→List Chg→Int→Int
 |a,[],_=>a
 |a,c::r,k=>ZiB (if c.at_≤k then a+c.by_ else a) r k
theorem Zld {k:Int}:∀ {l:List Chg} {a lo:Int},Asc lo l→k<lo→ZiB a l k=a
 |[],_,_,_,_=>rfl
 |c::r,a,lo,h,hk=>by
  unfold ZiB
  rw[if_neg (by have:=h.1;omega)]
  exact Zld h.2 (by have:=h.1;omega)
theorem Zle {k:Int}:∀ {l:List Chg} {a lo:Int},Asc lo l→ZiB a l k=af a l k
 |[],_,_,_=>rfl
 |c::r,a,lo,h=>by
  unfold ZiB af
  by_cases hc:c.at_≤k
  ·rw[if_pos hc,if_pos hc];exact Zle h.2
  ·rw[if_neg hc,if_neg hc];exact Zld h.2 (by omega)
theorem c97 (z:Zone) (t:Int) (hz:Zx z=0):SC (fun _=>Tryz.prog) 198 [Zd z,.int .i64 fun _=>t] [] fun v h=>v= .int .i64 (fun _=>af z.base z.chs t)∧h=[]:=by
 obtain⟨nt,hnt⟩:=Zu
 obtain⟨ha,hb,hl,h1,h2⟩:=ZbN hz
 rw[←Zle (a:=z.base) (k:=t) ha]
 generalize hR:ZiB z.base z.chs t=R at*
 refine Qv Tryz.func198 (body:=Zk Tryz.f198) rfl (by decide+kernel) ?_
 unfold Zd
 simp only[Za hnt]
 refine wS ?_
 refine ZS false false [] [1,2,5,6] [] (fun(⟨i,n⟩:Nat×Int)=>[(5,.int .i64 fun _=>n),(6,.int .i64 fun _=>(i:Int))]) (fun _=>[]) (fun⟨i,n⟩=>i≤z.chs.length∧(-720-180*(i:Int)≤n∧n≤720+180*(i:Int))∧ZiB n (z.chs.drop i) t=R) (fun i=>z.chs.length-i.1+0) (0,z.base) ⟨Nat.zero_le _,by simp;omega,by simpa using hR⟩ ?_ ?_
 ·exact ZK
 rintro⟨i,n⟩ ⟨hi,hn,hp⟩
 have hi:i≤z.chs.length:=hi
 have hn:-720-180*(i:Int)≤n∧n≤720+180*(i:Int):=hn
 refine wS ?_
 refine⟨fun hb1=>?_,fun hb1=>?_⟩
 ·simp only[decide_eq_true_eq]at hb1
  have hil:i<z.chs.length:=by omega
  rw[Qu (d:=default) hnt hil]at hp
  have hc:=hb _ (QQ (d:=default) hnt (l:=z.chs) (i:=i) hil)
  have hp:ZiB (if(nt Chg default z.chs (i:Int)).at_≤t then n+(nt Chg default z.chs (i:Int)).by_ else n) (z.chs.drop (i+1)) t=R:=hp
  generalize hx:nt Chg default z.chs (i:Int)=c at*
  refine vS ?_
  simp only[hx]
  refine Chk.mk (Qd) ?_
  refine⟨fun h3=>?_,fun h3=>?_⟩
  ·rw[if_pos (by simpa using h3)]at hp
   refine vS ?_
   simp only[hx]
   refine Chk.mk (Qd) ?_
   refine⟨(i+1,n+c.by_),⟨by show i+1≤z.chs.length;omega,by dsimp only;omega,hp⟩,by show z.chs.length-(i+1)+0<z.chs.length-i+0;omega,?_⟩
   exact ZK
  ·rw[if_neg (by simpa using h3)]at hp
   refine wS ?_
   refine⟨(i+1,n),⟨by show i+1≤z.chs.length;omega,by dsimp only;omega,hp⟩,by show z.chs.length-(i+1)+0<z.chs.length-i+0;omega,?_⟩
   exact ZK
 ·have hie:z.chs.length≤i:=by simp only[decide_eq_false_iff_not]at hb1;omega
  rw[List.drop_eq_nil_of_le hie]at hp
  have hp:n=R:=hp
  rw[←hp]
  (cbv;(try simp only[nc]at*);(try refine Chk.mk (Qd) ?_))
  (try first|exact⟨rfl,trivial⟩|exact⟨trivial,trivial⟩)
def cl (p:Pc):Pc:=if p.bef=Xo then⟨p.fr,-1,p.ahd⟩else p
def Zof (z:Zone):List Pc:=(ZV z).map cl
def X3 (a:Int) (l:List Chg):Int:=l.foldl (fun a c=>a+c.by_) a
theorem Zpy:∀(l1 l2:List Chg) (a k:Int),(∀c∈l1,c.at_≤k)→af a (l1++l2) k=af (X3 a l1) l2 k
 |[],_,_,_,_=>rfl
 |c::r,l2,a,k,h=>by
  have e:af a (c::r++l2) k=if c.at_≤k then af (a+c.by_) (r++l2) k else a:=rfl
  rw[e,if_pos (h c (List.mem_cons_self ..)),Zpy r l2 _ _ (fun x hx=>h x (List.mem_cons_of_mem _ hx))]
  rfl
theorem ZjS (a:Int) (l:List Chg) (c:Chg):X3 a (l++[c])=X3 a l+c.by_:=by unfold X3;rw[List.foldl_append];rfl
structure Zaz (z:Zone) (i:Nat) (f:Int) (out:List Pc):Prop where
 le:i≤z.chs.length
 eq:Zof z=out++(QN f (X3 z.base (z.chs.take i)) (z.chs.drop i)).map cl
 lo:∀c∈z.chs.take i,c.at_≤f
 fr:0≤f∧f≤43200
 asc:Asc (if i=0 then f else f+1) (z.chs.drop i)
 zero:i=0→f=0
 len:out.length≤i
theorem ZlK {z:Zone} (h:Zx z=0):Zaz z 0 0 []:=by
 obtain⟨ha,hb,hl,h1,h2⟩:=ZbN h
 exact⟨Nat.zero_le _,rfl,by simp,by omega,by simpa using ha,fun _=>rfl,by simp⟩
theorem Zaz.ahd {z:Zone} {i:Nat} {f:Int} {out:List Pc} (h:Zaz z i f out) (hn:∀c∈(z.chs.drop i).head?,f<c.at_):af z.base z.chs f=X3 z.base (z.chs.take i):=by
 have e:z.chs=z.chs.take i++z.chs.drop i:=(List.take_append_drop ..).symm
 rw[e,Zpy _ _ _ _ h.lo,←e]
 cases hd:z.chs.drop i with
 |nil=>rfl
 |cons c r=>
  rw[hd]at hn
  have hc:=hn c rfl
  unfold af
  rw[if_neg (by omega)]
theorem Zaz.step {z:Zone} {i:Nat} {f:Int} {out:List Pc} {c:Chg} (hz:Zx z=0) (h:Zaz z i f out) (hi:i<z.chs.length) (hc:z.chs.drop i=c::z.chs.drop (i+1)) (ht:z.chs.take (i+1)=z.chs.take i++[c]):
  (c.at_=0→Zaz z (i+1) c.at_ out)∧(c.at_≠0→af z.base z.chs f=X3 z.base (z.chs.take i)∧Zaz z (i+1) c.at_ (out++[⟨f,c.at_,X3 z.base (z.chs.take i)⟩])):=by
 obtain⟨ha,hb,hl,h1,h2⟩:=ZbN hz
 have hcm:c∈z.chs:=List.mem_of_mem_drop (i:=i) (by rw[hc];exact List.mem_cons_self ..)
 have hcb:=hb c hcm
 have hasc:=h.asc
 rw[hc]at hasc
 obtain⟨hlo,hrest⟩:=hasc
 have hfr:=h.fr
 have hle:f≤c.at_:=by split at hlo<;>omega
 have hsum:X3 z.base (z.chs.take (i+1))=X3 z.base (z.chs.take i)+c.by_:=by rw[ht,ZjS]
 have hlo2:∀x∈z.chs.take (i+1),x.at_≤c.at_:=fun x hx=>by
  rw[ht]at hx
  rcases List.mem_append.1 hx with hx|hx
  ·have:=h.lo x hx;omega
  ·simp at hx;rw[hx];exact Int.le_refl _
 have hasc2:Asc (if i+1=0 then c.at_ else c.at_+1) (z.chs.drop (i+1)):=by rw[if_neg (by omega)];exact hrest
 have heq:=h.eq
 rw[hc]at heq
 have hlen:=h.len
 refine⟨fun h0=>?_,fun h0=>?_⟩
 ·have hf0:f=0:=by omega
  refine⟨hi,?_,hlo2,by omega,hasc2,fun h=>by omega,by omega⟩
  rw[heq,hsum]
  congr 1
  have e:QN f (X3 z.base (z.chs.take i)) (c::z.chs.drop (i+1))=QN c.at_ (X3 z.base (z.chs.take i)+c.by_) (z.chs.drop (i+1)):=if_neg (by omega)
  rw[e]
 ·have hlt:f<c.at_:=by
   by_cases hi0:i=0
   ·have:=h.zero hi0;omega
   ·rw[if_neg hi0]at hlo;omega
  refine⟨h.ahd (by rw[hc];intro x hx;simp at hx;rw[←hx];exact hlt),hi,?_,hlo2,by omega,hasc2,fun h=>by omega,by simp;omega⟩
  have e:QN f (X3 z.base (z.chs.take i)) (c::z.chs.drop (i+1))=⟨f,c.at_,X3 z.base (z.chs.take i)⟩::QN c.at_ (X3 z.base (z.chs.take i)+c.by_) (z.chs.drop (i+1)):=if_pos hlt
  have e2:cl ⟨f,c.at_,X3 z.base (z.chs.take i)⟩=⟨f,c.at_,X3 z.base (z.chs.take i)⟩:=if_neg (by unfold Xo;show¬c.at_=_;omega)
  rw[heq,e,List.map_cons,e2,hsum,List.append_assoc]
  rfl
theorem Zaz.last {z:Zone} {f:Int} {out:List Pc} (h:Zaz z z.chs.length f out):af z.base z.chs f=X3 z.base z.chs∧Zof z=out++[⟨f,-1,X3 z.base z.chs⟩]:=by
 have h1:=h.ahd (by rw[List.drop_length];intro c hc;cases hc)
 have h2:=h.eq
 rw[List.take_length]at h1 h2
 rw[List.drop_length]at h2
 exact⟨h1,h2⟩
theorem Zv7 (z:Zone) (hz:Zx z=0):SC (fun _=>Tryz.prog) 195 [Zd z] [] fun v h=>v=lst 3 Zem default (Zof z)∧h=[]:=by
 obtain⟨nt,hnt⟩:=Zu
 obtain⟨ha,hb,hl,h1,h2⟩:=ZbN hz
 have k97:=fun t=>c97 z t hz
 have hst:=ZlK hz
 generalize hS:Zof z=S at*
 refine SC.less (Qv Tryz.func195 (body:=Zk Tryz.f195) rfl (by decide+kernel) ?_)
 unfold Zd at*
 simp only[Za hnt]at*
 refine wS ?_
 refine ZS false false [] [1,3,4,5] [.tok 3 fun _=>0] (fun(⟨i,f,out⟩:Nat×Int×List Pc)=>[(3,.isl 3 (fun _=>(out.length:Int)) (fun e=>Zem (nt Pc default out (e ()))) (.own 1)),(4,.int .i64 fun _=>f),(5,.int .i64 fun _=>(i:Int))])
  (fun⟨i,f,out⟩=>[(1,.tok 3 fun _=>(out.length:Int))]) (fun⟨i,f,out⟩=>Zaz z i f out∨(i=z.chs.length+1∧out=S)) (fun i=>z.chs.length+1-i.1+0) (0,0,[]) (.inl hst) ?_ ?_
 ·(refine To.of [(3,false)] ?_;cbv;(try simp only[nc]);(repeat' (first|exact trivial|exact ZH.refl _|exact ZR.refl _|refine⟨?_,?_⟩|refine ZR.cells ?_|refine ZH.agg ?_|refine ZH.tup ?_));(all_goals (first|exact XZ|skip)))
 rintro⟨i,f,out⟩ hp
 have hp:Zaz z i f out∨(i=z.chs.length+1∧out=S):=hp
 have hol:out.length≤100∨out=S:=by
  rcases hp with h|⟨_,h⟩
  ·have:=h.len;have:=h.le;omega
  ·exact .inr h
 refine wS ?_
 refine⟨fun hb1=>?_,fun hb1=>?_⟩
 ·simp only[decide_eq_true_eq]at hb1
  have hs:Zaz z i f out:=by
   rcases hp with h|⟨h,_⟩
   ·exact h
   ·omega
  have hle:=hs.le
  have hlen:=hs.len
  have k97:=k97 f
  refine wS ?_
  refine⟨fun hb2=>?_,fun hb2=>?_⟩
  ·simp only[decide_eq_true_eq]at hb2
   have hil:i<z.chs.length:=by omega
   have hst2:=hs.step hz hil (Qu (d:=default) hnt hil) (ZcT (d:=default) hnt hil)
   generalize hc:nt Chg default z.chs (i:Int)=c at*
   refine vS ?_
   simp only[hc]
   refine Chk.mk (Qd) ?_
   refine⟨fun hb3=>?_,fun hb3=>?_⟩
   ·have h0:c.at_≠0:=by simpa using hb3
    obtain⟨g1,g2⟩:=hst2.2 h0
    rw[g1]at k97
    generalize X3 z.base (z.chs.take i)=A at*
    refine wS ?_
    refine ZY (k97) (by first|rfl|(simp only[Zd,Za hnt];rfl)) fun r h₂ hp=>?_
    (try simp only[Zd,Za hnt]at hp)
    obtain⟨rfl,rfl⟩:=hp
    refine wS ?_
    refine⟨(i+1,c.at_,out++[⟨f,c.at_,A⟩]),.inl g2,by show z.chs.length+1-(i+1)+0<z.chs.length+1-i+0;omega,?_⟩
    exact ZK
   ·have h0:c.at_=0:=by simpa using hb3
    have g2:=hst2.1 h0
    refine wS ?_
    refine⟨(i+1,c.at_,out),.inl g2,by show z.chs.length+1-(i+1)+0<z.chs.length+1-i+0;omega,?_⟩
    exact ZK
  ·simp only[decide_eq_false_iff_not]at hb2
   have hie:i=z.chs.length:=by omega
   obtain⟨g1,g2⟩:=(hie▸hs:Zaz z z.chs.length f out).last
   rw[g1]at k97
   rw[hS]at g2
   generalize X3 z.base z.chs=A at*
   refine wS ?_
   refine Br.isT rfl ?_
   refine wS ?_
   refine ZY (k97) (by first|rfl|(simp only[Zd,Za hnt];rfl)) fun r h₂ hp=>?_
   (try simp only[Zd,Za hnt]at hp)
   obtain⟨rfl,rfl⟩:=hp
   refine wS ?_
   refine⟨(i+1,-1,out++[⟨f,-1,A⟩]),.inr ⟨by rw[hie],g2.symm⟩,by show z.chs.length+1-(i+1)+0<z.chs.length+1-i+0;omega,?_⟩
   exact ZK
 ·simp only[decide_eq_false_iff_not]at hb1
  have ho:out=S:=by
   rcases hp with h|⟨_,h⟩
   ·have:=h.le;omega
   ·exact h
  rw[←ho]
  refine wS ?_
  refine⟨_,[],?_,rfl,rfl⟩
  exact ZK
theorem Zup {nt:(α:Type)→α→List α→Int→α} (hnt:∀(α:Type) (d:α) (l:List α) (i:Int),nt α d l i=l.getD i.toNat d) {l:List Pc} {i:Nat} (hi:i<l.length):nt Pc default (l.map cl) (i:Int)=cl (nt Pc default l (i:Int)):=by
 rw[hnt,hnt]
 simp[List.getD_eq_getElem?_getD,hi]
theorem Zuq (p:Pc):(cl p).fr=p.fr:=by unfold cl;split<;>rfl
theorem Ztf (p:Pc):(cl p).ahd=p.ahd:=by unfold cl;split<;>rfl
theorem Zfh:∀(l:List Chg) (fr a:Int),(∀c∈l,c.at_≤43200)→∀i,i<(QN fr a l).length→(((QN fr a l).getD i default).bef=Xo↔i+1=(QN fr a l).length)
 |[],fr,a,_,i,hi=>by
  have e:QN fr a []=[⟨fr,Xo,a⟩]:=rfl
  rw[e]at hi⊢
  have:i=0:=by simpa using hi
  subst this
  simp
 |c::r,fr,a,h,i,hi=>by
  have hc:=h c (List.mem_cons_self ..)
  have ih:=Zfh r c.at_ (a+c.by_) (fun x hx=>h x (List.mem_cons_of_mem _ hx))
  have hl:=(Zal r c.at_ (a+c.by_)).1
  by_cases hlt:fr<c.at_
  ·have e:QN fr a (c::r)=⟨fr,c.at_,a⟩::QN c.at_ (a+c.by_) r:=if_pos hlt
   rw[e]at hi⊢
   cases i with
   |zero=>
    simp only[List.getD_cons_zero,List.length_cons]
    unfold Xo
    constructor<;>intro h<;>omega
   |succ i=>
    simp only[List.getD_cons_succ,List.length_cons]
    rw[ih i (by simpa using hi)]
    omega
  ·have e:QN fr a (c::r)=QN c.at_ (a+c.by_) r:=if_neg hlt
   rw[e]at hi⊢
   exact ih i hi
theorem ZuT (z:Zone) (r a:Int) (hz:Zx z=0) (hr:-1000000≤r∧r≤1000000) (ha:0≤a∧a<Xo):SC (fun _=>Tryz.prog) 190 [Zd z,.int .i64 fun _=>r,.int .i64 fun _=>a] [] fun v h=>v= .int .i64 (fun _=>QY (ZV z) r a)∧h=[]:=by
 obtain⟨nt,hnt⟩:=Zu
 have k2:=Zv7 z hz
 obtain⟨k4,k5⟩:=Zdo hz
 have hop:=Zfh z.chs 0 z.base (fun c hc=>((ZbN hz).2.1 c hc).2.1)
 have hl1:=(Zal z.chs 0 z.base).1
 change∀i,i<(ZV z).length→(((ZV z).getD i default).bef=Xo↔i+1=(ZV z).length)at hop
 change 1≤(ZV z).length at hl1
 unfold Xo at*
 refine Qv Tryz.func190 (body:=Zk Tryz.f190) rfl (by decide+kernel) ?_
 unfold Zd at*
 simp only[Za hnt]at*
 unfold Zof at k2
 generalize ZV z=L at*
 have hLl:(L.map cl).length=L.length:=List.length_map ..
 generalize hW:QY L r a=W at*
 refine wS ?_
 refine ZY (k2) (by first|rfl|(simp only[Zd,Za hnt];rfl)) fun r h₂ hp=>?_
 (try simp only[Zd,Za hnt]at hp)
 obtain⟨rfl,rfl⟩:=hp
 refine wS ?_
 refine ZS false false [] [1,2,7,8] [] (fun(i:Nat)=>[(8,.int .i64 fun _=>(i:Int))]) (fun _=>[]) (fun i=>i<L.length∧QY (L.drop i) r a=W) (fun i=>L.length-i+0) 0 ⟨by omega,by simpa using hW⟩ ?_ ?_
 ·exact ZK
 intro i hpp
 have hi:i<L.length:=hpp.1
 have hp:QY (L.drop i) r a=W:=hpp.2
 clear hpp
 have hq:=k5 _ (QQ (d:=default) hnt (l:=L) (i:=i) hi)
 have hopi:=hop i hi
 have e1:L.getD i default=nt Pc default L (i:Int):=by rw[hnt];rfl
 rw[e1]at hopi
 rw[Qu (d:=default) hnt hi,QY]at hp
 have hcl:=Zup hnt (l:=L) hi
 generalize nt Pc default L (i:Int)=p at*
 have hah:=Ztf p
 have hfr:=Zuq p
 have hbe:(cl p).bef=if p.bef=1099511627776 then-1 else p.bef:=by
  unfold cl Xo
  split<;>rfl
 generalize cl p=q at*
 have hmx:(if(if q.fr<a then a else q.fr)<r-q.ahd then r-q.ahd else(if q.fr<a then a else q.fr))=max p.fr (max a (r-p.ahd)):=by
  rw[hfr,hah]
  split<;>split<;>omega
 have hmb:0≤max p.fr (max a (r-p.ahd))∧max p.fr (max a (r-p.ahd))<1099511627776:=by omega
 refine vS ?_
 simp only[hcl]
 refine Chk.mk (Qd) ?_
 simp only[hmx]
 generalize max p.fr (max a (r-p.ahd))=M at*
 refine⟨fun hb2=>?_,fun hb2=>?_⟩
 ·have hc:M<p.bef:=by
   by_cases h:p.bef=1099511627776
   ·omega
   ·rw[if_neg h]at hbe
    rw[hbe,decide_eq_false (by omega)]at hb2
    simpa using hb2
  rw[if_pos hc]at hp
  rw[←hp]
  (cbv;(try simp only[nc]at*);(try refine Chk.mk (Qd) ?_))
  (try first|exact⟨rfl,trivial⟩|exact⟨trivial,trivial⟩)
 ·have hc:¬M<p.bef:=by
   intro h'
   by_cases h:p.bef=1099511627776
   ·rw[if_pos h]at hbe
    rw[hbe]at hb2
    simp at hb2
   ·rw[if_neg h]at hbe
    rw[hbe,decide_eq_false (by omega),decide_eq_true h']at hb2
    cases hb2
  rw[if_neg hc]at hp
  have hi2:i+1<L.length:=by
   rcases Nat.lt_or_ge (i+1) L.length with h|h
   ·exact h
   ·have:=hopi.2 (by omega);omega
  refine wS ?_
  refine⟨i+1,⟨hi2,hp⟩,by show L.length-(i+1)+0<L.length-i+0;omega,?_⟩
  exact ZK
theorem Zjx {α:Type} [Inhabited α] {nt:(α:Type)→α→List α→Int→α} (hnt:∀(α:Type) (d:α) (l:List α) (i:Int),nt α d l i=l.getD i.toNat d) {q:α→Bool} {l:List α} {k:Nat} (hk:k<l.length):(l.take (k+1)).any q=((l.take k).any q||q (nt α default l (k:Int))):=by
 rw[ZcT (d:=default) hnt hk,List.any_append]
 simp
theorem Zjq {nt:(α:Type)→α→List α→Int→α} (hnt:∀(α:Type) (d:α) (l:List α) (i:Int),nt α d l i=l.getD i.toNat d) (b:XE):Zc b= .agg [.isl 2 (fun _=>(b.zones.length:Int)) (fun e=>encZone (nt Zone default b.zones (e ()))) .none,.isl 3 (fun _=>(b.old.length:Int)) (fun e=>encTrain (nt Train default b.old (e ()))) .none,.isl 3 (fun _=>(b.new.length:Int)) (fun e=>encTrain (nt Train default b.new (e ()))) .none,.int .i64 fun _=>b.night,.int .i64 fun _=>b.last]:=by
 unfold Zc;simp only[Za hnt]
theorem Zv5 (b:XE) (l:List Stop) (hz:b.zones.length≤1000000) (hl:l.length≤1000000):SC (fun _=>Tryz.prog) 181 [Zc b,lst 4 Qz default l] [] fun v h=>v= .int .i64 (fun _=>if ZO l.length 2 4≠0 then ZO l.length 2 4 else YH b.zones.length l)∧h=[]:=by
 obtain⟨nt,hnt⟩:=Zu
 generalize hE:(if ZO l.length 2 4≠0 then ZO l.length 2 4 else YH b.zones.length l)=E
 unfold Zc
 simp only[Za hnt]
 refine Qv Tryz.func181 (body:=Zk Tryz.f181) rfl (by decide+kernel) ?_
 refine wS ?_
 refine⟨fun h1=>?_,fun h1=>?_⟩
 ·simp only[decide_eq_true_eq]at h1
  rw[show ZO l.length 2 4=7 by unfold ZO;rw[if_pos (by omega)],if_pos (by decide)]at hE
  subst hE
  (cbv;(try simp only[nc]at*);(try refine Chk.mk (Qd) ?_))
  (try first|exact⟨rfl,trivial⟩|exact⟨trivial,trivial⟩)
 simp only[decide_eq_false_iff_not]at h1
 refine wS ?_
 refine⟨fun h2=>?_,fun h2=>?_⟩
 ·simp only[decide_eq_true_eq]at h2
  rw[show ZO l.length 2 4=6 by unfold ZO;rw[if_neg (by omega),if_pos (by omega)],if_pos (by decide)]at hE
  subst hE
  (cbv;(try simp only[nc]at*);(try refine Chk.mk (Qd) ?_))
  (try first|exact⟨rfl,trivial⟩|exact⟨trivial,trivial⟩)
 simp only[decide_eq_false_iff_not]at h2
 rw[show ZO l.length 2 4=0 by unfold ZO;rw[if_neg (by omega),if_neg (by omega)],if_neg (by decide)]at hE
 refine wS ?_
 refine ZS false false [] [1,2,5] [] (fun(i:Nat)=>[(5,.int .i64 fun _=>(i:Int))]) (fun _=>[]) (fun i=>i≤l.length∧Zv (Q5 b.zones.length l) i (l.length-i)=E) (fun i=>l.length-i+0) 0 ⟨Nat.zero_le _,by simpa [YH]using hE⟩ ?_ ?_
 ·exact ZK
 rintro i ⟨hi,hp⟩
 refine wS ?_
 refine⟨fun hb=>?_,fun hb=>?_⟩
 ·simp only[decide_eq_true_eq]at hb
  obtain⟨q,hq⟩:∃q,l.length-i=q+1:=⟨l.length-i-1,by omega⟩
  rw[hq,Zv]at hp
  have hsp:Q5 b.zones.length l i=YT (l.take i) (nt Stop default l i) (decide (0<i)&&decide ((i:Int)<l.length-1)) b.zones.length:=by unfold Q5;rw[hnt];rfl
  rw[hsp]at hp
  unfold YT at hp
  refine wS ?_
  generalize nt Stop default l i=s at*
  refine Zch (c72 s.station 0 9) ?_
  refine vS ?_
  refine⟨fun h3=>?_,fun h3=>?_⟩
  ·simp only[if_pos h3]at hp
   rw[if_pos (by decide)]at hp
   subst hp
   (cbv;(try simp only[nc]at*);(try refine Chk.mk (Qd) ?_))
   (try first|exact⟨rfl,trivial⟩|exact⟨trivial,trivial⟩)
  simp only[if_neg (show¬(!Yz s.station 0 9)=true by rw[h3];exact Bool.false_ne_true)]at hp
  refine wS ?_
  refine Zaq fun Q hQ=>?_
  refine ZS false false [] [1,2,5,6,7] [] (fun(k:Nat)=>[(7,.int .i64 fun _=>(k:Int))]) (fun _=>[]) (fun k=>k≤i∧(l.take k).any (fun x=>decide (x.station=s.station))=false) (fun k=>i-k+0) 0 ⟨Nat.zero_le _,by simp⟩ ?_ ?_
  ·exact ZK
  rintro k ⟨hk,hp2⟩
  refine wS ?_
  refine⟨fun hb=>?_,fun hb=>?_⟩
  ·simp only[decide_eq_true_eq]at hb
   have hkl:k<l.length:=by omega
   have hat:=Zjx hnt (q:=fun x:Stop=>decide (x.station=s.station)) hkl
   rw[hp2,Bool.false_or]at hat
   refine wS ?_
   simp only[Za2]
   refine⟨fun h4=>?_,fun h4=>?_⟩
   ·rw[h4]at hat
    have:(l.take i).any (fun x=>decide (x.station=s.station))=true:=by
     rw[List.any_eq_true]at hat⊢
     obtain⟨x,hx,h⟩:=hat
     exact⟨x,List.Sublist.subset (List.take_sublist_take_left (by omega)) hx,h⟩
    simp only[if_pos this]at hp
    rw[if_pos (by decide)]at hp
    subst hp
    refine wS ?_
    refine hQ _ _ _ ?_
    (cbv;(try simp only[nc]at*);(try refine Chk.mk (Qd) ?_))
    (try first|exact⟨rfl,trivial⟩|exact⟨trivial,trivial⟩)
   ·rw[h4]at hat
    refine wS ?_
    refine⟨k+1,⟨by omega,hat⟩,by show i-(k+1)+0<i-k+0;omega,?_⟩
    exact ZK
  ·simp only[decide_eq_false_iff_not]at hb
   obtain rfl:k=i:=by omega
   simp only[hp2,Bool.false_eq_true,if_false]at hp
   refine wS ?_
   refine hQ _ _ _ ?_
   clear hQ
   refine wS ?_
   refine Zch (c72 s.zone 0 ((b.zones.length:Int)-1)) ?_
   refine vS ?_
   refine⟨fun h5=>?_,fun h5=>?_⟩
   ·simp only[if_pos h5]at hp
    rw[if_pos (by decide)]at hp
    subst hp
    (cbv;(try simp only[nc]at*);(try refine Chk.mk (Qd) ?_))
    (try first|exact⟨rfl,trivial⟩|exact⟨trivial,trivial⟩)
   simp only[if_neg (show¬(!Yz s.zone 0 ((b.zones.length:Int)-1))=true by rw[h5];exact Bool.false_ne_true)]at hp
   refine wS ?_
   refine Zch (c72 s.arrive 0 4319) ?_
   refine wS ?_
   refine⟨fun h6=>?_,fun h6=>?_⟩
   ·have h6:Yz s.arrive 0 4319=true:=by simpa using h6
    refine wS ?_
    refine Zch (c72 s.depart 0 4319) ?_
    refine wS ?_
    refine⟨fun h7=>?_,fun h7=>?_⟩
    ·have h7:Yz s.depart 0 4319=false:=by simpa [h6]using h7
     simp only[h6,h7,Bool.not_false,Bool.not_true,Bool.false_or,if_true]at hp
     rw[if_pos (by decide)]at hp
     subst hp
     (cbv;(try simp only[nc]at*);(try refine Chk.mk (Qd) ?_))
     (try first|exact⟨rfl,trivial⟩|exact⟨trivial,trivial⟩)
    ·have h7:Yz s.depart 0 4319=true:=by simpa [h6]using h7
     simp only[h6,h7,Bool.not_true,Bool.false_or,Bool.false_eq_true,if_false]at hp
     have he:(decide (0<k)&&decide ((k:Int)<l.length-1)&&decide (s.depart<s.arrive))=(bif bif decide (0<(k:Int))then decide ((k:Int)<(l.length:Int)-1)else false then decide (s.depart<s.arrive)else false):=by
      rw[show decide (0<k)=decide (0<(k:Int))from by rw[Bool.eq_iff_iff];simp]
      cases decide (0<(k:Int))<;>cases decide ((k:Int)<(l.length:Int)-1)<;>rfl
     rw[he]at hp
     refine wS ?_
     refine⟨fun h8=>?_,fun h8=>?_⟩
     ·rw[if_pos h8,if_pos (by decide)]at hp
      subst hp
      (cbv;(try simp only[nc]at*);(try refine Chk.mk (Qd) ?_))
      (try first|exact⟨rfl,trivial⟩|exact⟨trivial,trivial⟩)
     ·simp only[h8,Bool.false_eq_true,if_false,ne_eq,not_true_eq_false]at hp
      refine wS ?_
      refine⟨k+1,⟨by omega,by rw[←hp];congr 1;omega⟩,by show l.length-(k+1)+0<l.length-k+0;omega,?_⟩
      exact ZK
   ·have h6:Yz s.arrive 0 4319=false:=by simpa using h6
    simp only[h6,Bool.not_false,Bool.true_or,if_true]at hp
    rw[if_pos (by decide)]at hp
    subst hp
    refine wS ?_
    refine Br.isT (by rfl) ?_
    (cbv;(try simp only[nc]at*);(try refine Chk.mk (Qd) ?_))
    (try first|exact⟨rfl,trivial⟩|exact⟨trivial,trivial⟩)
 ·simp only[decide_eq_false_iff_not]at hb
  rw[show l.length-i=0 by omega,Zv]at hp
  subst hp
  (cbv;(try simp only[nc]at*);(try refine Chk.mk (Qd) ?_))
  (try first|exact⟨rfl,trivial⟩|exact⟨trivial,trivial⟩)
theorem c71 (b:XE) (l:List Train) (hz:b.zones.length≤1000000) (hl:l.length≤1000000) (hs:∀t∈l,t.stops.length≤1000000):SC (fun _=>Tryz.prog) 140 [Zc b,lst 3 encTrain default l] [] fun v h=>v= .int .i64 (fun _=>Qf b.zones.length l)∧h=[]:=by
 obtain⟨nt,hnt⟩:=Zu
 unfold Qf
 generalize hE:(if ZO l.length 0 4≠0 then ZO l.length 0 4 else Zv (QP b.zones.length l) 0 l.length)=E
 unfold Zc
 simp only[Za hnt]
 refine Qv Tryz.func140 (body:=Zk Tryz.f140) rfl (by decide+kernel) ?_
 refine wS ?_
 refine⟨fun h2=>?_,fun h2=>?_⟩
 ·simp only[decide_eq_true_eq]at h2
  rw[show ZO l.length 0 4=6 by unfold ZO;rw[if_neg (by omega),if_pos (by omega)],if_pos (by decide)]at hE
  subst hE
  (cbv;(try simp only[nc]at*);(try refine Chk.mk (Qd) ?_))
  (try first|exact⟨rfl,trivial⟩|exact⟨trivial,trivial⟩)
 simp only[decide_eq_false_iff_not]at h2
 rw[show ZO l.length 0 4=0 by unfold ZO;rw[if_neg (by omega),if_neg (by omega)],if_neg (by decide)]at hE
 refine wS ?_
 refine ZS false false [] [1,2,5] [] (fun(i:Nat)=>[(5,.int .i64 fun _=>(i:Int))]) (fun _=>[]) (fun i=>i≤l.length∧Zv (QP b.zones.length l) i (l.length-i)=E) (fun i=>l.length-i+0) 0 ⟨Nat.zero_le _,by simpa using hE⟩ ?_ ?_
 ·exact ZK
 rintro i ⟨hi,hp⟩
 refine wS ?_
 refine⟨fun hb=>?_,fun hb=>?_⟩
 ·simp only[decide_eq_true_eq]at hb
  have hil:i<l.length:=by omega
  obtain⟨q,hq⟩:∃q,l.length-i=q+1:=⟨l.length-i-1,by omega⟩
  rw[hq,Zv]at hp
  have hst:=hs _ (QQ (d:=default) hnt (l:=l) (i:=i) hil)
  have hct:QP b.zones.length l i=if !Yz (nt Train default l i).number 1 999 then 1 else if(l.take i).any (fun x=>decide (x.number=(nt Train default l i).number))then 4 else if !Yz (nt Train default l i).days 1 127 then 1
   else if ZO (nt Train default l i).stops.length 2 4≠0 then ZO (nt Train default l i).stops.length 2 4 else YH b.zones.length (nt Train default l i).stops:=by unfold QP;rw[hnt];rfl
  refine wS ?_
  refine Zch (c72 (nt Train default l i).number 1 999) ?_
  refine vS ?_
  refine⟨fun h3=>?_,fun h3=>?_⟩
  ·rw[if_pos h3]at hct
   rw[hct,if_pos (by decide)]at hp
   subst hp
   (cbv;(try simp only[nc]at*);(try refine Chk.mk (Qd) ?_))
   (try first|exact⟨rfl,trivial⟩|exact⟨trivial,trivial⟩)
  rw[if_neg (by rw[h3];exact Bool.false_ne_true)]at hct
  refine wS ?_
  refine Zaq fun Q hQ=>?_
  refine ZS false false [] [1,2,5,6] [] (fun(k:Nat)=>[(6,.int .i64 fun _=>(k:Int))]) (fun _=>[]) (fun k=>k≤i∧(l.take k).any (fun x=>decide (x.number=(nt Train default l i).number))=false) (fun k=>i-k+0) 0 ⟨Nat.zero_le _,by simp⟩ ?_ ?_
  ·exact ZK
  rintro k ⟨hk,hp2⟩
  refine wS ?_
  refine⟨fun hb=>?_,fun hb=>?_⟩
  ·simp only[decide_eq_true_eq]at hb
   have hkl:k<l.length:=by omega
   have hat:=Zjx hnt (q:=fun x:Train=>decide (x.number=(nt Train default l i).number)) hkl
   rw[hp2,Bool.false_or]at hat
   refine wS ?_
   simp only[Za2]
   refine⟨fun h4=>?_,fun h4=>?_⟩
   ·rw[h4]at hat
    have:(l.take i).any (fun x=>decide (x.number=(nt Train default l i).number))=true:=by
     rw[List.any_eq_true]at hat⊢
     obtain⟨x,hx,h⟩:=hat
     exact⟨x,List.Sublist.subset (List.take_sublist_take_left (by omega)) hx,h⟩
    rw[if_pos this]at hct
    rw[hct,if_pos (by decide)]at hp
    subst hp
    refine wS ?_
    refine hQ _ _ _ ?_
    (cbv;(try simp only[nc]at*);(try refine Chk.mk (Qd) ?_))
    (try first|exact⟨rfl,trivial⟩|exact⟨trivial,trivial⟩)
   ·rw[h4]at hat
    refine wS ?_
    refine⟨k+1,⟨by omega,hat⟩,by show i-(k+1)+0<i-k+0;omega,?_⟩
    exact ZK
  ·simp only[decide_eq_false_iff_not]at hb
   obtain rfl:k=i:=by omega
   rw[hp2,if_neg (by exact Bool.false_ne_true)]at hct
   refine wS ?_
   refine hQ _ _ _ ?_
   clear hQ
   refine wS ?_
   refine Zch (c72 (nt Train default l (k:Int)).days 1 127) ?_
   refine vS ?_
   refine⟨fun h3=>?_,fun h3=>?_⟩
   ·rw[if_pos h3]at hct
    rw[hct,if_pos (by decide)]at hp
    subst hp
    (cbv;(try simp only[nc]at*);(try refine Chk.mk (Qd) ?_))
    (try first|exact⟨rfl,trivial⟩|exact⟨trivial,trivial⟩)
   rw[if_neg (by rw[h3];exact Bool.false_ne_true)]at hct
   refine wS ?_
   have k110:=Zv5 b (nt Train default l (k:Int)).stops hz hst
   rw[Zjq hnt]at k110
   refine ZY k110 rfl fun r h₂ hp=>?_
   obtain⟨rfl,rfl⟩:=hp
   rw[←hct]
   generalize QP b.zones.length l k=e at*
   refine vS ?_
   refine⟨fun h5=>?_,fun h5=>?_⟩
   ·simp only[bne_iff_ne,ne_eq]at h5
    rw[if_pos h5]at hp
    subst hp
    (cbv;(try simp only[nc]at*);(try refine Chk.mk (Qd) ?_))
    (try first|exact⟨rfl,trivial⟩|exact⟨trivial,trivial⟩)
   ·simp only[bne_eq_false_iff_eq]at h5
    rw[if_neg (fun h=>h h5)]at hp
    refine wS ?_
    refine⟨k+1,⟨by omega,by rw[←hp];congr 1;omega⟩,by show l.length-(k+1)+0<l.length-k+0;omega,?_⟩
    exact ZK
 ·simp only[decide_eq_false_iff_not]at hb
  rw[show l.length-i=0 by omega,Zv]at hp
  subst hp
  (cbv;(try simp only[nc]at*);(try refine Chk.mk (Qd) ?_))
  (try first|exact⟨rfl,trivial⟩|exact⟨trivial,trivial⟩)
theorem c25 (b:XE) (hb:YK b):SC (fun _=>Tryz.prog) 87 [Zc b] [] fun v h=>v= .int .i64 (fun _=>XW b)∧h=[]:=by
 obtain⟨nt,hnt⟩:=Zu
 have hz:=hb.zones
 have hc:=hb.chs
 unfold XW
 generalize hE:(if ZO b.zones.length 1 3≠0 then _ else _:Int)=E
 have k1:=c71 b b.old hz hb.old hb.stops.1
 have k2:=c71 b b.new hz hb.new hb.stops.2
 unfold Zc at k1 k2⊢
 simp only[Za hnt]at k1 k2⊢
 refine Qv Tryz.func87 (body:=Zk Tryz.f87) rfl (by decide+kernel) ?_
 refine wS ?_
 refine⟨fun h1=>?_,fun h1=>?_⟩
 ·have h1:b.zones.length=0:=by simpa using h1
  rw[show ZO b.zones.length 1 3=7 by unfold ZO;rw[if_pos (by omega)],if_pos (by decide)]at hE
  subst hE
  (cbv;(try simp only[nc]at*);(try refine Chk.mk (Qd) ?_))
  (try first|exact⟨rfl,trivial⟩|exact⟨trivial,trivial⟩)
 have h1:¬b.zones.length=0:=by simpa using h1
 refine wS ?_
 refine⟨fun h2=>?_,fun h2=>?_⟩
 ·simp only[decide_eq_true_eq]at h2
  rw[show ZO b.zones.length 1 3=6 by unfold ZO;rw[if_neg (by omega),if_pos (by omega)],if_pos (by decide)]at hE
  subst hE
  (cbv;(try simp only[nc]at*);(try refine Chk.mk (Qd) ?_))
  (try first|exact⟨rfl,trivial⟩|exact⟨trivial,trivial⟩)
 simp only[decide_eq_false_iff_not]at h2
 rw[show ZO b.zones.length 1 3=0 by unfold ZO;rw[if_neg (by omega),if_neg (by omega)],if_neg (by decide)]at hE
 generalize hF:Zv (fun i=>Zx (b.zones.getD i default)) 0 b.zones.length=F at*
 refine wS ?_
 refine Zaq fun Q hQ=>?_
 refine ZS false false [] [1,3] [] (fun(i:Nat)=>[(3,.int .i64 fun _=>(i:Int))]) (fun _=>[]) (fun i=>i≤b.zones.length∧Zv (fun i=>Zx (b.zones.getD i default)) i (b.zones.length-i)=F) (fun i=>b.zones.length-i+0) 0 ⟨Nat.zero_le _,by simpa using hF⟩ ?_ ?_
 ·exact ZK
 rintro i ⟨hi,hp⟩
 refine wS ?_
 refine⟨fun hb=>?_,fun hb=>?_⟩
 ·simp only[decide_eq_true_eq]at hb
  obtain⟨q,hq⟩:∃q,b.zones.length-i=q+1:=⟨b.zones.length-i-1,by omega⟩
  rw[hq,Zv]at hp
  have hch:=hc _ (QQ (d:=default) hnt (l:=b.zones) (i:=i) (by omega))
  have hzn:b.zones.getD i default=nt Zone default b.zones i:=by rw[hnt];rfl
  rw[hzn]at hp
  refine wS ?_
  generalize nt Zone default b.zones i=z at*
  refine Zch (c70 z hch) ?_
  generalize Zx z=e at*
  refine vS ?_
  refine⟨fun h3=>?_,fun h3=>?_⟩
  ·simp only[bne_iff_ne,ne_eq]at h3
   rw[if_pos h3]at hp
   subst hp
   rw[if_pos h3]at hE
   subst hE
   refine wS ?_
   refine hQ _ _ _ ?_
   (cbv;(try simp only[nc]at*);(try refine Chk.mk (Qd) ?_))
   (try first|exact⟨rfl,trivial⟩|exact⟨trivial,trivial⟩)
  ·simp only[bne_eq_false_iff_eq]at h3
   rw[if_neg (fun h=>h h3)]at hp
   refine wS ?_
   refine⟨i+1,⟨by omega,by rw[←hp];congr 1;omega⟩,by show b.zones.length-(i+1)+0<b.zones.length-i+0;omega,?_⟩
   exact ZK
 simp only[decide_eq_false_iff_not]at hb
 rw[show b.zones.length-i=0 by omega,Zv]at hp
 subst hp
 rw[if_neg (fun h=>h rfl)]at hE
 refine wS ?_
 refine hQ _ _ _ ?_
 clear hQ
 generalize Qf b.zones.length b.old=e1 at*
 generalize Qf b.zones.length b.new=e2 at*
 refine wS ?_
 refine Zch (k1) ?_
 refine wS ?_
 refine⟨fun h3=>?_,fun h3=>?_⟩
 ·simp only[bne_iff_ne,ne_eq]at h3
  rw[if_pos h3]at hE
  subst hE
  (cbv;(try simp only[nc]at*);(try refine Chk.mk (Qd) ?_))
  (try first|exact⟨rfl,trivial⟩|exact⟨trivial,trivial⟩)
 simp only[bne_eq_false_iff_eq]at h3
 rw[if_neg (fun h=>h h3)]at hE
 refine wS ?_
 refine Zch (k2) ?_
 refine wS ?_
 refine⟨fun h4=>?_,fun h4=>?_⟩
 ·simp only[bne_iff_ne,ne_eq]at h4
  rw[if_pos h4]at hE
  subst hE
  (cbv;(try simp only[nc]at*);(try refine Chk.mk (Qd) ?_))
  (try first|exact⟨rfl,trivial⟩|exact⟨trivial,trivial⟩)
 simp only[bne_eq_false_iff_eq]at h4
 rw[if_neg (fun h=>h h4)]at hE
 refine wS ?_
 have k67:=c72 b.last 0 13
 rcases hI:Yz b.last 0 13 with _|_
 ·rw[hI]at k67 hE
  simp only[Bool.not_false,Bool.true_or,if_true]at hE
  subst hE
  refine Zch (k67) ?_
  refine vS ?_
  refine Chk.mk (by simp[QW,QU,QV,Cn.p]) ?_
  refine Br.isF (by rfl) ?_
  refine wS ?_
  refine Br.isT (by rfl) ?_
  (cbv;(try simp only[nc]at*);(try refine Chk.mk (Qd) ?_))
  (try first|exact⟨rfl,trivial⟩|exact⟨trivial,trivial⟩)
 ·have hlast:0≤b.last∧b.last≤13:=by simpa [Yz]using hI
  rw[hI]at k67 hE
  simp only[Bool.not_true,Bool.false_or]at hE
  refine Zch (k67) ?_
  refine wS ?_
  refine Br.isT (by rfl) ?_
  refine wS ?_
  refine Zch (c72 b.night 0 (b.last+1)) ?_
  refine wS ?_
  refine⟨fun hb'=>?_,fun hb'=>?_⟩
  ·have hb':Yz b.night 0 (b.last+1)=false:=by simpa using hb'
   rw[if_pos (by simp[hb'])]at hE
   subst hE
   (cbv;(try simp only[nc]at*);(try refine Chk.mk (Qd) ?_))
   (try first|exact⟨rfl,trivial⟩|exact⟨trivial,trivial⟩)
  ·have hb':Yz b.night 0 (b.last+1)=true:=by simpa using hb'
   rw[if_neg (by simp[hb'])]at hE
   subst hE
   (cbv;(try simp only[nc]at*);(try refine Chk.mk (Qd) ?_))
   (try first|exact⟨rfl,trivial⟩|exact⟨trivial,trivial⟩)
end Go.Proofs.YtjgpiclllehgmaaGreat.Vm
namespace Go.Proofs.YtjgpiclllehgmaaGreat.Vm
open Go Go.Proofs Sp
set_option maxRecDepth 100000
set_option maxHeartbeats 1600000
attribute [local irreducible] Dn
theorem ZvY (b:XE) (day:Int):SC (fun _=>Tryz.prog) 168 [Zc b,.int .i64 fun _=>day] [] fun v h=>v=lst 3 encTrain default (QE b day)∧h=[]:=by
 refine Qv Tryz.func168 (body:=Zk Tryz.f168) rfl (by decide+kernel) ?_
 unfold Zc QE
 refine wS ?_
 refine⟨fun hb=>?_,fun hb=>?_⟩
 ·simp only[decide_eq_true_eq]at hb
  rw[if_pos hb]
  (cbv;(try simp only[nc]at*);(try refine Chk.mk (Qd) ?_))
  (try first|exact⟨rfl,trivial⟩|exact⟨trivial,trivial⟩)
 ·simp only[decide_eq_false_iff_not]at hb
  rw[if_neg hb]
  (cbv;(try simp only[nc]at*);(try refine Chk.mk (Qd) ?_))
  (try first|exact⟨rfl,trivial⟩|exact⟨trivial,trivial⟩)
theorem ZvW (t:Train) (day:Int) (hd:0≤day∧day≤1000000) (ht:0≤t.days∧t.days≤1000000):SC (fun _=>Tryz.prog) 170 [.agg (encTrain t),.int .i64 fun _=>day] [] fun v h=>v= .bool (fun _=>Zbp t day)∧h=[]:=by
 refine Qv Tryz.func170 (body:=Zk Tryz.f170) rfl (by decide+kernel) ?_
 have e:=(ZrC day 7).1 hd.1
 refine vS ?_
 rw[e]
 refine Chk.mk (Qd) ?_
 refine vS ?_
 refine⟨?_,trivial⟩
 congr 1;funext _
 rw[Nat.min_eq_left (show(day%7).toNat≤IntKind.i64.bits by show _≤64;omega),Int.fdiv_eq_ediv_of_nonneg _ (Int.le_of_lt (Int.pow_pos (by omega)))]
 have hq:0≤t.days/2^(day%7).toNat:=Int.ediv_nonneg ht.1 (Int.le_of_lt (Int.pow_pos (by omega)))
 have hle:t.days/2^(day%7).toNat≤t.days:=Int.ediv_le_self _ ht.1
 unfold Zbp
 generalize t.days/2^(day%7).toNat=q at*
 rw[Zly q hq (by omega),Za2]
theorem ZvX (l:List Train) (n:Int) (hl:l.length≤1000000):SC (fun _=>Tryz.prog) 169 [lst 3 encTrain default l,.int .i64 fun _=>n] [] fun v h=>v= .int .i64 (fun _=>place l n)∧h=[]:=by
 obtain⟨nt,hnt⟩:=Zu
 unfold place
 generalize hE:Zn (fun t:Train=>decide (t.number=n)) 0 l=E
 rw[Za hnt]
 refine Qv Tryz.func169 (body:=Zk Tryz.f169) rfl (by decide+kernel) ?_
 refine wS ?_
 refine ZS false false [] [0,1,5] [] (fun(i:Nat)=>[(5,.int .i64 fun _=>(i:Int))]) (fun _=>[]) (fun i=>i≤l.length∧Zn (fun t:Train=>decide (t.number=n)) i (l.drop i)=E) (fun i=>l.length-i+0) 0 ⟨Nat.zero_le _,by simpa using hE⟩ ?_ ?_
 ·exact ZK
 rintro i ⟨hi,hp⟩
 refine wS ?_
 refine⟨fun hb=>?_,fun hb=>?_⟩
 ·simp only[decide_eq_true_eq]at hb
  rw[Qu (d:=default) hnt (l:=l) (i:=i) (by omega),Zn]at hp
  refine wS ?_
  simp only[Za2]
  refine⟨fun h1=>?_,fun h1=>?_⟩
  ·rw[if_pos h1]at hp
   subst hp
   (cbv;(try simp only[nc]at*);(try refine Chk.mk (Qd) ?_))
   (try first|exact⟨rfl,trivial⟩|exact⟨trivial,trivial⟩)
  ·rw[if_neg (by rw[h1];exact Bool.false_ne_true)]at hp
   refine wS ?_
   refine⟨i+1,⟨by omega,by rw[←hp];rfl⟩,by show l.length-(i+1)+0<l.length-i+0;omega,?_⟩
   exact ZK
 ·simp only[decide_eq_false_iff_not]at hb
  rw[List.drop_eq_nil_of_le (by omega),Zn]at hp
  subst hp
  (cbv;(try simp only[nc]at*);(try refine Chk.mk (Qd) ?_))
  (try first|exact⟨rfl,trivial⟩|exact⟨trivial,trivial⟩)
theorem ZhT:∀(l:List Chg) (fr a r t:Int),(∀p∈QN fr a l,p.fr<Xo∧r-p.ahd<Xo)→t<Xo→QY (QN fr a l) r t<Xo
 |[],fr,a,r,t,h,ht=>by
  have:=h ⟨fr,Xo,a⟩ (by simp[QN])
  simp only[QN,QY]at*
  rw[if_pos (by omega)]
  omega
 |c::l,fr,a,r,t,h,ht=>by
  unfold QN at h⊢
  split
  ·rename_i hc
   rw[if_pos hc]at h
   unfold QY
   split
   ·have:=h ⟨fr,c.at_,a⟩ (List.mem_cons_self ..)
    simp only at this⊢
    omega
   ·exact ZhT l _ _ _ _ (fun p hp=>h p (List.mem_cons_of_mem _ hp)) ht
  ·rename_i hc
   rw[if_neg hc]at h
   exact ZhT l _ _ _ _ h ht
theorem Zlp:∀(l:List Pc) (r t:Int),0≤t→0≤QY l r t
 |[],_,_,_=>by unfold QY Xo;omega
 |p::l,r,t,h=>by
  unfold QY
  split
  ·omega
  ·exact Zlp l r t h
theorem Zi1 {z:Zone} (hz:Zx z=0) {r t:Int} (hr:r≤1000000) (ht:0≤t∧t<Xo):0≤QY (ZV z) r t∧QY (ZV z) r t<Xo:=by
 refine⟨Zlp _ _ _ ht.1,ZhT _ _ _ _ _ (fun p hp=>?_) ht.2⟩
 have:=(Zdo hz).2 p hp
 unfold Xo
 omega
theorem ZvV (b:XE) (t:Train) (day:Int) (hb':∀z∈b.zones,Zx z=0) (ht:∀s∈t.stops,(0≤s.zone∧s.zone<b.zones.length)∧(0≤s.arrive∧s.arrive≤10000)∧0≤s.depart∧s.depart≤10000) (hlen:2≤t.stops.length∧t.stops.length≤1000) (hd:0≤day∧day≤100):
  SC (fun _=>Tryz.prog) 171 [Zc b,.agg (encTrain t),.int .i64 fun _=>day] [] fun v h=>v=lst 3 Q1 default (calls b.zones t day)∧h=[]:=by
 obtain⟨nt,hnt⟩:=Zu
 refine SC.less (Ztd false false [] Tryz.func171 (body:=Zk Tryz.f171) rfl (by decide+kernel) ?_)
 rw[Zjq hnt]
 rw[show AV.agg (encTrain t)= .agg [.int .i64 fun _=>t.number,.int .i64 fun _=>t.days,.isl 4 (fun _=>(t.stops.length:Int)) (fun e=>Qz (nt Stop default t.stops (e ()))) .none] by unfold encTrain;rw[Za hnt]]
 refine wS ?_
 refine ZS false false [] [2,3,4,7,8,9] [.tok 3 fun _=>0] (fun(⟨i,now,out⟩:Nat×Int×List Sp.Call)=>[(7,.isl 3 (fun _=>(out.length:Int)) (fun e=>Q1 (nt Sp.Call default out (e ()))) (.own 2)),(8,.int .i64 fun _=>now),(9,.int .i64 fun _=>(i:Int))])
  (fun⟨i,now,out⟩=>[(2,.tok 3 fun _=>(out.length:Int))])
  (fun⟨i,now,out⟩=>(i≤t.stops.length∧out.length=i∧calls b.zones t day=out++Qg b.zones day t.stops.length i now (t.stops.drop i))∧0≤now∧now<Xo) (fun i=>t.stops.length-i.1+0) (0,0,[]) ⟨⟨Nat.zero_le _,rfl,rfl⟩,by decide,by decide⟩ ?_ ?_
 ·(refine To.of [(3,false)] ?_;cbv;(try simp only[nc]);(repeat' (first|exact trivial|exact ZH.refl _|exact ZR.refl _|refine⟨?_,?_⟩|refine ZR.cells ?_|refine ZH.agg ?_|refine ZH.tup ?_));(all_goals (first|exact XZ|skip)))
 rintro⟨i,now,out⟩ ⟨⟨hi,ho,hp⟩,hn⟩
 have hgz:∀k:Nat,k<t.stops.length→Zx (nt Zone default b.zones (nt Stop default t.stops (k:Int)).zone)=0:=fun k hk=>hb' _ (by
  have:=ht _ (QQ (d:=default) hnt (l:=t.stops) (i:=k) hk)
  rw[hnt,List.getD_eq_getElem?_getD,List.getElem?_eq_getElem (by omega)];exact List.getElem_mem _)
 have hgd:∀z:Int,b.zones.getD z.toNat default=nt Zone default b.zones z:=fun z=>by rw[hnt]
 refine wS ?_
 refine⟨fun hb=>?_,fun hb=>?_⟩
 ·simp only[decide_eq_true_eq]at hb
  have hil:i<t.stops.length:=by omega
  have hs:=ht _ (QQ (d:=default) hnt (l:=t.stops) (i:=i) hil)
  have hz:=hgz i hil
  rw[Qu (d:=default) hnt hil,Qg]at hp
  simp only[hgd]at hp
  refine wS ?_
  generalize nt Stop default t.stops (i:Int)=s at*
  generalize hZ:nt Zone default b.zones s.zone=z at*
  have ka:=fun n hn=>ZuT z (1440*day+s.arrive) n hz (by omega) hn
  have kd:=fun n hn=>ZuT z (1440*day+s.depart) n hz (by omega) hn
  have fa:=fun n hn=>Zi1 (t:=n) hz (show 1440*day+s.arrive≤1000000 by omega) hn
  have fd:=fun n hn=>Zi1 (t:=n) hz (show 1440*day+s.depart≤1000000 by omega) hn
  generalize hL:ZV z=L at*
  rcases Nat.eq_zero_or_pos i with h0|h0
  ·subst h0
   rw[if_pos rfl,if_pos (by omega)]at hp
   refine Br.isF (by simp) ?_
   refine wS ?_
   refine Br.isT (by simp;omega) ?_
   refine vS ?_
   simp only[hZ]
   refine Chk.mk (Qd) ?_
   refine Zch (kd now hn) ?_
   have fd:=fd now hn
   try dsimp only at hp
   generalize QY L (1440*day+s.depart) now=d at*
   refine wS ?_
   refine Br.isT (by simp) ?_
   refine wS ?_
   refine⟨(1,d,out++[⟨s.station,d,d⟩]),⟨⟨by omega,by simp only[List.length_append,List.length_cons,List.length_nil];omega,by rw[hp];simp⟩,fd⟩,by show t.stops.length-1+0<t.stops.length-0+0;omega,?_⟩
   exact ZK
  ·rw[if_neg (by omega)]at hp
   refine Br.isT (by simp;omega) ?_
   refine vS ?_
   simp only[hZ]
   refine Chk.mk (Qd) ?_
   refine Zch (ka now hn) ?_
   have fa:=fa now hn
   try dsimp only at hp
   generalize QY L (1440*day+s.arrive) now=a at*
   refine wS ?_
   refine⟨fun h1=>?_,fun h1=>?_⟩
   ·simp only[decide_eq_true_eq]at h1
    rw[if_pos (by omega)]at hp
    refine vS ?_
    simp only[hZ]
    refine Chk.mk (Qd) ?_
    refine Zch (kd a fa) ?_
    have fd:=fd a fa
    generalize QY L (1440*day+s.depart) a=d at*
    refine wS ?_
    refine Br.isF (by simp;omega) ?_
    refine wS ?_
    refine⟨(i+1,d,out++[⟨s.station,a,d⟩]),⟨⟨by omega,by simp only[List.length_append,List.length_cons,List.length_nil];omega,by rw[hp];simp⟩,fd⟩,by show t.stops.length-(i+1)+0<t.stops.length-i+0;omega,?_⟩
    exact ZK
   ·simp only[decide_eq_false_iff_not]at h1
    rw[if_neg (by omega)]at hp
    refine wS ?_
    refine Br.isF (by simp;omega) ?_
    refine wS ?_
    refine⟨(i+1,a,out++[⟨s.station,a,a⟩]),⟨⟨by omega,by simp only[List.length_append,List.length_cons,List.length_nil];omega,by rw[hp];simp⟩,fa⟩,by show t.stops.length-(i+1)+0<t.stops.length-i+0;omega,?_⟩
    exact ZK
 ·simp only[decide_eq_false_iff_not]at hb
  rw[List.drop_eq_nil_of_le (by omega),Qg,List.append_nil]at hp
  rw[hp]
  refine wS ?_
  refine⟨lst 3 Q1 default out,[],?_,rfl,rfl⟩
  simp only[Za hnt]
  exact ZK
theorem Zl2 (l:List Train) (n:Int):place l n=-1∨0≤place l n∧place l n<l.length:=by
 have:=Xb (q:=fun t:Train=>decide (t.number=n)) (l:=l) (i:=0) (by omega)
 rcases Nat.eq_zero_or_pos l.length with h|h
 ·rw[List.eq_nil_of_length_eq_zero h];exact .inl rfl
 ·unfold place;omega
theorem ZvZ (b:XE) (n day:Int) (hf:YK b):SC (fun _=>Tryz.prog) 128 [Zc b,.int .i64 fun _=>n,.int .i64 fun _=>day] [] fun v h=>v= .tup [lst 3 Q1 default (JX b n day).1,.int .i64 fun _=>(JX b n day).2]∧h=[]:=by
 obtain⟨nt,hnt⟩:=Zu
 refine SC.less (Qv Tryz.func128 (body:=Zk Tryz.f128) rfl (by decide+kernel) ?_)
 unfold Zc JX
 simp only[Za hnt]
 refine wS ?_
 refine Zch (c25 b hf) ?_
 have hok0:=fun h=>Zb8 (b:=b) h
 generalize XW b=e at*
 refine vS ?_
 refine⟨fun hb=>?_,fun hb=>?_⟩
 ·simp only[bne_iff_ne,ne_eq]at hb
  rw[if_pos hb]
  refine wS ?_
  refine⟨_,[],?_,rfl,rfl⟩
  exact ZK
 simp only[bne_eq_false_iff_eq]at hb
 have hok:=hok0 hb
 subst hb
 rw[if_neg (fun h=>h rfl)]
 refine wS ?_
 refine Zch (c72 day 0 b.last) ?_
 refine vS ?_
 refine⟨fun hb=>?_,fun hb=>?_⟩
 ·rw[if_pos hb]
  refine wS ?_
  refine⟨_,[],?_,rfl,rfl⟩
  exact ZK
 rw[if_neg (by rw[hb];exact Bool.false_ne_true)]
 have hday:=J7 (by simpa using hb:Yz day 0 b.last=true)
 have hlast:=hok.last
 have htab:=ZeW hok day
 refine wS ?_
 refine Zch (ZvY b day) ?_
 have hpl:=Zl2 (QE b day) n
 generalize QE b day=l at*
 refine wS ?_
 refine Zch (ZvX l n (by omega)) ?_
 generalize place l n=p at*
 refine vS ?_
 refine⟨fun hb=>?_,fun hb=>?_⟩
 ·simp only[decide_eq_true_eq]at hb
  rw[if_pos hb]
  refine wS ?_
  refine⟨_,[],?_,rfl,rfl⟩
  exact ZK
 simp only[decide_eq_false_iff_not]at hb
 rw[if_neg hb]
 obtain⟨k,rfl⟩:∃k:Nat,p=k:=⟨p.toNat,by omega⟩
 refine wS ?_
 have hTk:=htab.2 _ (QQ (d:=default) hnt (l:=l) (i:=k) (by omega))
 have hgk:l.getD (k:Int).toNat default=nt Train default l k:=by rw[hnt]
 rw[hgk]
 have hdays:=hTk.days
 refine Zch (ZvW (nt Train default l k) day (by omega) (by omega)) ?_
 refine vS ?_
 refine⟨fun hb=>?_,fun hb=>?_⟩
 ·rw[if_pos hb]
  refine wS ?_
  refine⟨_,[],?_,rfl,rfl⟩
  exact ZK
 rw[if_neg (by rw[hb];exact Bool.false_ne_true)]
 refine wS ?_
 have hlen:=hTk.len
 refine Zch (ZvV b (nt Train default l k) day hok.zones (fun s hs=>by obtain⟨_,h1,h2,h3⟩:=hTk.stops s hs;omega) (by omega) (by omega)) ?_
 generalize calls b.zones (nt Train default l k) day=C at*
 refine wS ?_
 refine⟨_,[],?_,rfl,rfl⟩
 (try simp only[ZaX hnt])
 exact ZK
end Go.Proofs.YtjgpiclllehgmaaGreat.Vm
namespace Go.Proofs.YtjgpiclllehgmaaGreat.Sp
def QS (b:XE) (d:Qi):List Call×Bool:=if Xn (JX b d.number d.day).1≠0 then([],false)else((JX b d.number d.day).1,decide ((JX b d.number d.day).2=0))
end Go.Proofs.YtjgpiclllehgmaaGreat.Sp
namespace Go.Proofs.YtjgpiclllehgmaaGreat.Vm
attribute [local irreducible] Dn
open Go Go.Proofs Sp
set_option maxRecDepth 100000
set_option maxHeartbeats 4000000
theorem Ztl (b:XE) (d:Sp.Qi) (hf:YK b):SC (fun _=>Tryz.prog) 75 [Zc b,.agg (Zh d)] [] fun v h=>v= .tup [lst 3 Q1 default (QS b d).1,.bool fun _=>(QS b d).2]∧h=[]:=by
 obtain⟨nt,hnt⟩:=Zu
 have k:=ZvZ b d.number d.day hf
 have hlen:=(Zhu b d.number d.day).1
 have hE:QS b d=if Xn (JX b d.number d.day).1≠0 then([],false)else((JX b d.number d.day).1,decide ((JX b d.number d.day).2=0)):=rfl
 generalize QS b d=E at*
 generalize JX b d.number d.day=r at*
 obtain⟨C,er⟩:=r
 unfold Zc Zh at*
 simp only[Za hnt]at*
 refine SC.less (Qv Tryz.func75 (body:=Zk Tryz.f75) rfl (by decide+kernel) ?_)
 refine wS ?_
 refine ZY (k) (by first|rfl|(simp only[Zd,Zc,Za hnt];rfl)) fun r h₂ hp=>?_
 (try simp only[Zd,Zc,Za hnt]at hp)
 obtain⟨rfl,rfl⟩:=hp
 try dsimp only at hE hlen
 refine wS ?_
 refine Zaq fun Q hQ=>?_
 refine ZS false false [] [6,7,8] [] (fun(j:Nat)=>[(8,.int .i64 fun _=>((j+1:Nat):Int))]) (fun _=>[]) (fun j=>Xn C=Zv (Jn C) (j+1) (C.length-(j+1))) (fun j=>C.length-(j+1)+0) 0 rfl ?_ ?_
 ·exact ZK
 rintro j hpk
 refine wS ?_
 refine⟨fun hb=>?_,fun hb=>?_⟩
 ·simp only[decide_eq_true_eq]at hb
  rw[Xg (by omega)]at hpk
  have hoa:Jn C (j+1)=if(nt Sp.Call default C ((j+1:Nat):Int)).arrive≤(nt Sp.Call default C (((j+1:Nat):Int)-1)).depart then 5 else 0:=by
   unfold Jn
   rw[XX hnt,XX hnt,show((j+1-1:Nat):Int)=((j+1:Nat):Int)-1 by omega]
  refine wS ?_
  refine⟨fun hb'=>?_,fun hb'=>?_⟩
  ·simp only[decide_eq_true_eq]at hb'
   rw[if_pos (by omega)]at hoa
   rw[hoa,if_pos (by decide)]at hpk
   rw[if_pos (by rw[hpk];decide)]at hE
   subst hE
   refine wS ?_
   refine hQ _ _ _ ?_
   refine wS ?_
   refine⟨_,[],?_,rfl,rfl⟩
   exact ZK
  ·simp only[decide_eq_false_iff_not]at hb'
   rw[if_neg (by omega)]at hoa
   rw[hoa,if_neg (fun h=>h rfl)]at hpk
   refine wS ?_
   refine⟨j+1,hpk,by show C.length-(j+1+1)+0<C.length-(j+1)+0;omega,?_⟩
   exact ZK
 ·simp only[decide_eq_false_iff_not]at hb
  rw[Xx (by omega)]at hpk
  rw[if_neg (fun h=>h hpk)]at hE
  subst hE
  refine wS ?_
  refine hQ _ _ _ ?_
  refine wS ?_
  refine⟨_,[],?_,rfl,rfl⟩
  exact ZK
theorem ZuM (b:XE) (d:Sp.Qi) (hf:YK b) (hn:(QS b d).2=false):SC (fun _=>Tryz.prog) 75 [Zc b,.agg (Zh d)] [] fun v h=>v= .tup [.undef,.bool fun _=>false]∧h=[]:=by
 refine SC.less (SC.mono (Ztl b d hf) fun r h' hr=>?_)
 obtain⟨rfl,rfl⟩:=hr
 rw[hn]
 generalize (QS b d).1=C
 refine⟨.tup [.undef,.bool fun _=>false],[],?_,rfl,rfl⟩
 exact ZK
end Go.Proofs.YtjgpiclllehgmaaGreat.Vm
namespace Go.Proofs.YtjgpiclllehgmaaGreat.Vm
open Sp
theorem ZaY {f:Nat→Int}:∀ {k i:Nat},(∀j,i≤j→j<i+k→f j=0)→Zv f i k=0
 |0,_,_=>rfl
 |k+1,i,h=>by
  unfold Zv
  rw[if_neg (fun hne=>hne (h i (Nat.le_refl _) (by omega)))]
  exact ZaY fun j h1 h2=>h j (by omega) (by omega)
theorem ZfF {n a b:Int} (h1:a≤n) (h2:n≤b):Yz n a b=true:=by simp[Yz,h1,h2]
theorem J4 {n a b:Int} (h1:a≤n) (h2:n≤b):Qs n a b=false:=by unfold Qs;rw[ZfF h1 h2];rfl
theorem Zpl {n a b:Int} (h1:a≤n) (h2:n≤b):ZO n a b=0:=by
 unfold ZO
 rw[if_neg (by omega),if_neg (by omega)]
theorem ZmS {k:Int} {z:Zone} (h:Zpz k z) (hk:k≤3):Zx z=0:=by
 have hb:=h.base
 have hl:=h.len
 unfold Zx
 rw[if_neg (by simp[Yz];omega),if_neg (by omega)]
 have key:∀(l:List Chg) (p:Option Int),(∀c∈l,0≤c.at_∧c.at_≤43200∧ZpN c.by_)→l.Pairwise (fun a b=>a.at_<b.at_)→(∀a,p=some a→∀c∈l,a<c.at_)→YS p l=0:=by
  intro l
  induction l with
  |nil=>intro p _ _ _;exact ZcC p
  |cons c l ih=>
   intro p h1 h2 h3
   obtain⟨b1,b2,b3⟩:=h1 c (List.mem_cons_self ..)
   have hle:leP p c.at_=false:=by
    cases p with
    |none=>rfl
    |some a=>have:=h3 a rfl c (List.mem_cons_self ..);simp[leP];omega
   rw[Yw,if_neg (by simp[Yz];omega),hle]
   unfold ZpN at b3
   have h4:(!Yz c.by_ (-180) 180||decide (c.by_=0))=false:=by
    have g1:Yz c.by_ (-180) 180=true:=by simp[Yz];omega
    have g2:decide (c.by_=0)=false:=by simp;omega
    rw[g1,g2];rfl
   rw[h4]
   simp only[Bool.false_eq_true,if_false]
   rw[List.pairwise_cons]at h2
   exact ih _ (fun x hx=>h1 x (List.mem_cons_of_mem _ hx)) h2.2 fun a e x hx=>by cases e;exact h2.1 x hx
 exact key _ none (fun c hc=>by
  have h1:=h.at_ c hc
  have:0<z.chs.length:=List.length_pos_of_mem hc
  exact⟨h1.1,by omega,h.by_ c hc⟩) h.asc fun a e=>by cases e
theorem ZfE {α:Type} {q:α→Bool} {d:α}:∀ {l:List α} {i:Nat} {k:Int},i<l.length→q (l.getD i d)=true→(∀j,j<i→q (l.getD j d)=false)→Zn q k l=k+i
 |[],i,k,h,_,_=>by simp at h
 |a::l,i,k,h,hi,hj=>by
  unfold Zn
  cases i with
  |zero=>
   rw[show q a=true from hi,if_pos rfl]
   simp
  |succ i=>
   rw[show q a=false from hj 0 (by omega),if_neg Bool.false_ne_true,ZfE (d:=d) (i:=i) (by simpa using h) hi fun j h'=>hj (j+1) (by omega)]
   omega
theorem Zki {α:Type} {d:α} {l:List α} {i:Nat} (h:i<l.length):l.getD i d∈l:=by rw[List.getD_eq_getElem?_getD,List.getElem?_eq_getElem h];exact List.getElem_mem _
theorem ZoE {α:Type} {d:α} {r:α→α→Prop} {l:List α} (h:l.Pairwise r) {i j:Nat} (hij:i<j) (hj:j<l.length):r (l.getD i d) (l.getD j d):=by
 have:=List.pairwise_iff_getElem.1 h i j (by omega) hj hij
 rw[List.getD_eq_getElem?_getD,List.getD_eq_getElem?_getD,List.getElem?_eq_getElem (by omega),List.getElem?_eq_getElem hj]
 exact this
structure DL (n:Int) (l:List Train):Prop where
 all:∀(k:Nat),k<l.length→∃st:Nat,2≤st∧st≤10∧ZjH st (n-k) (l.getD k default)
theorem DL.snoc {n:Int} {l:List Train} {t:Train} {st:Nat} (h:DL n l) (h1:2≤st∧st≤10) (ht:ZjH st (n-l.length) t):DL n (l++[t]):=⟨fun k hk=>by
 simp only[List.length_append,List.length_cons,List.length_nil]at hk
 by_cases h2:k<l.length
 ·rw[List.getD_eq_getElem?_getD,List.getElem?_append_left h2,←List.getD_eq_getElem?_getD]
  exact h.all k h2
 ·have hk:k=l.length:=by omega
  subst hk
  have e:(l++[t]).getD l.length default=t:=by simp[List.getD_eq_getElem?_getD]
  rw[e]
  exact⟨st,h1.1,h1.2,ht⟩⟩
def Zs (z:Zone) (old:List Train):XE:=⟨[z],old,[],1,0⟩
theorem Zrh {st:Nat} {number:Int} {t:Train} (hst:st≤10) (h:Zha 1 st number t):YH 1 t.stops=0:=by
 refine ZaY fun j _ hj=>?_
 have hj:j<t.stops.length:=by omega
 obtain⟨h1,h2,h3,h4,h5⟩:=h.stop _ (Zki (d:=default) hj)
 unfold Q5 YT
 rw[ZfF h1.1 (by omega)]
 have hany:(t.stops.take j).any (fun x=>decide (x.station=(t.stops.getD j default).station))=false:=by
  rw[List.any_eq_false]
  intro x hx
  obtain⟨i,hi,rfl⟩:=List.mem_iff_getElem.1 hx
  have hi':i<j:=by simp at hi;omega
  have:=ZoE (d:=default) h.nodup hi' hj
  rw[List.getD_eq_getElem?_getD,List.getElem?_eq_getElem (show i<t.stops.length by omega)]at this
  simpa using this
 rw[hany,ZfF h2.1 (by omega),ZfF h3 (by omega),ZfF (by omega:(0:Int)≤_) h5]
 have hd:decide ((t.stops.getD j default).depart<(t.stops.getD j default).arrive)=false:=decide_eq_false (by omega)
 rw[hd]
 simp
theorem Zen {n:Int} {l:List Train} (h:DL n l) {i:Nat} (hi:i<l.length):(l.getD i default).number=n-i:=by
 obtain⟨st,_,_,ht⟩:=h.all i hi
 exact ht.made.number
theorem Zh0 {z:Zone} {n:Int} {l:List Train} (hz:Zx z=0) (h:DL n l) (hn:n=l.length) (hl:l.length≤4):XW (Zs z l)=0:=by
 have h1:Qf 1 l=0:=by
  unfold Qf
  rw[Zpl (show(0:Int)≤l.length by omega) (by omega),if_neg (fun h=>h rfl)]
  refine ZaY fun j _ hj=>?_
  have hj:j<l.length:=by omega
  obtain⟨st,_,hst,ht⟩:=h.all j hj
  have hlen:=ht.made.len
  unfold QP
  rw[ZfF (by rw[Zen h hj];omega) (by rw[Zen h hj];omega)]
  have hany:(l.take j).any (fun x=>decide (x.number=(l.getD j default).number))=false:=by
   rw[List.any_eq_false]
   intro x hx
   obtain⟨i,hi,rfl⟩:=List.mem_iff_getElem.1 hx
   have hi':i<j:=by simp at hi;omega
   have hx:=Zen h (show i<l.length by omega)
   rw[List.getD_eq_getElem?_getD,List.getElem?_eq_getElem (show i<l.length by omega)]at hx
   rw[Zen h hj,List.getElem_take]
   have hx:l[i].number=n-i:=hx
   rw[hx]
   simp
   omega
  rw[hany,ZfF ht.made.days.1 ht.made.days.2,Zpl (by omega) (by omega)]
  simp only[Bool.not_true,Bool.false_eq_true,if_false,ne_eq,not_true_eq_false]
  exact Zrh hst ht.made
 unfold XW Zs
 simp only[List.length_cons,List.length_nil]
 rw[show Qf ((0+1:Nat):Int) l=0 from h1]
 rw[ZaY (f:=fun i=>Zx ([z].getD i default)) (k:=0+1) (i:=0) (fun j _ hj=>by
  have:j=0:=by omega
  subst this
  exact hz)]
 rfl
theorem Zlb {z:Zone} {n:Int} {l:List Train} (hc:XW (Zs z l)=0) (h:DL n l) {j:Nat} (hj:j<l.length):JX (Zs z l) (l.getD j default).number 0=(Sp.calls [z] (l.getD j default) 0,0):=by
 obtain⟨st,_,hst,ht⟩:=h.all j hj
 have hp:place l (l.getD j default).number=j:=by
  unfold place
  rw[ZfE (d:=default) hj (by simp) fun i hi=>by
   rw[Zen h hj,Zen h (show i<l.length by omega)]
   simp
   omega]
  omega
 unfold JX
 rw[if_neg (fun hne=>hne hc)]
 show(if(!Yz 0 0 0)=true then _ else _)=_
 rw[if_neg (by decide)]
 show(if place l (l.getD j default).number<0 then _ else if(!Zbp (l.getD (place l (l.getD j default).number).toNat default) 0)=true then _ else(Sp.calls [z] (l.getD (place l (l.getD j default).number).toNat default) 0,0))=_
 rw[hp,if_neg (by omega),Int.toNat_natCast]
 have:Zbp (l.getD j default) 0=true:=by
  unfold Zbp
  rw[ht.days]
  decide
 rw[this]
 rfl
theorem Zc6 (zs:List Zone) (day:Int) (many:Nat):∀(l:List Stop) (i:Nat) (now:Int),(Qg zs day many i now l).map (·.station)=l.map (·.station)
 |[],_,_=>rfl
 |s::r,i,now=>by
  unfold Qg
  split
  ·simp[Zc6 zs day many r]
  ·simp[Zc6 zs day many r]
structure ZjE (r:List Sp.Call):Prop where
 len:2≤r.length∧r.length≤4
 st:r.Pairwise fun a b=>a.station≠b.station
 asc:Xn r=0
theorem Zou {z:Zone} {st:Nat} {number:Int} {t:Train} (h:ZjH st number t) (ho:Xn (Sp.calls [z] t 0)=0):ZjE (Sp.calls [z] t 0):=by
 have hl:(Sp.calls [z] t 0).length=t.stops.length:=XT _ _ _ _ _ _
 refine⟨by rw[hl];exact⟨h.made.len.1,h.made.len.2.1⟩,?_,ho⟩
 have e:(Sp.calls [z] t 0).map (·.station)=t.stops.map (·.station):=Zc6 _ _ _ _ _ _
 have h1:(t.stops.map (·.station)).Pairwise (· ≠·):=List.pairwise_map.2 h.made.nodup
 rw[←e]at h1
 exact List.pairwise_map.1 h1
def eAt (many i:Nat) (s:Stop):Sp.Call:=if i=0 then⟨s.station,if i+1<many then s.depart else 0,if i+1<many then s.depart else 0⟩else⟨s.station,s.arrive,if i+1<many then s.depart else s.arrive⟩
def eGo (many:Nat):Nat→List Stop→List Sp.Call
 |_,[]=>[]
 |i,s::r=>eAt many i s::eGo many (i+1) r
theorem ZoZ {r now:Int} (h1:0≤r∧r≤10000) (h2:0≤now∧now≤r):QY (ZV ⟨0,[]⟩) r now=r:=by
 show(if max 0 (max now (r-0))<Xo then max 0 (max now (r-0))else Xo)=r
 unfold Xo
 rw[if_pos (by omega)]
 omega
theorem Zo1 {many:Nat}:∀(l:List Stop) (i:Nat) (now:Int),(∀s∈l,s.zone=0∧0≤s.arrive∧s.arrive≤s.depart∧s.depart≤5000)→(∀k,k+1<l.length→(l.getD k default).depart<(l.getD (k+1) default).arrive)→
  (0≤now∧∀s∈l.head?,if i=0 then now=0 else now<s.arrive)→Qg [⟨0,[]⟩] 0 many i now l=eGo many i l
 |[],_,_,_,_,_=>rfl
 |s::r,i,now,hs,ha,hn=>by
  obtain⟨z0,a0,a1,a2⟩:=hs s (List.mem_cons_self ..)
  have hn1:=hn.1
  have hn2:=hn.2 s (by simp)
  have hz:([⟨0,[]⟩]:List Zone).getD s.zone.toNat default=⟨0,[]⟩:=by rw[z0];rfl
  have hnext:∀d:Int,0≤d→d≤s.depart→0≤d∧∀s'∈r.head?,if i+1=0 then d=0 else d<s'.arrive:=fun d h1 h2=>⟨h1,fun s' hs'=>by
   rw[if_neg (by omega)]
   cases r with
   |nil=>cases hs'
   |cons x r=>
    have:x=s':=by simpa using hs'
    subst this
    have:=ha 0 (by simp)
    exact Int.lt_of_le_of_lt h2 this⟩
  have har:∀k,k+1<r.length→(r.getD k default).depart<(r.getD (k+1) default).arrive:=fun k hk=>ha (k+1) (by simpa using hk)
  have hsr:∀s∈r,s.zone=0∧0≤s.arrive∧s.arrive≤s.depart∧s.depart≤5000:=fun x hx=>hs x (List.mem_cons_of_mem _ hx)
  unfold Qg eGo eAt
  rw[hz]
  by_cases h0:i=0
  ·rw[if_pos h0]at hn2
   subst hn2
   simp only[if_pos h0]
   have e:QY (ZV ⟨0,[]⟩) (1440*0+s.depart) 0=s.depart:=by rw[show(1440:Int)*0+s.depart=s.depart by omega];exact ZoZ (by omega) (by omega)
   rw[e]
   rw[Zo1 r (i+1) _ hsr har (hnext _ (by split<;>omega) (by split<;>omega))]
  ·rw[if_neg h0]at hn2
   simp only[if_neg h0]
   have e:QY (ZV ⟨0,[]⟩) (1440*0+s.arrive) now=s.arrive:=by rw[show(1440:Int)*0+s.arrive=s.arrive by omega];exact ZoZ (by omega) (by omega)
   have e2:QY (ZV ⟨0,[]⟩) (1440*0+s.depart) s.arrive=s.depart:=by rw[show(1440:Int)*0+s.depart=s.depart by omega];exact ZoZ (by omega) (by omega)
   rw[e,e2]
   rw[Zo1 r (i+1) _ hsr har (hnext _ (by split<;>omega) (by split<;>omega))]
theorem ZhY {many:Nat}:∀(l:List Stop) (i k:Nat),k<l.length→(eGo many i l).getD k default=eAt many (i+k) (l.getD k default)
 |[],_,k,h=>by simp at h
 |s::r,i,0,_=>rfl
 |s::r,i,k+1,h=>by
  have:=ZhY (many:=many) r (i+1) k (by simpa using h)
  rw[show i+1+k=i+(k+1) by omega]at this
  exact this
theorem Zj2 {st:Nat} {number:Int} {t:Train} (h:ZjH st number t):Xn (Sp.calls [⟨0,[]⟩] t 0)=0:=by
 have e:Sp.calls [⟨0,[]⟩] t 0=eGo t.stops.length 0 t.stops:=Zo1 _ _ _ (fun s hs=>by
  have:=h.made.stop s hs
  have:=h.late s hs
  omega) h.asc ⟨Int.le_refl _,fun s hs=>by rw[if_pos rfl]⟩
 have hl:(Sp.calls [⟨0,[]⟩] t 0).length=t.stops.length:=XT _ _ _ _ _ _
 unfold Xn
 rw[hl,e]
 refine ZaY fun k hk1 hk2=>?_
 have hlen:=h.made.len
 unfold Jn
 rw[ZhY _ _ _ (by omega),ZhY _ _ _ (by omega)]
 have ha:=h.asc (k-1) (by omega)
 rw[show k-1+1=k by omega]at ha
 have hs:=h.made.stop _ (Zki (d:=default) (show k-1<t.stops.length by omega))
 have h1:(eAt t.stops.length (0+k) (t.stops.getD k default)).arrive=(t.stops.getD k default).arrive:=by unfold eAt;rw[if_neg (by omega)]
 have h2:(eAt t.stops.length (0+(k-1)) (t.stops.getD (k-1) default)).depart≤(t.stops.getD (k-1) default).depart:=by
  unfold eAt
  split
  ·show(if _ then _ else(0:Int))≤_
   split<;>omega
  ·show(if _ then _ else _)≤_
   split<;>omega
 rw[h1,if_neg (by omega)]
theorem Zhm {r:List Sp.Call} (hp:r.Pairwise fun a b=>a.station≠b.station) {f i:Nat} (hf:f≤i) (hi:i<r.length):Zo r f (r.getD i default).station=i:=by
 unfold Zo
 rw[show(max 0 (f:Int))=f by omega,Int.toNat_natCast]
 have hg:∀j,(r.drop f).getD j default=r.getD (f+j) default:=fun j=>by simp[List.getD_eq_getElem?_getD,List.getElem?_drop]
 rw[ZfE (d:=default) (i:=i-f) (by rw[List.length_drop];omega) (by rw[hg,show f+(i-f)=i by omega];simp) fun j hj=>by
  rw[hg]
  have:=ZoE (d:=default) hp (show f+j<i by omega) hi
  simpa using this]
 omega
theorem Zcw {c:List (List Sp.Call)} {f:Int} (h:0≤f∧f<c.length):Sp.Zj c f∈c:=by
 unfold Sp.Zj
 exact Zki (by omega)
theorem ZpR {c:List (List Sp.Call)} (hc:∀r∈c,ZjE r) {w:Sp.ZM} {before:List Sp.ZM} {i k:Nat} (hf:0≤w.feeder∧w.feeder<c.length) (ht:0≤w.train∧w.train<c.length) (hne:w.feeder≠w.train) (hi:1≤i∧i<(Sp.Zj c w.feeder).length) (hk:k+1<(Sp.Zj c w.train).length)
  (hs:w.station=((Sp.Zj c w.feeder).getD i default).station) (hs2:((Sp.Zj c w.train).getD k default).station=w.station) (ha:((Sp.Zj c w.feeder).getD i default).arrive≤((Sp.Zj c w.train).getD k default).depart) (hm:0≤w.minutes∧w.minutes≤60)
  (hn:before.any (fun x=>decide (x.feeder=w.feeder∧x.train=w.train∧x.station=w.station))=false):Qt c w before=0:=by
 have h1:ZA (Sp.Zj c w.feeder) w.station=i:=by rw[hs];exact Zhm (hc _ (Zcw hf)).st hi.1 hi.2
 have h2:Zo (Sp.Zj c w.train) 0 w.station=k:=by rw[←hs2];exact Zhm (hc _ (Zcw ht)).st (Nat.zero_le _) (by omega)
 have h3:Zr (Sp.Zj c w.train) w.station=k:=by unfold Zr;rw[h2,if_pos (by omega)]
 unfold Qt
 rw[J4 hf.1 (by omega),J4 ht.1 (by omega),if_neg (by decide),if_neg hne]
 show(if ZA (Sp.Zj c w.feeder) w.station<0∨Zr (Sp.Zj c w.train) w.station<0 then(3:Int)else if Qs w.minutes 0 60=true then 1 else if((Sp.Zj c w.train).getD (Zr (Sp.Zj c w.train) w.station).toNat default).depart<((Sp.Zj c w.feeder).getD (ZA (Sp.Zj c w.feeder) w.station).toNat default).arrive then 5 else if before.any _=true then 4 else 0)=0
 rw[h1,h3,if_neg (by omega),J4 hm.1 hm.2,if_neg Bool.false_ne_true,Int.toNat_natCast,Int.toNat_natCast,if_neg (by omega),hn,if_neg Bool.false_ne_true]
theorem Zpe {c:List (List Sp.Call)} {d:Sp.Qj} {before:List Sp.Qj} (hr:0≤d.run∧d.run<c.length) (hl:0≤d.leg∧d.leg+2≤(Sp.Zj c d.run).length) (hb:1≤d.by_.length∧d.by_.length≤3) (hv:∀k,k<d.by_.length→0≤d.by_.getD k 0∧d.by_.getD k 0≤240)
  (ha:∀k,k+1<d.by_.length→d.by_.getD k 0<d.by_.getD (k+1) 0) (hn:before.any (fun x=>decide (x.run=d.run∧x.leg=d.leg))=false):QJ c d before=0:=by
 unfold QJ
 rw[J4 hr.1 (by omega)]
 show(if(false||Qs d.leg 0 (((Sp.Zj c d.run).length:Int)-2))=true then(3:Int)else _)=0
 rw[J4 hl.1 (by omega),if_neg (by decide),if_neg (by omega),if_neg (by omega)]
 have h0:Zv (Zgr d.by_) 0 d.by_.length=0:=ZaY fun k _ hk=>by
  have hk:k<d.by_.length:=by omega
  unfold Zgr
  rw[J4 (hv k hk).1 (hv k hk).2,if_neg Bool.false_ne_true,if_neg]
  rintro⟨h1,h2⟩
  have:=ha (k-1) (by omega)
  rw[show k-1+1=k by omega]at this
  omega
 rw[h0,if_neg (fun h=>h rfl),hn,if_neg Bool.false_ne_true]
structure LOk {α:Type} [Inhabited α] (e:α→List α→Int) (l:List α):Prop where
 ok:∀i,i<l.length→e (l.getD i default) (l.take i)=0
theorem LOk.nil {α:Type} [Inhabited α] {e:α→List α→Int}:LOk e []:=⟨fun i h=>by simp at h⟩
theorem LOk.snoc {α:Type} [Inhabited α] {e:α→List α→Int} {l:List α} {a:α} (h:LOk e l) (ha:e a l=0):LOk e (l++[a]):=⟨fun i hi=>by
 simp only[List.length_append,List.length_cons,List.length_nil]at hi
 by_cases h2:i<l.length
 ·rw[List.getD_eq_getElem?_getD,List.getElem?_append_left h2,←List.getD_eq_getElem?_getD,List.take_append_of_le_length (by omega)]
  exact h.ok i h2
 ·have hk:i=l.length:=by omega
  subst hk
  rw[List.take_left]
  have e:(l++[a]).getD l.length default=a:=by simp[List.getD_eq_getElem?_getD]
  rw[e]
  exact ha⟩
theorem Zjr {t:Ze} (h1:XW t.book=0) (h2:Q6 t=0) (h3:t.waits.length≤4) (h4:LOk (Qt (callsOf t)) t.waits) (h5:t.delays.length≤6) (h6:LOk (QJ (callsOf t)) t.delays):Zl t=0:=by
 unfold Zl
 rw[if_neg (fun h=>h h1),if_neg (fun h=>h h2),if_neg (by omega),ZaY (fun j _ hj=>h4.ok j (by omega)),if_neg (fun h=>h rfl),if_neg (by omega)]
 exact ZaY fun j _ hj=>h6.ok j (by omega)
end Go.Proofs.YtjgpiclllehgmaaGreat.Vm
namespace Go.Proofs.YtjgpiclllehgmaaGreat.Sp
open Vm
theorem JW {t:Ze} (h:Zl t=0):Sp.XW t.book=0∧Q6 t=0∧t.waits.length≤4∧LOk (Qt (callsOf t)) t.waits∧t.delays.length≤6∧LOk (QJ (callsOf t)) t.delays:=by
 unfold Zl at h
 split at h
 ·exact absurd h (by assumption)
 split at h
 ·exact absurd h (by assumption)
 rename_i h0 h1
 split at h
 ·cases h
 split at h
 ·exact absurd h (by assumption)
 rename_i h2 h3
 split at h
 ·cases h
 rename_i h4
 exact⟨Decidable.of_not_not h0,Decidable.of_not_not h1,by omega,⟨fun i hi=>Z4 (Decidable.of_not_not h3) i (Nat.zero_le _) (by omega)⟩,by omega,⟨fun i hi=>Z4 h i (Nat.zero_le _) (by omega)⟩⟩
structure ZrA (t:Ze) (d:Nat):Prop where
 run:0≤(t.delays.getD d default).run∧(t.delays.getD d default).run<(callsOf t).length
 leg:0≤(t.delays.getD d default).leg∧(t.delays.getD d default).leg+2≤(Zj (callsOf t) (t.delays.getD d default).run).length
 many:1≤(t.delays.getD d default).by_.length∧(t.delays.getD d default).by_.length≤3
 asc:∀k,k+1<(t.delays.getD d default).by_.length→(t.delays.getD d default).by_.getD k 0<(t.delays.getD d default).by_.getD (k+1) 0
 one:∀j,j<d→¬((t.delays.getD j default).run=(t.delays.getD d default).run∧(t.delays.getD j default).leg=(t.delays.getD d default).leg)
theorem Zms {t:Ze} (h:Zl t=0):∀d,d<t.delays.length→QJ (callsOf t) (t.delays.getD d default) (t.delays.take d)=0:=by
 unfold Zl at h
 split at h
 ·exact absurd h (by assumption)
 split at h
 ·exact absurd h (by assumption)
 split at h
 ·cases h
 split at h
 ·exact absurd h (by assumption)
 split at h
 ·cases h
 exact fun d hd=>Z4 h d (Nat.zero_le _) (by omega)
theorem Zpf {t:Ze} (h:Zl t=0) {d:Nat} (hd:d<t.delays.length):ZrA t d:=by
 have h5:=Zms h d hd
 generalize hD:t.delays.getD d default=D at h5
 unfold QJ at h5
 split at h5
 ·cases h5
 rename_i g1
 split at h5
 ·cases h5
 split at h5
 ·cases h5
 split at h5
 ·exact absurd h5 (by assumption)
 rename_i g2 g3 g4
 split at h5
 ·cases h5
 rename_i g5
 have b1:Qs D.run 0 ((callsOf t).length-1)=false:=by cases hq:Qs D.run 0 ((callsOf t).length-1)with|false=>rfl|true=>exact absurd (by rw[hq];rfl) g1
 have b2:Qs D.leg 0 (((callsOf t).getD D.run.toNat []).length-2)=false:=by cases hq:Qs D.leg 0 (((callsOf t).getD D.run.toNat []).length-2)with|false=>rfl|true=>exact absurd (by rw[hq,Bool.or_true]) g1
 have b1:=QO b1
 have b2:=QO b2
 have hby:=Z4 (Decidable.of_not_not g4)
 refine⟨by rw[hD];omega,by rw[hD];unfold Zj;omega,by rw[hD];omega,fun k hk=>?_,fun j hj hq=>?_⟩
 ·rw[hD]at hk⊢
  have h6:=hby (k+1) (Nat.zero_le _) (by omega)
  unfold Zgr at h6
  split at h6
  ·cases h6
  split at h6
  ·cases h6
  rename_i g6
  rw[show k+1-1=k from rfl]at g6
  have:=fun h=>g6 ⟨Nat.succ_pos k,h⟩
  omega
 ·refine g5 ?_
  rw[List.any_eq_true]
  refine⟨t.delays.getD j default,?_,by rw[hD]at hq;exact decide_eq_true hq⟩
  rw[List.mem_iff_getElem?]
  refine⟨j,?_⟩
  rw[List.getElem?_take,if_pos hj,List.getD_eq_getElem?_getD,List.getElem?_eq_getElem (by omega)]
  rfl
theorem Yx (t:Ze):(callsOf t).length=t.runs.length:=by unfold callsOf;rw[List.length_map]
theorem ZpS {c:List (List Call)} {w:ZM} {p:List ZM} (h5:Qt c w p=0):(0≤w.feeder∧w.feeder<c.length)∧(0≤w.train∧w.train<c.length):=by
 unfold Qt at h5
 split at h5
 ·cases h5
 rename_i g1
 have b1:Qs w.feeder 0 (c.length-1)=false:=by cases hq:Qs w.feeder 0 (c.length-1)with|false=>rfl|true=>exact absurd (by rw[hq];rfl) g1
 have b2:Qs w.train 0 (c.length-1)=false:=by cases hq:Qs w.train 0 (c.length-1)with|false=>rfl|true=>exact absurd (by rw[hq,Bool.or_true]) g1
 have b1:=QO b1
 have b2:=QO b2
 omega
theorem LOk.mem {α:Type} [Inhabited α] {e:α→List α→Int} {l:List α} (h:LOk e l) {a:α} (ha:a∈l):∃p,e a p=0:=by
 obtain⟨i,hi,rfl⟩:=List.mem_iff_getElem.1 ha
 refine⟨l.take i,?_⟩
 have:=h.ok i hi
 rw[List.getD_eq_getElem?_getD,List.getElem?_eq_getElem hi]at this
 exact this
theorem ZlE {t:Ze} (he:Zl t=0):∀w∈t.waits,(0≤w.feeder∧w.feeder<t.runs.length)∧(0≤w.train∧w.train<t.runs.length):=fun w hw=>by
 obtain⟨p,hp⟩:=LOk.mem (JW he).2.2.2.1 hw
 have:=ZpS hp
 rw[Yx]at this
 exact this
theorem LOk.map {α β:Type} [Inhabited α] [Inhabited β] {e:α→List α→Int} {e':β→List β→Int} {f:α→β} {l:List α} (h:LOk e l) (hm:∀a∈l,∀p,(∀b∈p,b∈l)→e a p=0→e' (f a) (p.map f)=0):LOk e' (l.map f):=⟨fun i hi=>by
 rw[List.length_map]at hi
 have h1:=h.ok i hi
 rw[List.getD_eq_getElem?_getD,List.getElem?_eq_getElem hi]at h1
 rw[List.getD_eq_getElem?_getD,List.getElem?_map,List.getElem?_eq_getElem hi,←List.map_take]
 exact hm _ (List.getElem_mem hi) _ (fun b hb=>List.mem_of_mem_take hb) h1⟩
theorem Zim {t:Ze} {w n:Int} {k:Nat}:(Zz t w n).waits.getD k default=if k=w.toNat∧k<t.waits.length then {t.waits.getD k default with minutes:=n}else t.waits.getD k default:=by
 show(t.waits.set w.toNat _).getD k default=_
 rw[List.getD_eq_getElem?_getD,List.getElem?_set]
 by_cases h:w.toNat=k
 ·subst h
  rw[if_pos rfl]
  by_cases hl:w.toNat<t.waits.length
  ·rw[if_pos hl,if_pos ⟨rfl,hl⟩];rfl
  ·rw[if_neg hl,if_neg (fun h=>hl h.2),List.getD_eq_getElem?_getD,List.getElem?_eq_none (by omega)]
 ·rw[if_neg h,if_neg (fun h'=>h h'.1.symm),←List.getD_eq_getElem?_getD]
theorem Ju {t:Ze} (he:Zl t=0) {w n:Int} (hn:0≤n∧n≤60):Zl (Zz t w n)=0:=by
 obtain⟨h1,h2,h3,h4,h5,h6⟩:=JW he
 have hsame:∀k,((Zz t w n).waits.getD k default).feeder=(t.waits.getD k default).feeder∧((Zz t w n).waits.getD k default).train=(t.waits.getD k default).train∧((Zz t w n).waits.getD k default).station=(t.waits.getD k default).station:=fun k=>by
  rw[Zim];split<;>exact⟨rfl,rfl,rfl⟩
 have hlen:(Zz t w n).waits.length=t.waits.length:=by show(t.waits.set _ _).length=_;rw[List.length_set]
 refine Zjr h1 h2 (by omega) ⟨fun i hi=>?_⟩ h5 h6
 have h:=h4.ok i (by omega)
 have hs:=hsame i
 have hany:((Zz t w n).waits.take i).any (fun x=>decide (x.feeder=(t.waits.getD i default).feeder∧x.train=(t.waits.getD i default).train∧x.station=(t.waits.getD i default).station))=(t.waits.take i).any (fun x=>decide (x.feeder=(t.waits.getD i default).feeder∧x.train=(t.waits.getD i default).train∧x.station=(t.waits.getD i default).station)):=by
  rw[Bool.eq_iff_iff,List.any_eq_true,List.any_eq_true]
  constructor
  ·rintro⟨x,hx,hq⟩
   obtain⟨k,hk,rfl⟩:=List.mem_iff_getElem.1 hx
   have hk':k<i∧k<t.waits.length:=by rw[List.length_take]at hk;omega
   refine⟨t.waits.getD k default,?_,?_⟩
   ·rw[List.mem_iff_getElem?]
    exact⟨k,by rw[List.getElem?_take,if_pos hk'.1,List.getD_eq_getElem?_getD,List.getElem?_eq_getElem hk'.2];rfl⟩
   ·have e:((Zz t w n).waits.take i)[k]=(Zz t w n).waits.getD k default:=by
     rw[List.getElem_take,List.getD_eq_getElem?_getD,List.getElem?_eq_getElem (by omega)];rfl
    rw[e,(hsame k).1,(hsame k).2.1,(hsame k).2.2]at hq
    exact hq
  ·rintro⟨x,hx,hq⟩
   obtain⟨k,hk,rfl⟩:=List.mem_iff_getElem.1 hx
   have hk':k<i∧k<t.waits.length:=by rw[List.length_take]at hk;omega
   refine⟨(Zz t w n).waits.getD k default,?_,?_⟩
   ·rw[List.mem_iff_getElem?]
    exact⟨k,by rw[List.getElem?_take,if_pos hk'.1,List.getD_eq_getElem?_getD,List.getElem?_eq_getElem (by omega)];rfl⟩
   ·have e:(t.waits.take i)[k]=t.waits.getD k default:=by
     rw[List.getElem_take,List.getD_eq_getElem?_getD,List.getElem?_eq_getElem (by omega)];rfl
    rw[e]at hq
    rw[(hsame k).1,(hsame k).2.1,(hsame k).2.2]
    exact hq
 unfold Qt at h⊢
 show(if(Qs ((Zz t w n).waits.getD i default).feeder 0 ((callsOf t).length-1)||Qs ((Zz t w n).waits.getD i default).train 0 ((callsOf t).length-1))=true then(3:Int)else if((Zz t w n).waits.getD i default).feeder=((Zz t w n).waits.getD i default).train then 4 else if ZA ((callsOf t).getD ((Zz t w n).waits.getD i default).feeder.toNat []) ((Zz t w n).waits.getD i default).station<0∨Zr ((callsOf t).getD ((Zz t w n).waits.getD i default).train.toNat []) ((Zz t w n).waits.getD i default).station<0 then 3 else if Qs ((Zz t w n).waits.getD i default).minutes 0 60=true then 1 else if(((callsOf t).getD ((Zz t w n).waits.getD i default).train.toNat []).getD (Zr ((callsOf t).getD ((Zz t w n).waits.getD i default).train.toNat []) ((Zz t w n).waits.getD i default).station).toNat default).depart<(((callsOf t).getD ((Zz t w n).waits.getD i default).feeder.toNat []).getD (ZA ((callsOf t).getD ((Zz t w n).waits.getD i default).feeder.toNat []) ((Zz t w n).waits.getD i default).station).toNat default).arrive then 5 else if((Zz t w n).waits.take i).any (fun x=>decide (x.feeder=((Zz t w n).waits.getD i default).feeder∧x.train=((Zz t w n).waits.getD i default).train∧x.station=((Zz t w n).waits.getD i default).station))=true then 4 else 0)=0
 rw[hs.1,hs.2.1,hs.2.2,hany]
 have hmin:Qs ((Zz t w n).waits.getD i default).minutes 0 60=false:=by
  rw[Zim]
  split
  ·exact J4 hn.1 hn.2
  ·rename_i hne
   split at h
   ·cases h
   split at h
   ·cases h
   split at h
   ·cases h
   split at h
   ·cases h
   rename_i g
   simpa using g
 rw[hmin]
 split at h
 ·cases h
 rename_i g1
 rw[if_neg g1]
 split at h
 ·cases h
 rename_i g2
 rw[if_neg g2]
 split at h
 ·cases h
 rename_i g3
 rw[if_neg g3,if_neg Bool.false_ne_true]
 split at h
 ·cases h
 exact h
theorem Zbc {α β:Type} [Inhabited β] {f:α→β→α} {v:β}:∀(l:List β) (i:Nat) (a:α),(∀a,f a v=f a (l.getD i default))→(l.set i v).foldl f a=l.foldl f a
 |[],_,_,_=>rfl
 |b::l,0,a,h=>by
  rw[List.set_cons_zero,List.foldl_cons,List.foldl_cons,h a]
  rfl
 |b::l,i+1,a,h=>by
  rw[List.set_cons_succ,List.foldl_cons,List.foldl_cons]
  exact Zbc l i _ h
theorem ZfK {β:Type} {f:Int→β→Int} (hf:∀a b x,a≤b→f a x≤f b x):∀(l:List β) (a b:Int),a≤b→l.foldl f a≤l.foldl f b
 |[],_,_,h=>h
 |x::l,a,b,h=>ZfK hf l _ _ (hf a b x h)
theorem Zc4 {β:Type} [Inhabited β] {f:Int→β→Int} {v:β} (hf:∀a b x,a≤b→f a x≤f b x):∀(l:List β) (i:Nat) (a:Int),(∀a,f a (l.getD i default)≤f a v)→l.foldl f a≤(l.set i v).foldl f a
 |[],_,_,_=>Int.le_refl _
 |b::l,0,a,h=>by
  rw[List.set_cons_zero,List.foldl_cons,List.foldl_cons]
  exact ZfK hf l _ _ (h a)
 |b::l,i+1,a,h=>by
  rw[List.set_cons_succ,List.foldl_cons,List.foldl_cons]
  exact Zc4 hf l i _ h
theorem ZjN {c:List (List Call)} {cm:Int→Int→Int} {r:Int} {call:Call} (a b:Int) (w:ZM) (h:a≤b):X1 c cm r call a w≤X1 c cm r call b w:=by
 unfold X1
 split
 ·exact h
 split<;>omega
theorem Zkt {l:List Call} {st:Int} {a:Nat} (ha:a<l.length) (hst:(l.getD a default).station=st) (h0:0≤Zr l st):Zr l st≤a:=by
 have:=ZfD (q:=fun c:Call=>decide (c.station=st)) (d:=default) (l:=l) (i:=0) (k:=a) ha (decide_eq_true hst)
 have hge:Zr l st=Zo l 0 st:=by
  unfold Zr at*
  split at h0
  ·rw[if_pos (by assumption)]
  ·omega
 rw[hge]
 unfold Zo
 rw[show max 0 (0:Int)=0 from rfl,show(0:Int).toNat=0 from rfl,List.drop_zero]
 omega
theorem ZdA {α:Type} {q:α→Bool} {d:α}:∀ {l:List α} {i:Int},0≤i→0≤Zn q i l→q (l.getD (Zn q i l-i).toNat d)=true
 |[],i,_,h=>by unfold Zn at h;omega
 |a::l,i,h0,h=>by
  unfold Zn at h⊢
  split
  ·rename_i hq
   rw[show(i-i).toNat=0 by omega]
   exact hq
  ·rename_i hq
   rw[if_neg hq]at h
   have ih:=ZdA (d:=d) (l:=l) (i:=i+1) (by omega) h
   have:=(Xb (q:=q) (l:=l) (i:=i+1) (by omega)).2
   rw[show(Zn q (i+1) l-i).toNat=(Zn q (i+1) l-(i+1)).toNat+1 by omega]
   exact ih
theorem Zog {l:List Call} {st:Int} (h:0≤Zo l 0 st):(l.getD (Zo l 0 st).toNat default).station=st:=by
 have e:Zo l 0 st=Zn (fun c=>decide (c.station=st)) 0 l:=by
  unfold Zo
  rw[show max 0 (0:Int)=0 from rfl,show(0:Int).toNat=0 from rfl,List.drop_zero]
 rw[e]at h⊢
 have:=ZdA (q:=fun c:Call=>decide (c.station=st)) (d:=default) (l:=l) (i:=0) (Int.le_refl _) h
 rw[Int.sub_zero]at this
 exact of_decide_eq_true this
theorem Zjf {t:Ze} (hf:ZJ t) {r:Int}:∀(n:Nat) (g:Int),0≤g→StopIn (callsOf t) r (g+n)→(Zt (callsOf t) r g).depart≤(Zt (callsOf t) r (g+n)).depart
 |0,g,_,_=>by rw[show g+((0:Nat):Int)=g by omega];exact Int.le_refl _
 |n+1,g,h0,hin=>by
  have hp:StopIn (callsOf t) r (g+n):=⟨hin.1,hin.2.1,by omega,by have:=hin.2.2.2;omega⟩
  have h1:=Zjf hf n g h0 hp
  have h2:=hf.asc r (g+((n+1:Nat):Int)) hin (by omega)
  rw[show g+((n+1:Nat):Int)-1=g+n by omega]at h2
  have h3:=(hf.nn r _ hin).2.1
  omega
theorem Zbk {t:Ze} (he:Zl t=0) {w n:Int} (hw:0≤w∧w<t.waits.length) (hn:0≤n∧n≤60) (x:List Int):∀(k:Nat) (r a:Int),StopIn (callsOf t) r a→(Zt (callsOf t) r a).depart<k→
  (Zt (callsOf t) r a).depart<(Zt (callsOf t) (waitAt t w).train (Zr (Zj (callsOf t) (waitAt t w).train) (waitAt t w).station)).depart→ZU (Zz t w n) x r a=ZU t x r a
 |0,r,a,hs,h,_=>by have:=(QH he).nn r a hs;omega
 |k+1,r,a,hs,h,hlt=>by
  have hf:=QH he
  have hf':=QH (Ju he (w:=w) hn)
  have ecalls:callsOf (Zz t w n)=callsOf t:=rfl
  rw[Y7 hf x hs,Y7 hf' x (by rw[ecalls];exact hs)]
  have hnn:=hf.nn r a hs
  have hc:∀r' a',StopIn (callsOf t) r' a'→0<a'→(Zt (callsOf t) r' a').arrive≤(Zt (callsOf t) r a).depart→Qh (Zz t w n) x (goes (Zz t w n) x) r' a'=Qh t x (goes t x) r' a':=fun r' a' hs1 ha1 hle=>by
   have h1:=hf.asc r' a' hs1 ha1
   unfold Qh goes
   rw[ecalls,Zbk he hw hn x k r' (a'-1) (hs1.prev ha1) (by omega) (by omega)]
   rfl
  have e1:(if 0<a then Qh (Zz t w n) x (goes (Zz t w n) x) r a else 0)=(if 0<a then Qh t x (goes t x) r a else 0):=by
   split
   ·exact hc r a hs (by assumption) hnn.2.1
   ·rfl
  have hconn:=ZeN he hw
  have e2:∀q,Zat (Zz t w n) (Qh (Zz t w n) x (goes (Zz t w n) x)) r a q=Zat t (Qh t x (goes t x)) r a q:=fun q=>by
   unfold Zat
   rw[ecalls]
   split
   ·rfl
   rename_i hl
   have hfold:∀l:List ZM,(∀v∈l,v∈t.waits)→∀b,List.foldl (X1 (callsOf t) (Qh (Zz t w n) x (goes (Zz t w n) x)) r (Zt (callsOf t) r a)) b l=List.foldl (X1 (callsOf t) (Qh t x (goes t x)) r (Zt (callsOf t) r a)) b l:=fun l hl2 b=>Y8 _ _ fun v hv b=>by
    unfold X1
    split
    ·rfl
    rename_i hq
    have hq1:v.train=r:=Decidable.byContradiction fun he=>hq (.inl he)
    have hq2:v.station=(Zt (callsOf t) r a).station:=Decidable.byContradiction fun he=>hq (.inr he)
    have hw2:=hf.w v (hl2 v hv)
    rw[hc _ _ (Yh hf (hl2 v hv)) (by omega) (by subst hq1;exact hw2.2.2.2.2.2 a hs hl hq2.symm)]
   show List.foldl _ q (t.waits.set w.toNat {t.waits.getD w.toNat default with minutes:=n})=_
   rw[Zbc _ _ _ fun b=>?_]
   ·exact hfold _ (fun _ h=>h) _
   unfold X1
   have hno:(waitAt t w).train≠r∨(waitAt t w).station≠(Zt (callsOf t) r a).station:=by
    by_cases h1:(waitAt t w).train=r
    ·refine .inr fun h2=>?_
     have g1:=Zkt (l:=Zj (callsOf t) r) (st:=(waitAt t w).station) (a:=a.toNat) (by have:=hs.2.2.2;have:=hs.2.2.1;omega) h2.symm (by rw[←h1];exact hconn.2.2.2.1)
     rw[h1]at hlt
     have h0:=hs.2.2.1
     have g2:=Zjf hf (r:=r) (a-Zr (Zj (callsOf t) r) (waitAt t w).station).toNat (Zr (Zj (callsOf t) r) (waitAt t w).station) (by rw[←h1];exact hconn.2.2.2.1) (by rw[show Zr (Zj (callsOf t) r) (waitAt t w).station+((a-Zr (Zj (callsOf t) r) (waitAt t w).station).toNat:Int)=a by omega];exact hs)
     rw[show Zr (Zj (callsOf t) r) (waitAt t w).station+((a-Zr (Zj (callsOf t) r) (waitAt t w).station).toNat:Int)=a by omega]at g2
     omega
    ·exact .inl h1
   have hno':(t.waits.getD w.toNat default).train≠r∨(t.waits.getD w.toNat default).station≠(Zt (callsOf t) r a).station:=hno
   simp only[if_pos hno']
  unfold JF ZdC
  rw[e1,ecalls]
  simp only[e2]
theorem ZjM {t:Ze} (he:Zl t=0) {w n:Int} (hw:0≤w∧w<t.waits.length) (hn:0≤n∧n≤60) (x:List Int) {r a:Int} (hs:StopIn (callsOf t) r a) (ha:0<a)
  (hle:(Zt (callsOf t) r a).arrive≤(Zt (callsOf t) (waitAt t w).train (Zr (Zj (callsOf t) (waitAt t w).train) (waitAt t w).station)).depart):(ZU (Zz t w n) x r a).comes=(ZU t x r a).comes:=by
 have hf:=QH he
 have hf':=QH (Ju he (w:=w) hn)
 have h1:=hf.asc r a hs ha
 rw[Y7 hf x hs,Y7 hf' x (show StopIn (callsOf (Zz t w n)) r a from hs)]
 unfold JF ZdC
 simp only[if_pos ha,if_neg (show¬(a=0) by omega)]
 unfold Qh goes
 rw[Zbk he hw hn x ((Zt (callsOf t) r (a-1)).depart.toNat+1) r (a-1) (hs.prev ha) (by omega) (by omega)]
 rfl
theorem Zgx {t:Ze} (he:Zl t=0) {w n:Int} (hw:0≤w∧w<t.waits.length) (hn:0≤n∧n≤60) (hm:(waitAt t w).minutes≤n) (x:List Int):
  (ZU t x (waitAt t w).train (Zr (Zj (callsOf t) (waitAt t w).train) (waitAt t w).station)).goes≤(ZU (Zz t w n) x (waitAt t w).train (Zr (Zj (callsOf t) (waitAt t w).train) (waitAt t w).station)).goes:=by
 have hf:=QH he
 have hf':=QH (Ju he (w:=w) hn)
 have hs:=(ZeN he hw).2
 have hwb:∀r' a',StopIn (callsOf t) r' a'→0<a'→(Zt (callsOf t) r' a').arrive≤(Zt (callsOf t) (waitAt t w).train (Zr (Zj (callsOf t) (waitAt t w).train) (waitAt t w).station)).depart→Qh (Zz t w n) x (goes (Zz t w n) x) r' a'=Qh t x (goes t x) r' a':=fun r' a' hs1 ha1 hle=>by
  have h1:=hf.asc r' a' hs1 ha1
  unfold Qh goes
  rw[Zbk he hw hn x ((Zt (callsOf t) r' (a'-1)).depart.toNat+1) r' (a'-1) (hs1.prev ha1) (by omega) (by omega)]
  rfl
 rw[Y7 hf x hs,Y7 hf' x (show StopIn (callsOf (Zz t w n)) _ _ from hs)]
 generalize hr:(waitAt t w).train=r at*
 generalize ha:Zr (Zj (callsOf t) r) (waitAt t w).station=a at*
 have hnn:=hf.nn r a hs
 have ecalls:callsOf (Zz t w n)=callsOf t:=rfl
 unfold JF ZdC
 have e1:(if 0<a then Qh (Zz t w n) x (goes (Zz t w n) x) r a else 0)=(if 0<a then Qh t x (goes t x) r a else 0):=by
  split
  ·exact hwb r a hs (by assumption) hnn.2.1
  ·rfl
 rw[e1,ecalls]
 show Zat t _ r a _≤Zat (Zz t w n) _ r a _
 generalize Zfd (callsOf t) r a (if 0<a then Qh t x (goes t x) r a else 0)=q
 unfold Zat
 rw[ecalls]
 split
 ·exact Int.le_refl _
 rename_i hl
 have hfold:List.foldl (X1 (callsOf t) (Qh (Zz t w n) x (goes (Zz t w n) x)) r (Zt (callsOf t) r a)) q t.waits=List.foldl (X1 (callsOf t) (Qh t x (goes t x)) r (Zt (callsOf t) r a)) q t.waits:=Y8 _ _ fun v hv b=>by
  unfold X1
  split
  ·rfl
  rename_i hq
  have hq1:v.train=r:=Decidable.byContradiction fun he=>hq (.inl he)
  have hq2:v.station=(Zt (callsOf t) r a).station:=Decidable.byContradiction fun he=>hq (.inr he)
  have hw2:=hf.w v hv
  rw[hwb _ _ (Yh hf hv) (by omega) (by have:=hw2.2.2.2.2.2 a (by rw[hq1];exact hs) (by rw[hq1];exact hl) (by rw[hq1];exact hq2.symm);rw[hq1]at this;exact this)]
 rw[←hfold]
 show _≤List.foldl _ q (t.waits.set w.toNat {t.waits.getD w.toNat default with minutes:=n})
 refine Zc4 (fun a b x h=>ZjN a b x h) _ _ _ fun b=>?_
 have hm':(t.waits.getD w.toNat default).minutes≤n:=hm
 unfold X1
 show(if(t.waits.getD w.toNat default).train≠r∨(t.waits.getD w.toNat default).station≠_ then b else if _≤_+(t.waits.getD w.toNat default).minutes then _ else b)≤(if(t.waits.getD w.toNat default).train≠r∨(t.waits.getD w.toNat default).station≠_ then b else if Qh _ x _ (t.waits.getD w.toNat default).feeder (ZA (Zj (callsOf t) (t.waits.getD w.toNat default).feeder) (t.waits.getD w.toNat default).station)≤_+n then max b (Qh _ x _ (t.waits.getD w.toNat default).feeder (ZA (Zj (callsOf t) (t.waits.getD w.toNat default).feeder) (t.waits.getD w.toNat default).station))else b)
 split
 ·exact Int.le_refl _
 split<;>split<;>omega
theorem ZfP {p:Nat→Bool}:∀n,Q4 p n=0↔∀i,i<n→p i=false
 |0=>⟨fun _ i h=>by omega,fun _=>rfl⟩
 |n+1=>by
  have ih:=ZfP (p:=p) n
  have hpos:∀n,0≤Q4 p n:=fun n=>by
   induction n with
   |zero=>exact Int.le_refl _
   |succ n ih=>unfold Q4;split<;>omega
  unfold Q4
  constructor
  ·intro h i hi
   split at h
   ·have:=hpos n;omega
   ·rename_i hp
    by_cases e:i=n
    ·subst e;simpa using hp
    ·exact ih.1 h i (by omega)
  ·intro h
   rw[if_neg (by rw[h n (by omega)];exact Bool.false_ne_true)]
   exact ih.2 fun i hi=>h i (by omega)
theorem ZjR {t:Ze} {f r st:Int}:Jl t f r st=1↔∀i,i<Z7 t→Yr t f r st i=true:=by
 unfold Jl ZcJ
 have h:=ZfP (p:=fun i=> !Yr t f r st i) (Z7 t)
 constructor
 ·intro h1
  split at h1
  ·rename_i h2
   intro i hi
   have:=h.1 h2 i hi
   simpa using this
  ·split at h1<;>omega
 ·intro h1
  rw[if_pos (h.2 fun i hi=>by rw[h1 i hi];rfl)]
theorem Zil {t:Ze} (he:Zl t=0) {w n:Int} (hw:0≤w∧w<t.waits.length) (hn:0≤n∧n≤60) (hm:(waitAt t w).minutes≤n) {f:Int} (hs:StopIn (callsOf t) f (ZA (Zj (callsOf t) f) (waitAt t w).station))
  (hle:(Zt (callsOf t) f (ZA (Zj (callsOf t) f) (waitAt t w).station)).arrive≤(Zt (callsOf t) (waitAt t w).train (Zr (Zj (callsOf t) (waitAt t w).train) (waitAt t w).station)).depart)
  (hk:Jl t f (waitAt t w).train (waitAt t w).station=1):Jl (Zz t w n) f (waitAt t w).train (waitAt t w).station=1:=by
 rw[ZjR]at hk⊢
 intro i hi
 have h1:=hk i hi
 unfold Yr at h1⊢
 rw[decide_eq_true_eq]at h1⊢
 have hst:=XF (Zj (callsOf t) f) 1 (waitAt t w).station
 have hc1:0<ZA (Zj (callsOf t) f) (waitAt t w).station:=by
  have:=hs.2.2.1
  unfold ZA at*
  omega
 have h2:=ZjM he hw hn (Zm t i) hs hc1 hle
 have h3:=Zgx he hw hn hm (Zm t i)
 show(ZU (Zz t w n) (Zm t i) f (ZA (Zj (callsOf t) f) (waitAt t w).station)).comes≤(ZU (Zz t w n) (Zm t i) (waitAt t w).train (Zr (Zj (callsOf t) (waitAt t w).train) (waitAt t w).station)).goes
 omega
end Go.Proofs.YtjgpiclllehgmaaGreat.Sp
namespace Go.Proofs.YtjgpiclllehgmaaGreat.Vm
open Sp
def Qw (b:XE) (j:Nat):Sp.Qi:=⟨(b.old.getD j default).number,0⟩
structure RL (b:XE) (i:Nat) (runs:List Sp.Qi) (rows:List (List Sp.Call)):Prop where
 len:rows.length=runs.length
 le:runs.length≤i
 row:∀k,k<runs.length→∃j,j<i∧j<b.old.length∧runs.getD k default=Qw b j∧QS b (Qw b j)=(rows.getD k [],true)
 pw:runs.Pairwise fun a c=>a≠c
 some:∀j,j<i→(QS b (Qw b j)).2=true→0<runs.length
theorem RL.nil {b:XE}:RL b 0 [] []:=⟨rfl,Nat.le_refl _,fun k h=>by simp at h,.nil,fun j h=>by omega⟩
theorem RL.skip {b:XE} {i:Nat} {runs:List Sp.Qi} {rows:List (List Sp.Call)} (h:RL b i runs rows) (hc:(QS b (Qw b i)).2=false):RL b (i+1) runs rows:=
 ⟨h.len,by have:=h.le;omega,fun k hk=>by
  obtain⟨j,h1,h2⟩:=h.row k hk
  exact⟨j,by omega,h2⟩,h.pw,fun j hj hs=>by
  by_cases e:j=i
  ·subst e;rw[hc]at hs;cases hs
  ·exact h.some j (by omega) hs⟩
theorem ZdE {α:Type} {d:α} {l:List α} {a:α} {k:Nat} (h:k<l.length):(l++[a]).getD k d=l.getD k d:=by rw[List.getD_eq_getElem?_getD,List.getElem?_append_left h,←List.getD_eq_getElem?_getD]
theorem ZdF {α:Type} {d:α} {l:List α} {a:α}:(l++[a]).getD l.length d=a:=by simp[List.getD_eq_getElem?_getD]
theorem RL.snoc {b:XE} {n:Int} {i:Nat} {runs:List Sp.Qi} {rows:List (List Sp.Call)} {C:List Sp.Call} (hd:DL n b.old) (h:RL b i runs rows) (hi:i<b.old.length) (hc:QS b (Qw b i)=(C,true)):RL b (i+1) (runs++[Qw b i]) (rows++[C]):=by
 have hl:=h.len
 refine⟨by simp[hl],by have:=h.le;simp;omega,fun k hk=>?_,?_,fun j hj hs=>by simp⟩
 ·simp only[List.length_append,List.length_cons,List.length_nil]at hk
  by_cases hk2:k<runs.length
  ·obtain⟨j,h1,h2,h3,h4⟩:=h.row k hk2
   exact⟨j,by omega,h2,by rw[ZdE hk2];exact h3,by rw[ZdE (by omega)];exact h4⟩
  ·have hk3:k=runs.length:=by omega
   subst hk3
   refine⟨i,by omega,hi,ZdF,?_⟩
   rw[←hl,ZdF]
   exact hc
 ·refine List.pairwise_append.2 ⟨h.pw,List.pairwise_singleton _ _,fun c hc e he=>?_⟩
  simp only[List.mem_singleton]at he
  subst he
  obtain⟨k,hk,rfl⟩:=List.mem_iff_getElem.1 hc
  obtain⟨j,h1,h2,h3,_⟩:=h.row k hk
  rw[List.getD_eq_getElem?_getD,List.getElem?_eq_getElem hk]at h3
  have h3:runs[k]=Qw b j:=h3
  rw[h3]
  intro e
  have e:=congrArg Sp.Qi.number e
  have e:(b.old.getD j default).number=(b.old.getD i default).number:=e
  rw[Zen hd h2,Zen hd hi]at e
  omega
structure RJ (b:XE) (runs:List Sp.Qi) (rows:List (List Sp.Call)):Prop where
 len:rows.length=runs.length
 pos:1≤runs.length∧runs.length≤4
 check:XW b=0
 row:∀r∈rows,ZjE r
 calls:∀w d,callsOf ⟨b,runs,w,d⟩=rows
 err:∀w d,Q6 ⟨b,runs,w,d⟩=0
 from_:∀k,k<runs.length→∃j,j<b.old.length∧runs.getD k default=Qw b j
theorem ZdO {b:XE} {d:Sp.Qi} {C:List Sp.Call} (h:QS b d=(C,true)):Xn (JX b d.number d.day).1=0∧(JX b d.number d.day).1=C∧(JX b d.number d.day).2=0:=by
 unfold QS at h
 split at h
 ·cases h
 ·rename_i h0
  simp only[Prod.mk.injEq,decide_eq_true_eq]at h
  exact⟨by omega,h⟩
theorem RL.ok {z:Zone} {n:Int} {i:Nat} {old:List Train} {runs:List Sp.Qi} {rows:List (List Sp.Call)} (hz:Zx z=0) (hd:DL n old) (hn:n=old.length) (hl:old.length≤4) (h:RL (Zs z old) i runs rows) (hi:i≤4) (hp:0<runs.length):RJ (Zs z old) runs rows:=by
 have hc:=Zh0 hz hd hn hl
 have hle:=h.le
 refine⟨h.len,by omega,hc,fun r hr=>?_,fun w d=>?_,fun w d=>?_,fun k hk=>by
  obtain⟨j,h1,h2,h3,h4⟩:=h.row k hk
  exact⟨j,h2,h3⟩⟩
 ·obtain⟨k,hk,rfl⟩:=List.mem_iff_getElem.1 hr
  obtain⟨j,h1,h2,h3,h4⟩:=h.row k (by rw[←h.len];exact hk)
  obtain⟨g1,g2,g3⟩:=ZdO h4
  rw[List.getD_eq_getElem?_getD,List.getElem?_eq_getElem hk]at g2
  have g2:(JX (Zs z old) (Qw (Zs z old) j).number (Qw (Zs z old) j).day).1=rows[k]:=g2
  rw[←g2]
  have e:=Zlb hc hd (j:=j) h2
  have e:JX (Zs z old) (Qw (Zs z old) j).number (Qw (Zs z old) j).day=_:=e
  rw[e]at g1⊢
  obtain⟨st,_,_,ht⟩:=hd.all j h2
  exact Zou ht g1
 ·refine List.ext_getElem (by show(List.map _ runs).length=_;rw[List.length_map,h.len]) fun k h1 h2=>?_
  have hk:k<runs.length:=by rw[←h.len];exact h2
  have e0:∀(f:Sp.Qi→List Sp.Call) (h1:k<(runs.map f).length),(runs.map f)[k]'h1=f runs[k]:=fun f h1=>List.getElem_map _
  refine(e0 _ h1).trans ?_
  obtain⟨j,g1,g2,g3,g4⟩:=h.row k hk
  rw[List.getD_eq_getElem?_getD,List.getElem?_eq_getElem hk]at g3
  have g3:runs[k]=Qw (Zs z old) j:=g3
  rw[List.getD_eq_getElem?_getD,List.getElem?_eq_getElem h2]at g4
  have g5:=(ZdO g4).2.1
  rw[g3]
  exact g5
 ·unfold Q6
  show(if runs.length=0 then(7:Int)else if 4<runs.length then 6 else _)=0
  rw[if_neg (by omega),if_neg (by omega)]
  refine ZaY fun k _ hk=>?_
  have hk:k<runs.length:=by have hk:k<0+runs.length:=hk;omega
  obtain⟨j,g1,g2,g3,g4⟩:=h.row k hk
  obtain⟨e1,e2,e3⟩:=ZdO g4
  rw[←g3]at e1 e2 e3
  unfold ZaJ
  show(if(JX (Zs z old) (runs.getD k default).number (runs.getD k default).day).2≠0 then _ else if Xn (JX (Zs z old) (runs.getD k default).number (runs.getD k default).day).1≠0 then(5:Int)else if(runs.take k).any (fun x=>decide (x=runs.getD k default))then 4 else 0)=0
  rw[if_neg (fun hne=>hne e3),if_neg (fun hne=>hne e1),if_neg]
  rw[Bool.not_eq_true,List.any_eq_false]
  intro x hx
  obtain⟨q,hq,rfl⟩:=List.mem_iff_getElem.1 hx
  have hq':q<k:=by simp at hq;omega
  have:=ZoE (d:=default) h.pw hq' hk
  rw[List.getD_eq_getElem?_getD,List.getElem?_eq_getElem (show q<runs.length by omega)]at this
  rw[List.getElem_take]
  simpa using this
structure Zay (t:Ze):Prop where
 begin:Zl t=0
 row:∀r∈callsOf t,ZjE r
 book:∃z old n,t.book=Zs z old∧Zx z=0∧DL n old
 from_:∀k,k<t.runs.length→∃j,j<t.book.old.length∧t.runs.getD k default=Qw t.book j
theorem RL.one {n:Int} {old:List Train} (hc:XW (Zs ⟨0,[]⟩ old)=0) (hd:DL n old) (hl:0<old.length):QS (Zs ⟨0,[]⟩ old) (Qw (Zs ⟨0,[]⟩ old) 0)=((QS (Zs ⟨0,[]⟩ old) (Qw (Zs ⟨0,[]⟩ old) 0)).1,true):=by
 have e:JX (Zs ⟨0,[]⟩ old) (Qw (Zs ⟨0,[]⟩ old) 0).number (Qw (Zs ⟨0,[]⟩ old) 0).day=_:=Zlb hc hd (j:=0) hl
 obtain⟨st,_,_,ht⟩:=hd.all 0 hl
 have h0:=Zj2 ht
 unfold QS
 rw[e]
 rw[if_neg (fun hne=>hne h0)]
 rfl
end Go.Proofs.YtjgpiclllehgmaaGreat.Vm
