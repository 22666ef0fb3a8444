/- When runs come and go in a truth, in plain Lean. -/
import Derived.Test.YtjgpiclllehgmaaGreatB1
import Derived.Test.YtjgpiclllehgmaaGreatB0
set_option linter.all false
namespace Go.Proofs.YtjgpiclllehgmaaGreat.Sp
open Vm
structure Zjk where
 comes:Int
 ready:Int
 goes:Int
deriving DecidableEq,Inhabited
def Zo (c:List (List Call)) (r:Int):List Call:=c.getD r.toNat []
def Zy (c:List (List Call)) (r a:Int):Call:=(Zo c r).getD a.toNat default
def ZhU (x:List Int) (run leg:Int):Nat→List Qn→Int
 |_,[]=>0
 |i,d::r=>if d.run=run∧d.leg=leg then d.by_.getD (x.getD i 0).toNat 0 else ZhU x run leg (i+1) r
def Zi4 (t:Ze) (x:List Int) (run leg:Int):Int:=ZhU x run leg 0 t.delays
def XI (t:Ze) (x:List Int) (g:Int→Int→Int) (r a:Int):Int:=
 g r (a-1)+(Zy (callsOf t) r a).arrive-(Zy (callsOf t) r (a-1)).depart+Zi4 t x r (a-1)
def Zcb (c:List (List Call)) (cm:Int→Int→Int) (r:Int) (call:Call) (g:Int) (w:Xo):Int:=
 if w.train≠r∨w.station≠call.station then g
 else if cm w.feeder (Qc (Zo c w.feeder) w.station)≤call.depart+w.minutes then max g (cm w.feeder (Qc (Zo c w.feeder) w.station))else g
def Ze4 (c:List (List Call)) (r a comes:Int):Int:=
 if a=((Zo c r).length:Int)-1 then comes else max (Zy c r a).depart comes
def Zea (t:Ze) (cm:Int→Int→Int) (r a ready:Int):Int:=
 if a=((Zo (callsOf t) r).length:Int)-1 then ready else t.waits.foldl (Zcb (callsOf t) cm r (Zy (callsOf t) r a)) ready
def ZhF (t:Ze) (cm:Int→Int→Int) (r a comes:Int):Zjk:=
 let ready:=Ze4 (callsOf t) r a comes
 let goes:=Zea t cm r a ready
 ⟨if a=0 then goes else comes,ready,goes⟩
def ZaO (t:Ze) (x:List Int) (g:Int→Int→Int) (r a:Int):Zjk:=
 ZhF t (XI t x g) r a (if 0<a then XI t x g r a else 0)
def Zdr (t:Ze) (x:List Int):Nat→Int→Int→Zjk
 |0=>fun _ _=>default
 |n+1=>fun r a=>ZaO t x (fun r a=>(Zdr t x n r a).goes) r a
def ZU (t:Ze) (x:List Int) (r a:Int):Zjk:=Zdr t x ((Zy (callsOf t) r a).depart.toNat+1) r a
def goes (t:Ze) (x:List Int) (r a:Int):Int:=(ZU t x r a).goes
def comes (t:Ze) (x:List Int) (r a:Int):Int:=XI t x (goes t x) r a
def StopIn (c:List (List Call)) (r a:Int):Prop:=0≤r∧r<c.length∧0≤a∧a<(Zo c r).length
structure ZA (t:Ze):Prop where
 calls:Zas (callsOf t)
 nn:∀r a,StopIn (callsOf t) r a→0≤(Zy (callsOf t) r a).arrive∧(Zy (callsOf t) r a).arrive≤(Zy (callsOf t) r a).depart∧(Zy (callsOf t) r a).depart≤1099511627776
 asc:∀r a,StopIn (callsOf t) r a→0<a→(Zy (callsOf t) r (a-1)).depart<(Zy (callsOf t) r a).arrive
 wlen:t.waits.length≤4
 dlen:t.delays.length≤6
 w:∀w∈t.waits,0≤w.feeder∧w.feeder<(callsOf t).length∧1≤Qc (Zo (callsOf t) w.feeder) w.station∧0≤w.minutes∧w.minutes≤60
  ∧∀a,StopIn (callsOf t) w.train a→a≠((Zo (callsOf t) w.train).length:Int)-1→(Zy (callsOf t) w.train a).station=w.station→
   (Zy (callsOf t) w.feeder (Qc (Zo (callsOf t) w.feeder) w.station)).arrive≤(Zy (callsOf t) w.train a).depart
 d:∀d∈t.delays,1≤d.by_.length∧d.by_.length≤3∧∀n∈d.by_,0≤n∧n≤240
structure Y4 (t:Ze) (x:List Int):Prop where
 len:x.length=6
 d:∀i,i<t.delays.length→0≤x.getD i 0∧x.getD i 0<(t.delays.getD i default).by_.length
theorem JA {t:Ze} (hf:ZA t) {w:Xo} (hw:w∈t.waits):StopIn (callsOf t) w.feeder (Qc (Zo (callsOf t) w.feeder) w.station):=by
 have h:=hf.w w hw
 have:=Je (Zo (callsOf t) w.feeder) 1 w.station
 exact⟨h.1,h.2.1,by unfold Qc at*;omega,by unfold Qc;omega⟩
theorem StopIn.prev {c:List (List Call)} {r a:Int} (h:StopIn c r a) (ha:0<a):StopIn c r (a-1):=⟨h.1,h.2.1,by have:=h.2.2.2;omega,by have:=h.2.2.2;omega⟩
theorem Zk6 {x:List Int} {run leg:Int}:∀(l:List Qn) (i:Nat),(∀d∈l,∀n∈d.by_,0≤n∧n≤240)→0≤ZhU x run leg i l∧ZhU x run leg i l≤240
 |[],i,_=>by unfold ZhU;omega
 |d::r,i,h=>by
  unfold ZhU
  split
  ·rw[List.getD_eq_getElem?_getD]
   cases hq:d.by_[(x.getD i 0).toNat]? with
   |none=>simp
   |some n=>exact h d (List.mem_cons_self ..) n (List.mem_of_getElem? hq)
  ·exact Zk6 r (i+1) fun d hd=>h d (List.mem_cons_of_mem _ hd)
theorem ZeD {t:Ze} (hf:ZA t) (x:List Int) (run leg:Int):0≤Zi4 t x run leg∧Zi4 t x run leg≤240:=Zk6 _ _ fun d hd=>(hf.d d hd).2.2
theorem Zbu {α β:Type} {f g:α→β→α}:∀(l:List β) (a:α),(∀b∈l,∀a,f a b=g a b)→l.foldl f a=l.foldl g a
 |[],_,_=>rfl
 |b::r,a,h=>by
  rw[List.foldl_cons,List.foldl_cons,h b (List.mem_cons_self ..) a]
  exact Zbu r _ fun b hb=>h b (List.mem_cons_of_mem _ hb)
theorem ZcT {t:Ze} (hf:ZA t) (x:List Int) {g g':Int→Int→Int} {r a:Int} (hs:StopIn (callsOf t) r a)
  (h:∀r' a',StopIn (callsOf t) r' a'→(Zy (callsOf t) r' a').depart<(Zy (callsOf t) r a).depart→g r' a'=g' r' a'):ZaO t x g r a=ZaO t x g' r a:=by
 have hc:∀r' a',StopIn (callsOf t) r' a'→0<a'→(Zy (callsOf t) r' a').arrive≤(Zy (callsOf t) r a).depart→XI t x g r' a'=XI t x g' r' a':=fun r' a' hs' ha' hle=>by
  unfold XI
  rw[h r' (a'-1) (hs'.prev ha') (by have:=hf.asc r' a' hs' ha';omega)]
 have h1:(if 0<a then XI t x g r a else 0)=(if 0<a then XI t x g' r a else 0):=by
  split
  ·exact hc r a hs (by assumption) (hf.nn r a hs).2.1
  ·rfl
 have h2:∀q,Zea t (XI t x g) r a q=Zea t (XI t x g') r a q:=fun q=>by
  unfold Zea
  split
  ·rfl
  rename_i hl
  refine Zbu _ _ fun w hw b=>?_
  unfold Zcb
  split
  ·rfl
  rename_i hq
  have hw2:=hf.w w hw
  have hq1:w.train=r:=by
   by_cases he:w.train=r
   ·exact he
   ·exact absurd (.inl he) hq
  have hq2:w.station=(Zy (callsOf t) r a).station:=by
   by_cases he:w.station=(Zy (callsOf t) r a).station
   ·exact he
   ·exact absurd (.inr he) hq
  rw[hc _ _ (JA hf hw) (by omega) (by subst hq1;exact hw2.2.2.2.2.2 a hs hl hq2.symm)]
 unfold ZaO ZhF
 rw[h1]
 simp only[h2]
theorem Zd8 {t:Ze} (hf:ZA t) (x:List Int):∀(n m:Nat) (r a:Int),StopIn (callsOf t) r a→(Zy (callsOf t) r a).depart<n→(Zy (callsOf t) r a).depart<m→Zdr t x n r a=Zdr t x m r a
 |0,_,r,a,hs,h,_=>by have:=hf.nn r a hs;omega
 |_+1,0,r,a,hs,_,h=>by have:=hf.nn r a hs;omega
 |n+1,m+1,r,a,hs,h1,h2=>ZcT hf x hs fun r' a' hs' hlt=>by
  show(Zdr t x n r' a').goes=(Zdr t x m r' a').goes
  rw[Zd8 hf x n m r' a' hs' (by omega) (by omega)]
theorem Zfw {t:Ze} (hf:ZA t) (x:List Int) {r a:Int} (hs:StopIn (callsOf t) r a):ZU t x r a=ZaO t x (goes t x) r a:=by
 show ZaO t x _ r a=_
 refine ZcT hf x hs fun r' a' hs' hlt=>?_
 have:=hf.nn r' a' hs'
 have:=hf.nn r a hs
 unfold goes ZU
 rw[Zd8 hf x _ ((Zy (callsOf t) r' a').depart.toNat+1) r' a' hs' (by omega) (by omega)]
theorem Zcz {t:Ze} (hf:ZA t) {cm:Int→Int→Int} {r:Int} {call:Call} {M:Int} (hM:call.depart+60≤M):∀(l:List Xo) (g:Int),(∀w∈l,w∈t.waits)→g≤M→g≤l.foldl (Zcb (callsOf t) cm r call) g∧l.foldl (Zcb (callsOf t) cm r call) g≤M
 |[],g,_,h=>⟨Int.le_refl _,h⟩
 |w::l,g,hl,h=>by
  rw[List.foldl_cons]
  have hw:=hf.w w (hl w (List.mem_cons_self ..))
  have h1:g≤Zcb (callsOf t) cm r call g w∧Zcb (callsOf t) cm r call g w≤M:=by
   unfold Zcb
   split
   ·omega
   split<;>omega
  have h2:=Zcz hf (cm:=cm) (r:=r) hM l (Zcb (callsOf t) cm r call g w) (fun w hw=>hl w (List.mem_cons_of_mem _ hw)) h1.2
  omega
theorem ZkY {t:Ze} (hf:ZA t) (x:List Int) {r a:Int} (hs:StopIn (callsOf t) r a):goes t x r a=(ZaO t x (goes t x) r a).goes:=by
 show(ZU t x r a).goes=_
 rw[Zfw hf x hs]
theorem Zfx {t:Ze} (hf:ZA t) (x:List Int):∀(n:Nat) (r a:Int),StopIn (callsOf t) r a→(Zy (callsOf t) r a).depart<n→
  (Zy (callsOf t) r a).arrive≤goes t x r a∧goes t x r a≤(Zy (callsOf t) r a).depart+60+240*a∧(a≠((Zo (callsOf t) r).length:Int)-1→(Zy (callsOf t) r a).depart≤goes t x r a)
 |0,r,a,hs,h=>by have:=hf.nn r a hs;omega
 |n+1,r,a,hs,h=>by
  have hn:=hf.nn r a hs
  have hcm:0<a→(Zy (callsOf t) r a).arrive≤XI t x (goes t x) r a∧XI t x (goes t x) r a≤(Zy (callsOf t) r a).arrive+60+240*a:=fun ha=>by
   have h1:=hf.asc r a hs ha
   have h2:=Zfx hf x n r (a-1) (hs.prev ha) (by omega)
   have h3:=h2.2.2 (by have:=hs.2.2.2;omega)
   have h4:=ZeD hf x r (a-1)
   show _≤goes t x r (a-1)+_-_+_∧goes t x r (a-1)+_-_+_≤_
   omega
  rw[ZkY hf x hs]
  generalize hG:goes t x=G at*
  unfold ZaO ZhF Ze4 Zea
  have ha:=hs.2.2.1
  by_cases hl:a=((Zo (callsOf t) r).length:Int)-1
  ·have h2:0<a:=by
    have hr:=hf.calls.row (Zo (callsOf t) r) (by
     unfold Zo
     have:r.toNat<(callsOf t).length:=by have:=hs.2.1;have:=hs.1;omega
     rw[List.getD_eq_getElem?_getD,List.getElem?_eq_getElem this]
     exact List.getElem_mem _)
    omega
   simp only[if_pos hl,if_pos h2]
   have:=hcm h2
   omega
  ·simp only[if_neg hl]
   by_cases h0:0<a
   ·simp only[if_pos h0]
    have:=hcm h0
    have hw:=Zcz hf (cm:=XI t x G) (r:=r) (call:=Zy (callsOf t) r a) (M:=(Zy (callsOf t) r a).depart+60+240*a) (by omega) t.waits (max (Zy (callsOf t) r a).depart (XI t x G r a)) (fun w hw=>hw) (by omega)
    omega
   ·simp only[if_neg h0]
    have hw:=Zcz hf (cm:=XI t x G) (r:=r) (call:=Zy (callsOf t) r a) (M:=(Zy (callsOf t) r a).depart+60+240*a) (by omega) t.waits (max (Zy (callsOf t) r a).depart 0) (fun w hw=>hw) (by omega)
    omega
theorem ZhH {t:Ze} (hf:ZA t) (x:List Int) {r a:Int} (hs:StopIn (callsOf t) r a):0≤goes t x r a∧goes t x r a≤1099511640000∧(a≠((Zo (callsOf t) r).length:Int)-1→(Zy (callsOf t) r a).depart≤goes t x r a):=by
 have h:=Zfx hf x ((Zy (callsOf t) r a).depart.toNat+1) r a hs (by have:=hf.nn r a hs;omega)
 have hn:=hf.nn r a hs
 have hr:=hf.calls.row (Zo (callsOf t) r) (by
  unfold Zo
  have:r.toNat<(callsOf t).length:=by have:=hs.2.1;have:=hs.1;omega
  rw[List.getD_eq_getElem?_getD,List.getElem?_eq_getElem this]
  exact List.getElem_mem _)
 have:=hs.2.2.2
 exact⟨by omega,by omega,h.2.2⟩
theorem ZoI {t:Ze} (hf:ZA t) (x:List Int) {r a:Int} (hs:StopIn (callsOf t) r a) (ha:0<a):(Zy (callsOf t) r a).arrive≤comes t x r a∧comes t x r a≤1099511650000:=by
 have h1:=hf.asc r a hs ha
 have h2:=ZhH hf x (hs.prev ha)
 have h3:=h2.2.2 (by have:=hs.2.2.2;omega)
 have h4:=ZeD hf x r (a-1)
 have h5:=hf.nn r a hs
 have h6:=hf.nn r (a-1) (hs.prev ha)
 have h7:=(Zfx hf x ((Zy (callsOf t) r (a-1)).depart.toNat+1) r (a-1) (hs.prev ha) (by omega)).2.1
 have h8:=hf.calls.row (Zo (callsOf t) r) (by
  unfold Zo
  have:r.toNat<(callsOf t).length:=by have:=hs.2.1;have:=hs.1;omega
  rw[List.getD_eq_getElem?_getD,List.getElem?_eq_getElem this]
  exact List.getElem_mem _)
 have h9:=hs.2.2.2
 show _≤goes t x r (a-1)+_-_+_∧goes t x r (a-1)+_-_+_≤_
 omega
def lenAt (ds:List Qn) (m:Nat):Nat:=(ds.getD m default).by_.length
def stepT (ds:List Qn):Nat→List Int→Option (List Int)
 |0,_=>none
 |m+1,x=>if x.getD m 0=(lenAt ds m:Int)-1 then stepT ds m (x.set m 0)else some (x.set m (x.getD m 0+1))
def ZkA:List Int:=[0,0,0,0,0,0]
def Yb (ds:List Qn):Nat→Nat→List Int
 |0,_=>ZkA
 |m+1,n=>(Yb ds m (n/lenAt ds m)).set m ((n%lenAt ds m:Nat):Int)
def X8 (ds:List Qn):Nat→Nat
 |0=>1
 |m+1=>X8 ds m*lenAt ds m
def ZO (t:Ze):Nat:=X8 t.delays t.delays.length
def Zj (t:Ze) (n:Nat):List Int:=Yb t.delays t.delays.length n
theorem XX {ds:List Qn}:∀(m n:Nat),(Yb ds m n).length=6
 |0,_=>rfl
 |m+1,n=>by unfold Yb;rw[List.length_set];exact XX m _
theorem Zam {ds:List Qn}:∀(m n k:Nat),m≤k→(Yb ds m n).getD k 0=0
 |0,_,k,_=>by
  unfold Yb ZkA
  match k with
  |0|1|2|3|4|5=>rfl
  |k+6=>rfl
 |m+1,n,k,h=>by
  unfold Yb
  rw[List.getD_eq_getElem?_getD,List.getElem?_set_ne (by omega),←List.getD_eq_getElem?_getD]
  exact Zam m _ k (by omega)
theorem ZhM {ds:List Qn} (m n:Nat) (hm:m<6):(Yb ds m n).set m 0=Yb ds m n:=by
 refine List.ext_getElem? fun i=>?_
 by_cases h:m=i
 ·subst h
  rw[List.getElem?_set_self (by rw[XX];exact hm)]
  have h0:=Zam (ds:=ds) m n m (Nat.le_refl _)
  rw[List.getD_eq_getElem?_getD,List.getElem?_eq_getElem (by rw[XX];exact hm)]at h0
  rw[List.getElem?_eq_getElem (by rw[XX];exact hm)]
  exact congrArg some h0.symm
 ·rw[List.getElem?_set_ne h]
theorem ZiX {ds:List Qn} (hd:∀m,m<ds.length→1≤lenAt ds m) (h6:ds.length≤6):∀(m n:Nat),m≤ds.length→n<X8 ds m→stepT ds m (Yb ds m n)=if n+1<X8 ds m then some (Yb ds m (n+1))else none
 |0,n,_,h=>by
  unfold X8 at*
  rw[if_neg (by omega)]
  rfl
 |m+1,n,hm,h=>by
  have hl:=hd m (by omega)
  unfold X8 at h⊢
  have hq:n/lenAt ds m<X8 ds m:=Nat.div_lt_of_lt_mul (by rw[Nat.mul_comm];exact h)
  have ih:=ZiX hd h6 m (n/lenAt ds m) (by omega) hq
  have hx:(Yb ds (m+1) n).getD m 0=((n%lenAt ds m:Nat):Int):=by
   show((Yb ds m (n/lenAt ds m)).set m _).getD m 0=_
   rw[List.getD_eq_getElem?_getD,List.getElem?_set_self (by rw[XX];omega)]
   rfl
  have hdm:=Nat.div_add_mod n (lenAt ds m)
  have hml:=Nat.mod_lt n (show lenAt ds m>0 by omega)
  unfold stepT
  rw[hx]
  by_cases he:n%lenAt ds m+1=lenAt ds m
  ·rw[if_pos (by omega)]
   have e0:(Yb ds (m+1) n).set m 0=Yb ds m (n/lenAt ds m):=by
    show((Yb ds m (n/lenAt ds m)).set m _).set m 0=_
    rw[List.set_set,ZhM m _ (by omega)]
   have e1:n+1=lenAt ds m*(n/lenAt ds m+1):=by rw[Nat.mul_add];omega
   rw[e0,ih]
   by_cases hlt:n/lenAt ds m+1<X8 ds m
   ·have h2:n+1<X8 ds m*lenAt ds m:=by rw[e1,Nat.mul_comm (lenAt ds m)];exact Nat.mul_lt_mul_of_pos_right hlt (by omega)
    rw[if_pos hlt,if_pos h2]
    congr 1
    show _=(Yb ds m ((n+1)/lenAt ds m)).set m (((n+1)%lenAt ds m:Nat):Int)
    rw[e1,Nat.mul_div_cancel_left _ (by omega),Nat.mul_mod_right]
    exact(ZhM m _ (by omega)).symm
   ·rw[if_neg hlt,if_neg]
    rw[e1,Nat.mul_comm (lenAt ds m)]
    have:=Nat.mul_le_mul_right (lenAt ds m) (show X8 ds m≤n/lenAt ds m+1 by omega)
    omega
  ·rw[if_neg (by omega)]
   have hlt:n%lenAt ds m+1<lenAt ds m:=by omega
   have e1:n+1=lenAt ds m*(n/lenAt ds m)+(n%lenAt ds m+1):=by omega
   have hdv:(n+1)/lenAt ds m=n/lenAt ds m:=by
    rw[e1,Nat.mul_add_div (by omega),Nat.div_eq_of_lt hlt]
    omega
   have hmd:(n+1)%lenAt ds m=n%lenAt ds m+1:=by
    rw[e1,Nat.mul_add_mod,Nat.mod_eq_of_lt hlt]
   have h2:n+1<X8 ds m*lenAt ds m:=by
    have h3:=Nat.mul_le_mul_right (lenAt ds m) (show n/lenAt ds m+1≤X8 ds m by omega)
    rw[Nat.add_mul,Nat.one_mul,Nat.mul_comm (n/lenAt ds m)]at h3
    omega
   rw[if_pos h2]
   congr 1
   show((Yb ds m (n/lenAt ds m)).set m _).set m _=(Yb ds m ((n+1)/lenAt ds m)).set m (((n+1)%lenAt ds m:Nat):Int)
   rw[List.set_set,hdv,hmd]
   rfl
theorem ZoC {ds:List Qn} (hd:∀m,m<ds.length→1≤lenAt ds m) (h6:ds.length≤6):∀(m n:Nat),m≤ds.length→∀k,k<m→0≤(Yb ds m n).getD k 0∧(Yb ds m n).getD k 0<lenAt ds k
 |0,_,_,k,h=>by omega
 |m+1,n,hm,k,h=>by
  by_cases he:m=k
  ·subst he
   have hl:=hd m (by omega)
   have:(Yb ds (m+1) n).getD m 0=((n%lenAt ds m:Nat):Int):=by
    show((Yb ds m (n/lenAt ds m)).set m _).getD m 0=_
    rw[List.getD_eq_getElem?_getD,List.getElem?_set_self (by rw[XX];omega)]
    rfl
   rw[this]
   have:=Nat.mod_lt n (show lenAt ds m>0 by omega)
   omega
  ·have:(Yb ds (m+1) n).getD k 0=(Yb ds m (n/lenAt ds m)).getD k 0:=by
    show((Yb ds m (n/lenAt ds m)).set m _).getD k 0=_
    rw[List.getD_eq_getElem?_getD,List.getElem?_set_ne he,←List.getD_eq_getElem?_getD]
   rw[this]
   exact ZoC hd h6 m _ (by omega) k (by omega)
theorem Zsq {t:Ze} (hf:ZA t):∀m,m<t.delays.length→1≤lenAt t.delays m:=fun m h=>by
 unfold lenAt
 rw[List.getD_eq_getElem?_getD,List.getElem?_eq_getElem h]
 exact(hf.d _ (List.getElem_mem h)).1
theorem Xq {t:Ze} (hf:ZA t) (n:Nat):Y4 t (Zj t n):=⟨XX _ _,fun i hi=>ZoC (Zsq hf) hf.dlen _ n (Nat.le_refl _) i hi⟩
theorem ZcC {t:Ze} (hf:ZA t) {n:Nat} (hn:n<ZO t):stepT t.delays t.delays.length (Zj t n)=if n+1<ZO t then some (Zj t (n+1))else none:=ZiX (Zsq hf) hf.dlen _ n (Nat.le_refl _) hn
theorem Zir {ds:List Qn} (hd:∀m,m<ds.length→1≤lenAt ds m):∀m,m≤ds.length→1≤X8 ds m
 |0,_=>Nat.le_refl _
 |m+1,h=>Nat.mul_le_mul (Zir hd m (by omega)) (hd m (by omega))
theorem ZcQ {t:Ze} (hf:ZA t):1≤ZO t:=Zir (Zsq hf) _ (Nat.le_refl _)
theorem ZgM {ds:List Qn}:∀m,m≤6→Yb ds m 0=ZkA
 |0,_=>rfl
 |m+1,h=>by
  unfold Yb
  rw[Nat.zero_div,Nat.zero_mod]
  show(Yb ds m 0).set m 0=_
  rw[ZhM m 0 (by omega)]
  exact ZgM m (by omega)
theorem ZcB {t:Ze} (hf:ZA t):Zj t 0=ZkA:=ZgM _ hf.dlen
def EndAt (stop:Nat→Bool) (n m:Nat):Prop:=(m=n∧∀j,j<n→stop j=false)∨∃j,m=j+1∧j<n∧stop j=true∧∀i,i<j→stop i=false
end Go.Proofs.YtjgpiclllehgmaaGreat.Sp
namespace Go.Proofs.YtjgpiclllehgmaaGreat.Vm
attribute [local irreducible] Dn
open Go Go.Proofs Sp
set_option maxRecDepth 100000
set_option maxHeartbeats 4000000
theorem ZuH (c:List (List Sp.Call)) (d:Sp.Qn) (bf:List Sp.Qn) (hc:Zas c) (hb:bf.length≤1000000) (hd:d.by_.length≤1000000):SC (fun _=>Tryz.prog) 134 [lst 1 Zb [] c,.agg (ZE d),lst 3 ZE default bf] [] fun v h=>v= .int .i64 (fun _=>QY c d bf)∧h=[]:=by
 obtain⟨nt,hnt⟩:=Zs
 rw[ZnV hnt,Za hnt (enc:=ZE),show AV.agg (ZE d)= .agg [.int .i64 fun _=>d.run,.int .i64 fun _=>d.leg,.isl 1 (fun _=>(d.by_.length:Int)) (fun e=>XC (nt Int 0 d.by_ (e ()))) .none] by unfold ZE;rw[Za hnt]]
 refine QP Tryz.func134 (body:=Zk Tryz.f134) rfl (by decide+kernel) ?_
 have hlen:=hc.len
 have k1:=ZcY d.run 0 (c.length-1)
 have hmem:∀i:Int,0≤i→i≤(c.length:Int)-1→nt (List Sp.Call) [] c i∈c:=fun i h0 h1=>by
  have:i.toNat<c.length:=by omega
  rw[hnt,List.getD_eq_getElem?_getD,List.getElem?_eq_getElem this]
  exact List.getElem_mem _
 generalize hE:QY c d bf=e
 unfold QY at hE
 rw[←hnt (List Sp.Call) [] c d.run]at hE
 refine wS ?_
 refine ZoQ (k1) ?_
 refine wS ?_
 have hin:(!Xw d.run 0 ((c.length:Int)-1))=true→(0≤d.run∧d.run<c.length)∧((nt (List Sp.Call) [] c d.run).length:Int)≤4:=fun h=>by
  have b:=XJ (nb2 h)
  have:=(hc.row _ (hmem _ b.1 b.2)).2
  omega
 refine Chk.mk ?_ ?_
 ·simp only[nc,QK,QJ,QU,QI,Cn.p,and_true,true_and]
  (repeat' (first|apply And.intro|intro _))<;>first|assumption|(have:=hin (by assumption);omega)
 refine⟨fun h1=>?_,fun h1=>?_⟩
 case refine_2=>
  have h1:=nb4 h1
  rw[h1,Bool.true_or,if_pos rfl]at hE
  subst hE
  refine wS ?_
  refine Br.isT rfl ?_
  (cbv;(try simp only[nc]at*);(try refine Chk.mk (Qa) ?_))
  (try first|exact⟨rfl,trivial⟩|exact⟨trivial,trivial⟩)
 have h1:=nb2 h1
 rw[h1,Bool.false_or]at hE
 have b1:=XJ h1
 have m1:=hmem _ b1.1 b1.2
 have r1:=hc.row _ m1
 clear hin
 have k2:=ZcY d.leg 0 ((nt (List Sp.Call) [] c d.run).length-2)
 refine wS ?_
 refine ZoQ (k2) ?_
 refine wS ?_
 refine⟨fun h2=>?_,fun h2=>?_⟩
 ·rw[h1]at h2
  have h2:Xw d.leg 0 ((nt (List Sp.Call) [] c d.run).length-2)=true:=h2
  rw[if_pos h2]at hE
  subst hE
  (cbv;(try simp only[nc]at*);(try refine Chk.mk (Qa) ?_))
  (try first|exact⟨rfl,trivial⟩|exact⟨trivial,trivial⟩)
 rw[h1]at h2
 have h2:Xw d.leg 0 ((nt (List Sp.Call) [] c d.run).length-2)=false:=h2
 rw[if_neg (by rw[h2];exact Bool.false_ne_true)]at hE
 refine wS ?_
 refine⟨fun h3=>?_,fun h3=>?_⟩
 ·have h3:=eq_of_beq h3
  rw[if_pos (by omega)]at hE
  subst hE
  (cbv;(try simp only[nc]at*);(try refine Chk.mk (Qa) ?_))
  (try first|exact⟨rfl,trivial⟩|exact⟨trivial,trivial⟩)
 have h3:=ne_of_beq_false h3
 rw[if_neg (by omega)]at hE
 refine wS ?_
 refine⟨fun h4=>?_,fun h4=>?_⟩
 ·have h4:=of_decide_eq_true h4
  rw[if_pos (by omega)]at hE
  subst hE
  (cbv;(try simp only[nc]at*);(try refine Chk.mk (Qa) ?_))
  (try first|exact⟨rfl,trivial⟩|exact⟨trivial,trivial⟩)
 have h4:=of_decide_eq_false h4
 rw[if_neg (by omega)]at hE
 clear h1 h2 k1 k2
 refine wS ?_
 refine ZV false false [] [2,4,41,42,43] [] (fun(i:Nat)=>[(43,.int .i64 fun _=>i)]) (fun _=>[]) (fun i=>i≤d.by_.length∧Zp (ZhV d.by_) 0 d.by_.length=Zp (ZhV d.by_) i (d.by_.length-i)) (fun i=>d.by_.length-i+0) 0 ⟨Nat.zero_le _,by simp⟩ ?_ ?_
 ·exact ZI
 rintro i ⟨hi,hp⟩
 refine wS ?_
 refine⟨fun hb=>?_,fun hb=>?_⟩
 ·have hb:=of_decide_eq_true hb
  rw[Xd (by omega)]at hp
  have hby:ZhV d.by_ i=if Xw (nt Int 0 d.by_ i) 0 240 then 1 else if 0<i∧nt Int 0 d.by_ i≤nt Int 0 d.by_ ((i:Int)-1)then 5 else 0:=by
   unfold ZhV
   rw[Jc hnt]
   by_cases h0:0<i
   ·rw[Jc hnt,show((i-1:Nat):Int)=(i:Int)-1 by omega]
   ·simp[h0]
  have k3:=ZcY (nt Int 0 d.by_ i) 0 240
  refine wS ?_
  refine ZoQ (k3) ?_
  refine wS ?_
  refine⟨fun h5=>?_,fun h5=>?_⟩
  ·rw[if_pos h5]at hby
   rw[hby,if_pos (by decide)]at hp
   rw[hp,if_pos (by decide)]at hE
   subst hE
   (cbv;(try simp only[nc]at*);(try refine Chk.mk (Qa) ?_))
   (try first|exact⟨rfl,trivial⟩|exact⟨trivial,trivial⟩)
  rw[if_neg (by rw[h5];exact Bool.false_ne_true)]at hby
  refine vS ?_
  refine Chk.mk ?_ ?_
  ·simp only[nc,QK,QJ,QU,QI,Cn.p,and_true,true_and,decide_eq_true_eq]
   (repeat' (first|apply And.intro|intro _))<;>first|assumption|omega
  have he:(bif decide (0<(i:Int))then decide (nt Int 0 d.by_ i≤nt Int 0 d.by_ ((i:Int)-1))else false)=decide (0<i∧nt Int 0 d.by_ i≤nt Int 0 d.by_ ((i:Int)-1)):=by
   by_cases e1:0<i
   ·have:(0:Int)<i:=by omega
    simp[e1,this]
   ·have:¬(0:Int)<i:=by omega
    simp[e1,this]
  refine⟨fun h6=>?_,fun h6=>?_⟩
  ·rw[he]at h6
   rw[if_pos (of_decide_eq_true h6)]at hby
   rw[hby,if_pos (by decide)]at hp
   rw[hp,if_pos (by decide)]at hE
   subst hE
   (cbv;(try simp only[nc]at*);(try refine Chk.mk (Qa) ?_))
   (try first|exact⟨rfl,trivial⟩|exact⟨trivial,trivial⟩)
  ·rw[he]at h6
   rw[if_neg (of_decide_eq_false h6)]at hby
   rw[hby,if_neg (fun h=>h rfl)]at hp
   refine wS ?_
   refine⟨i+1,⟨by omega,hp⟩,by show d.by_.length-(i+1)+0<d.by_.length-i+0;omega,?_⟩
   exact ZI
 ·have hb:=of_decide_eq_false hb
  rw[XA (by omega)]at hp
  rw[hp,if_neg (fun h=>h rfl)]at hE
  refine wS ?_
  refine ZV false false [] [4,65,66,67] [] (fun(i:Nat)=>[(67,.int .i64 fun _=>i)]) (fun _=>[]) (fun i=>i≤bf.length∧bf.any (fun x=>decide (x.run=d.run∧x.leg=d.leg))=(bf.drop i).any (fun x=>decide (x.run=d.run∧x.leg=d.leg))) (fun i=>bf.length-i+0) 0 ⟨Nat.zero_le _,by simp⟩ ?_ ?_
  ·exact ZI
  rintro i ⟨hi,hp⟩
  refine wS ?_
  refine⟨fun hb=>?_,fun hb=>?_⟩
  ·have hb:=of_decide_eq_true hb
   have hdd:=Qu (d:=default) hnt (l:=bf) (i:=i) (by omega)
   rw[hdd,List.any_cons]at hp
   generalize hx:nt Sp.Qn default bf i=x at*
   refine vS ?_
   try simp only[hx]
   try refine Chk.mk (Qa) ?_
   have he:(bif x.run==d.run then x.leg==d.leg else false)=decide (x.run=d.run∧x.leg=d.leg):=by
    by_cases e1:x.run=d.run<;>by_cases e2:x.leg=d.leg<;>simp[e1,e2]
   refine⟨fun h9=>?_,fun h9=>?_⟩
   ·rw[he]at h9
    rw[h9,Bool.true_or]at hp
    rw[hp,if_pos rfl]at hE
    subst hE
    (cbv;(try simp only[nc]at*);(try refine Chk.mk (Qa) ?_))
    (try first|exact⟨rfl,trivial⟩|exact⟨trivial,trivial⟩)
   ·rw[he]at h9
    rw[h9,Bool.false_or]at hp
    refine wS ?_
    refine⟨i+1,⟨by omega,hp⟩,by show bf.length-(i+1)+0<bf.length-i+0;omega,?_⟩
    exact ZI
  ·have hb:=of_decide_eq_false hb
   rw[List.drop_eq_nil_of_le (by omega)]at hp
   rw[hp,List.any_nil,if_neg Bool.false_ne_true]at hE
   subst hE
   (cbv;(try simp only[nc]at*);(try refine Chk.mk (Qa) ?_))
   (try first|exact⟨rfl,trivial⟩|exact⟨trivial,trivial⟩)
set_option maxHeartbeats 8000000
structure Xi (t:Ze):Prop where
 book:YG t.book
 runs:t.runs.length≤1000000
 waits:t.waits.length≤1000000
 delays:t.delays.length≤1000000
 bys:∀d∈t.delays,d.by_.length≤1000000
def ZT (t:Ze):List AV:=[lst 2 encZone default t.book.zones,lst 3 encTrain default t.book.old,lst 3 encTrain default t.book.new,.int .i64 fun _=>t.book.night,.int .i64 fun _=>t.book.last,
 lst 2 Zg default t.runs,lst 4 Xh default t.waits,lst 3 ZE default t.delays,lst 1 Zb [] (callsOf t)]
def QE (e:Int) (t:Ze):AV:=if e=0 then .iptr (ZT t) 0 else .nilptr
theorem ZdD {t:Ze} (h:QO t=0):Zas (callsOf t):=by
 unfold QO at h
 split at h
 ·cases h
 split at h
 ·cases h
 have h2:=Qb h
 refine⟨by unfold callsOf;rw[List.length_map];omega,fun l hl=>?_⟩
 obtain⟨r,hr,rfl⟩:=List.mem_map.1 hl
 obtain⟨j,hj,hrj⟩:=Jw (d:=default) hr
 have h3:=h2 j (by omega) (by omega)
 have hl:=Zhg t.book r.number r.day
 unfold JS at h3
 rw[show t.runs.getD j default=r from hrj]at h3
 split at h3
 ·exact absurd h3 (by assumption)
 ·rename_i h4
  exact⟨hl.2 (Decidable.of_not_not h4),hl.1⟩
theorem ZqH (t:Ze) (hf:Xi t):SC (fun _=>Tryz.prog) 80 [Zf t] [] fun v h=>v= .tup [QE (Zr t) t,.int .i64 fun _=>Zr t]∧h=[]:=by
 obtain⟨nt,hnt⟩:=Zs
 refine SC.less (QP Tryz.func80 (body:=Zk Tryz.f80) rfl (by decide+kernel) ?_)
 have k28:=c28 t.book hf.book
 have k432:=ZuJ t hf.book hf.runs
 obtain⟨P,hP⟩:∃P,P=QE (Zr t) t:=⟨_,rfl⟩
 rw[←hP]
 generalize hE:Zr t=e at*
 unfold Zr at hE
 unfold Zf at*
 unfold Zc at k28
 simp only[Za hnt]at k28 k432⊢
 refine wS ?_
 refine ZS (k28) (by first|rfl|(simp only[Zd,Zc,Zf,Zb,Za hnt];rfl)) fun r h₂ hp=>?_
 (try simp only[Zd,Zc,Zf,Zb,Za hnt]at hp)
 obtain⟨rfl,rfl⟩:=hp
 generalize Sp.Yw t.book=e1 at*
 refine wS ?_
 refine⟨fun h1=>?_,fun h1=>?_⟩
 ·have h1:e1≠0:=by simpa only[bne_iff_ne]using h1
  rw[if_pos h1]at hE
  subst hE
  unfold QE at hP
  rw[if_neg h1]at hP
  subst hP
  refine wS ?_
  refine⟨_,[],?_,rfl,rfl⟩
  exact ZI
 case refine_2=>
  have h1:e1=0:=by simpa only[bne_eq_false_iff_eq]using h1
  rw[if_neg (by omega)]at hE
  have hfit:= @ZdD t
  refine wS ?_
  refine ZS (k432) (by first|rfl|(simp only[Zd,Zc,Zf,Zb,Za hnt];rfl)) fun r h₂ hp=>?_
  (try simp only[Zd,Zc,Zf,Zb,Za hnt]at hp)
  obtain⟨rfl,rfl⟩:=hp
  generalize QO t=e2 at*
  refine wS ?_
  refine⟨fun h2=>?_,fun h2=>?_⟩
  ·have h2:e2≠0:=by simpa only[bne_iff_ne]using h2
   rw[if_pos h2]at hE
   subst hE
   unfold QE at hP
   rw[if_neg h2]at hP
   subst hP
   refine wS ?_
   refine⟨_,[],?_,rfl,rfl⟩
   exact ZI
  have h2:e2=0:=by simpa only[bne_eq_false_iff_eq]using h2
  subst h2
  rw[if_neg (fun h=>h rfl)]at hE
  have hfc:=hfit rfl
  clear k28 k432 hfit
  simp only[if_true]
  generalize hcc:callsOf t=c at*
  refine wS ?_
  refine⟨fun h3=>?_,fun h3=>?_⟩
  ·simp only[decide_eq_true_eq]at h3
   rw[if_pos (by omega)]at hE
   subst hE
   unfold QE at hP
   rw[if_neg (by decide)]at hP
   subst hP
   refine wS ?_
   refine⟨_,[],?_,rfl,rfl⟩
   exact ZI
  simp only[decide_eq_false_iff_not]at h3
  rw[if_neg (by omega)]at hE
  refine wS ?_
  refine ZV false false [] [1,5,32,33,34] [] (fun(i:Nat)=>[(34,.int .i64 fun _=>(i:Int))]) (fun _=>[]) (fun i=>i≤t.waits.length∧Zp (fun i=>QA c (t.waits.getD i default) (t.waits.take i)) 0 t.waits.length=Zp (fun i=>QA c (t.waits.getD i default) (t.waits.take i)) i (t.waits.length-i)) (fun i=>t.waits.length-i+0) 0 ⟨by omega,rfl⟩ ?_ ?_
  ·exact ZI
  rintro i ⟨hi,hp⟩
  refine wS ?_
  refine⟨fun hb=>?_,fun hb=>?_⟩
  ·simp only[decide_eq_true_eq]at hb
   rw[Xd (by omega)]at hp
   have hwe:QA c (t.waits.getD i default) (t.waits.take i)=QA c (nt Xo default t.waits i) (t.waits.take i):=by rw[Jc hnt]
   generalize hd:nt Xo default t.waits i=d at*
   refine vS ?_
   simp only[hd]
   refine Chk.mk (Qa) ?_
   refine J2 (ZuI c d (t.waits.take i) hfc (by have:=hf.waits;simp;omega)) (by(try simp only[Zd,Zc,Zf,Zb,Za hnt]);exact ZI) (by first|rfl|(simp only[Zd,Zc,Zf,Zb,Za hnt];rfl)) fun r h₂ hp=>?_
   (try simp only[Zd,Zc,Zf,Zb,Za hnt]at hp)
   obtain⟨rfl,rfl⟩:=hp
   refine wS ?_
   refine⟨fun h5=>?_,fun h5=>?_⟩
   ·simp only[bne_iff_ne,ne_eq]at h5
    rw[hwe,if_pos h5]at hp
    rw[hp,if_pos h5]at hE
    rw[←hE]at hP
    unfold QE at hP
    rw[if_neg h5]at hP
    subst hP
    subst hE
    refine wS ?_
    refine⟨_,[],?_,rfl,rfl⟩
    exact ZI
   ·simp only[bne_eq_false_iff_eq]at h5
    rw[hwe,if_neg (fun h=>h h5)]at hp
    refine wS ?_
    refine⟨i+1,⟨by omega,hp⟩,by show t.waits.length-(i+1)+0<t.waits.length-i+0;omega,?_⟩
    exact ZI
  simp only[decide_eq_false_iff_not]at hb
  rw[XA (by omega)]at hp
  rw[hp,if_neg (fun h=>h rfl)]at hE
  clear hp hb
  refine wS ?_
  refine⟨fun h6=>?_,fun h6=>?_⟩
  ·simp only[decide_eq_true_eq]at h6
   rw[if_pos (by omega)]at hE
   subst hE
   unfold QE at hP
   rw[if_neg (by decide)]at hP
   subst hP
   refine wS ?_
   refine⟨_,[],?_,rfl,rfl⟩
   exact ZI
  simp only[decide_eq_false_iff_not]at h6
  rw[if_neg (by omega)]at hE
  refine wS ?_
  refine ZV false false [] [1,5,55,56,57] [] (fun(i:Nat)=>[(57,.int .i64 fun _=>(i:Int))]) (fun _=>[]) (fun i=>i≤t.delays.length∧e=Zp (fun i=>QY c (t.delays.getD i default) (t.delays.take i)) i (t.delays.length-i)) (fun i=>t.delays.length-i+0) 0 ⟨by omega,hE.symm⟩ ?_ ?_
  ·exact ZI
  rintro i ⟨hi,hp⟩
  refine wS ?_
  refine⟨fun hb=>?_,fun hb=>?_⟩
  ·simp only[decide_eq_true_eq]at hb
   rw[Xd (by omega)]at hp
   have hwe:QY c (t.delays.getD i default) (t.delays.take i)=QY c (nt Qn default t.delays i) (t.delays.take i):=by rw[Jc hnt]
   have hby:(nt Qn default t.delays i).by_.length≤1000000:=by
    rw[hnt,List.getD_eq_getElem?_getD,List.getElem?_eq_getElem (by omega)]
    exact hf.bys _ (List.getElem_mem _)
   generalize hd:nt Qn default t.delays i=d at*
   refine vS ?_
   simp only[hd]
   refine Chk.mk (Qa) ?_
   refine J2 (ZuH c d (t.delays.take i) hfc (by have:=hf.delays;simp;omega) hby) (by(try simp only[Zd,Zc,Zf,Zb,Za hnt]);exact ZI) (by first|rfl|(simp only[Zd,Zc,Zf,Zb,Za hnt];rfl)) fun r h₂ hp=>?_
   (try simp only[Zd,Zc,Zf,Zb,Za hnt]at hp)
   obtain⟨rfl,rfl⟩:=hp
   refine wS ?_
   refine⟨fun h5=>?_,fun h5=>?_⟩
   ·simp only[bne_iff_ne,ne_eq]at h5
    rw[hwe,if_pos h5]at hp
    rw[hp]at hP
    unfold QE at hP
    rw[if_neg h5]at hP
    subst hP
    subst hp
    refine wS ?_
    refine⟨_,[],?_,rfl,rfl⟩
    exact ZI
   ·simp only[bne_eq_false_iff_eq]at h5
    rw[hwe,if_neg (fun h=>h h5)]at hp
    refine wS ?_
    refine⟨i+1,⟨by omega,hp⟩,by show t.delays.length-(i+1)+0<t.delays.length-i+0;omega,?_⟩
    exact ZI
  simp only[decide_eq_false_iff_not]at hb
  rw[XA (by omega)]at hp
  subst hp
  unfold QE at hP
  rw[if_pos rfl]at hP
  subst hP
  refine wS ?_
  unfold ZT
  simp only[hcc,Za hnt,Zb]
  refine⟨_,[],?_,rfl,rfl⟩
  exact ZI
set_option maxHeartbeats 4000000
def XD (t:Ze) (w:Int):Int:=if Zr t=0 then(if Xw w 0 ((t.waits.length:Int)-1)then 3 else 0)else Zr t
theorem ZuM (t:Ze) (w:Int) (hf:Xi t):SC (fun _=>Tryz.prog) 106 [Zf t,.int .i64 fun _=>w] [] fun v h=>v= .tup [QE (Zr t) t,.int .i64 fun _=>XD t w]∧h=[]:=by
 obtain⟨nt,hnt⟩:=Zs
 refine SC.less (QP Tryz.func106 (body:=Zk Tryz.f106) rfl (by decide+kernel) ?_)
 have k:=ZqH t hf
 have hw:=hf.waits
 have k1:=ZcY w 0 ((t.waits.length:Int)-1)
 generalize hE:XD t w=e
 unfold XD at hE
 unfold Zf at*
 simp only[Za hnt]at k⊢
 by_cases he:Zr t=0
 ·unfold QE at k⊢
  rw[if_pos he]at k⊢
  rw[if_pos he]at hE
  unfold ZT at k⊢
  simp only[Za hnt,Zb]at k⊢
  rw[he]at k
  refine wS ?_
  refine ZoQ (k) ?_
  refine wS ?_
  refine Br.isT rfl ?_
  refine wS ?_
  refine ZoQ (k1) ?_
  refine wS ?_
  refine⟨fun h=>?_,fun h=>?_⟩
  ·have h:Xw w 0 ((t.waits.length:Int)-1)=true:=h
   rw[if_pos h]at hE
   subst hE
   refine wS ?_
   refine⟨_,[],?_,rfl,rfl⟩
   exact ZI
  ·have h:Xw w 0 ((t.waits.length:Int)-1)=false:=h
   rw[if_neg (by rw[h];exact Bool.false_ne_true)]at hE
   subst hE
   refine wS ?_
   refine⟨_,[],?_,rfl,rfl⟩
   exact ZI
 ·unfold QE at k⊢
  rw[if_neg he]at k⊢
  rw[if_neg he]at hE
  rw[hE]at k he
  refine wS ?_
  refine ZoQ (k) ?_
  refine wS ?_
  refine⟨fun h=>?_,fun h=>?_⟩
  ·exact absurd (eq_of_beq h) he
  refine wS ?_
  refine Br.isF rfl ?_
  refine wS ?_
  refine⟨_,[],?_,rfl,rfl⟩
  exact ZI
def X1 (x:List Int):List AV:=[.int .i64 fun _=>x.getD 0 0,.int .i64 fun _=>x.getD 1 0,.int .i64 fun _=>x.getD 2 0,.int .i64 fun _=>x.getD 3 0,.int .i64 fun _=>x.getD 4 0,.int .i64 fun _=>x.getD 5 0]
theorem Zeu {x:List Int} {e:Int} {i:Nat} (he:e=i) (hi:i<6):Zjz [fun _=>x.getD 0 0,fun _=>x.getD 1 0,fun _=>x.getD 2 0,fun _=>x.getD 3 0,fun _=>x.getD 4 0,fun _=>x.getD 5 0] e=x.getD i 0:=by
 subst he
 match i,hi with
 |0,_=>rfl
 |1,_=>rfl
 |2,_=>rfl
 |3,_=>rfl
 |4,_=>rfl
 |5,_=>rfl
theorem ZuC (t:Ze) (x:List Int) (run leg:Int) (hx:Y4 t x) (hl:t.delays.length≤6):SC (fun _=>Tryz.prog) 178 [.iptr (ZT t) 0,.agg (X1 x),.int .i64 fun _=>run,.int .i64 fun _=>leg] [] fun v h=>v= .int .i64 (fun _=>Zi4 t x run leg)∧h=[]:=by
 obtain⟨nt,hnt⟩:=Zs
 unfold ZT
 simp only[Za hnt,Zb,ZE]
 refine SC.less (QP Tryz.func178 (body:=Zk Tryz.f178) rfl (by decide+kernel) ?_)
 generalize hE:Zi4 t x run leg=e
 unfold Zi4 at hE
 refine wS ?_
 refine ZV false false [] [2,3,5,15,16,17] [] (fun(i:Nat)=>[(17,.int .i64 fun _=>(i:Int))]) (fun _=>[]) (fun i=>i≤t.delays.length∧e=ZhU x run leg i (t.delays.drop i)) (fun i=>t.delays.length-i+0) 0 ⟨by omega,by rw[List.drop_zero];exact hE.symm⟩ ?_ ?_
 ·exact ZI
 rintro i ⟨hi,hp⟩
 refine wS ?_
 refine⟨fun hb=>?_,fun hb=>?_⟩
 case refine_2=>
  simp only[decide_eq_false_iff_not]at hb
  rw[List.drop_eq_nil_of_le (by omega),ZhU]at hp
  subst hp
  refine wS ?_
  refine⟨_,[],?_,rfl,rfl⟩
  exact ZI
 simp only[decide_eq_true_eq]at hb
 have hdr:=Qu (d:=default) hnt (l:=t.delays) (i:=i) (by omega)
 rw[hdr,ZhU]at hp
 have hxi:=hx.d i (by omega)
 rw[show t.delays.getD i default=nt Qn default t.delays i by rw[Jc hnt]]at hxi
 have hs:= @Zeu x i i rfl (by omega)
 generalize hd:nt Qn default t.delays i=d at*
 refine vS ?_
 simp only[hd]
 refine Chk.mk (Qa) ?_
 have he:(bif d.run==run then d.leg==leg else false)=decide (d.run=run∧d.leg=leg):=by
  by_cases e1:d.run=run<;>by_cases e2:d.leg=leg<;>simp[e1,e2]
 refine⟨fun h9=>?_,fun h9=>?_⟩
 ·rw[he]at h9
  rw[if_pos (of_decide_eq_true h9),←hnt Int 0 d.by_ (x.getD i 0)]at hp
  subst hp
  refine vS ?_
  try simp only[hd,hs]
  generalize x.getD i 0=y at*
  have hy:=hxi.1
  have hy2:=hxi.2
  refine Chk.mk (Qa) ?_
  refine⟨_,[],?_,rfl,rfl⟩
  exact ZI
 ·rw[he]at h9
  rw[if_neg (of_decide_eq_false h9)]at hp
  refine wS ?_
  refine⟨i+1,⟨by omega,hp⟩,by show t.delays.length-(i+1)+0<t.delays.length-i+0;omega,?_⟩
  exact ZI
end Go.Proofs.YtjgpiclllehgmaaGreat.Vm
namespace Go.Proofs.YtjgpiclllehgmaaGreat.Vm
open Go Go.Proofs
set_option maxRecDepth 100000
section
variable {n k:Nat}
end
section
variable {n k:Nat} {nt:(α:Type)→α→List α→Int→α} (hnt:∀(α:Type) (d:α) (l:List α) (i:Int),nt α d l i=l.getD i.toNat d)
include hnt
end
end Go.Proofs.YtjgpiclllehgmaaGreat.Vm
namespace Go.Proofs.YtjgpiclllehgmaaGreat.Vm
open Go Go.Proofs
theorem ZdK.perm {α:Type} {ka:Nat} {V:α→Value→Prop} {es:Array MapEntry} {clk:Nat} {L L':List (List Int×α)} (h:ZdK ka V es clk L) (hp:L.Perm L'):ZdK ka V es clk L':=by
 obtain⟨l,h⟩:=h
 exact⟨l,{h with L:=h.L.trans hp}⟩
theorem ZD.imap {n k ka m:Nat} {L L':Unit→List (List Int×List Int)} (h:(L ()).Perm (L' ())):ZD n k (.imap ka m L) (.imap ka m L'):=⟨fun R v _ hv=>by
 cases hv with
 |pure _ _ hp=>
  cases hp with
  |imap _ _ _ b es clk h1 h2 h3=>exact .pure _ _ (.imap ka m L' b es clk h1 (h2.perm h) h3)
  |imap0 _ _ _ h0=>exact .pure _ _ (.imap0 ka m L' (by rw[h0]at h;exact h.nil_eq.symm▸rfl))⟩
theorem YC.frame {p:Unit→Program} {id j:Nat} {xs:List AV} {h:List Zi} {Post Q:AV→List Zi→Prop} (l:List Nat) (hnd:l.Nodup) (hlt:∀i∈l,i<h.length) (hj:l[j]? =some id) (H:YC p j (xs.map (Qs false l h 5)) (sel false l h) Q)
  (hq:∀r h₂,Q r h₂→Post (ren (YK l h.length) 5 r) (back l h h₂)):YC p id xs h Post:=
 ⟨fun G R vs hr ha=>by
  obtain⟨R₂,acx,a0,a1,a2,a3,a4,a5,a6,a7,a8⟩:=hr.sel (fz:=false) (ι:=l) (ZqT R h l) (fun b o n k=>.inl k) (fun b o n o' n' k h1 h2=>by
    rcases k with k|k|k
    ·exact .inl (hr.sub k h1 h2)
    ·exact .inr (.inl k)
    ·exact .inr (.inr k)) (fun b o n hb=>.inr (.inl hb)) (fun i blk b hi hb hk hp o n=>.inr (.inr ⟨i,blk,hi,hb,hk,hp⟩)) hnd hlt (fun hf=>by cases hf) l.length (Nat.le_refl _) (fun hf=>by cases hf)
  have hrow:XZ R₂ (xs.map (Qs false l h 5)) vs:=⟨by rw[List.length_map];exact ha.1,fun j c hj=>by
   rw[List.getElem?_map,Option.map_eq_some_iff]at hj
   obtain⟨x,hx,rfl⟩:=hj
   exact a8 5 x _ (ha.2 j x hx)⟩
  obtain⟨f,tmps,a,x,h1,h2⟩:=H.run _ R₂ vs a6 hrow
  rw[a1,a3 j id hj]at h1
  refine⟨f,tmps,a,x,h1,fun c cs=>?_⟩
  obtain⟨v,R',r,h',b1,b3,b4,b5,b6,b7⟩:=h2 c cs
  rw[a1,acx,a3 j id hj]at b1
  obtain⟨R'',c1,c2,c3,c4,c5⟩:=ZfA hr hnd hlt acx a0 a1 a2 a3 a4 a5 a7 b3 b4 b5
  exact⟨v,R'',_,_,by rw[c1];exact b1,c2,c3,c4,c5 5 r v b6,hq r h' b7⟩⟩
theorem YC.frameB {p:Unit→Program} {id j:Nat} {xs ys:List AV} {h hc h₂ h':List Zi} {b:Bool} {Post:AV→List Zi→Prop} (l:List Nat) (hnd:l.Nodup) (hlt:∀i∈l,i<h.length) (hj:l[j]? =some id) (hx:xs.map (Qs false l h 5)=ys) (hsel:sel false l h=hc)
  (H:YC p j ys hc fun v h=>v= .bool (fun _=>b)∧h=h₂) (hbk:back l h h₂=h') (hP:Post (.bool fun _=>b) h'):YC p id xs h Post:=
 YC.frame l hnd hlt hj (by rw[hx,hsel];exact H) fun r h₃ hp=>by
  obtain⟨rfl,rfl⟩:=hp
  rw[hbk]
  exact hP
end Go.Proofs.YtjgpiclllehgmaaGreat.Vm
namespace Go.Proofs.YtjgpiclllehgmaaGreat.Sp
open Vm
def Zb6 (h:Zjk):List Int:=[h.comes,h.ready,h.goes]
theorem ZaM {α β:Type} [BEq α] [LawfulBEq α] {k:α} {v:β}:∀ {L:List (α×β)},L.lookup k=some v→(k,v)∈L
 |[],h=>by cases h
 |(a,b)::r,h=>by
  rw[List.lookup_cons]at h
  split at h
  ·rename_i he
   have he:=eq_of_beq he
   subst he
   cases h
   exact List.mem_cons_self ..
  ·exact List.mem_cons_of_mem _ (ZaM h)
theorem Ze5 {α:Type} {L:List (List Int×α)} {k:List Int} {d:α} {p:List Int×α} (h:p∈Y0 L k d):p=(k,d)∨p∈L:=by
 unfold Y0 at h
 split at h
 ·obtain⟨q,hq,rfl⟩:=List.mem_map.1 h
  split
  ·exact .inl rfl
  ·exact .inr hq
 ·rcases List.mem_append.1 h with h|h
  ·exact .inr h
  ·exact .inl (List.mem_singleton.1 h)
theorem Zdd {α:Type} {L:List (List Int×α)} {k:List Int} {d:α}:(k,d)∈Y0 L k d:=by
 unfold Y0
 split
 ·rename_i h
  obtain⟨p,hp,he⟩:=List.any_eq_true.1 h
  exact List.mem_map.2 ⟨p,hp,if_pos he⟩
 ·exact List.mem_append.2 (.inr (List.mem_singleton.2 rfl))
theorem Zgt {α:Type} {L:List (List Int×α)} {k:List Int} {d:α} {p:List Int×α} (h:p∈L) (hk:p.1=k→p.2=d):p∈Y0 L k d:=by
 unfold Y0
 split
 ·refine List.mem_map.2 ⟨p,h,?_⟩
  split
  ·rename_i he
   have he:=eq_of_beq he
   rw[←he,←hk he]
  ·rfl
 ·exact List.mem_append.2 (.inl h)
theorem Zde {α:Type} {L:List (List Int×α)} {k:List Int} {d:α} (h:(L.map (·.1)).Nodup):((Y0 L k d).map (·.1)).Nodup:=by
 unfold Y0
 split
 ·rw[List.map_map]
  have:((fun p:List Int×α=>p.1)∘fun p=>if p.1==k then(k,d)else p)=fun p=>p.1:=by
   funext p
   simp only[Function.comp]
   split
   ·rename_i he
    exact(eq_of_beq he).symm
   ·rfl
  rw[this]
  exact h
 ·rename_i hn
  rw[List.map_append,List.nodup_append]
  refine⟨h,by simp,fun a ha b hb=>?_⟩
  rintro rfl
  obtain⟨p,hp,rfl⟩:=List.mem_map.1 ha
  have hb:=List.mem_singleton.1 hb
  exact hn (List.any_eq_true.2 ⟨p,hp,by simpa using hb⟩)
structure TmInv (t:Ze) (x:List Int) (C K:List (List Int×List Int)):Prop where
 c:∀p∈C,∃r a,StopIn (callsOf t) r a∧0<a∧p=([r,a],[comes t x r a])
 k:∀p∈K,∃r a,StopIn (callsOf t) r a∧p=([r,a],Zb6 (ZU t x r a))
 nd:(K.map (·.1)).Nodup
 ndc:(C.map (·.1)).Nodup
theorem TmInv.cv {t:Ze} {x:List Int} {C K:List (List Int×List Int)} (h:TmInv t x C K) {r a:Int} {v:List Int} (hl:C.lookup [r,a]=some v):v=[comes t x r a]:=by
 obtain⟨r',a',_,_,e⟩:=h.c _ (ZaM hl)
 cases e
 rfl
theorem TmInv.kv {t:Ze} {x:List Int} {C K:List (List Int×List Int)} (h:TmInv t x C K) {r a:Int} {v:List Int} (hl:K.lookup [r,a]=some v):v=Zb6 (ZU t x r a):=by
 obtain⟨r',a',_,e⟩:=h.k _ (ZaM hl)
 cases e
 rfl
theorem TmInv.putC {t:Ze} {x:List Int} {C K:List (List Int×List Int)} (h:TmInv t x C K) {r a:Int} (hs:StopIn (callsOf t) r a) (ha:0<a) {v:Int} (hv:comes t x r a=v):TmInv t x (Y0 C [r,a] [v]) K∧(Y0 C [r,a] [v]).lookup [r,a]=some [v]:=by
 have hn:=Zde (k:=[r,a]) (d:=[v]) h.ndc
 refine⟨⟨fun p hp=>?_,h.k,h.nd,hn⟩,ZbT hn Zdd⟩
 rcases Ze5 hp with rfl|hp
 ·exact⟨r,a,hs,ha,by rw[hv]⟩
 ·exact h.c p hp
theorem TmInv.putK {t:Ze} {x:List Int} {C K:List (List Int×List Int)} (h:TmInv t x C K) {r a:Int} (hs:StopIn (callsOf t) r a) {v:List Int} (hv:Zb6 (ZU t x r a)=v):TmInv t x C (Y0 K [r,a] v)∧(∀p∈K,p∈Y0 K [r,a] v)∧([r,a],v)∈Y0 K [r,a] v:=by
 have hn:=Zde (k:=[r,a]) (d:=v) h.nd
 refine⟨⟨h.c,fun p hp=>?_,hn,h.ndc⟩,fun p hp=>Zgt hp fun e=>?_,Zdd⟩
 ·rcases Ze5 hp with rfl|hp
  ·exact⟨r,a,hs,by rw[hv]⟩
  ·exact h.k p hp
 ·obtain⟨r',a',_,rfl⟩:=h.k p hp
  cases e
  exact hv
def ZcE (c:List (List Call)):List (Int×Int):=(List.range c.length).flatMap fun(r:Nat)=>(List.range (Zo c r).length).map fun(a:Nat)=>((r:Int),(a:Int))
def Qe (t:Ze) (x:List Int):List (List Int×List Int):=(ZcE (callsOf t)).map fun s=>([s.1,s.2],Zb6 (ZU t x s.1 s.2))
theorem Jm {c:List (List Call)} {r a:Int}:(r,a)∈ZcE c↔StopIn c r a:=by
 unfold ZcE StopIn
 simp only[List.mem_flatMap,List.mem_map,List.mem_range,Prod.mk.injEq]
 constructor
 ·rintro⟨r',h1,a',h2,rfl,rfl⟩
  omega
 ·rintro⟨h1,h2,h3,h4⟩
  refine⟨r.toNat,by omega,a.toNat,?_,by omega,by omega⟩
  rw[show((r.toNat:Nat):Int)=r by omega]
  omega
theorem Zbd {c:List (List Call)}:(ZcE c).Nodup:=by
 unfold ZcE
 refine List.pairwise_flatMap.2 ?_
 refine⟨fun r _=>List.Pairwise.map _ (fun a b h e=>?_) List.nodup_range,List.nodup_range.imp fun h=>?_⟩
 ·cases e
  exact h rfl
 ·intro a ha b hb e
  obtain⟨_,_,rfl⟩:=List.mem_map.1 ha
  obtain⟨_,_,rfl⟩:=List.mem_map.1 hb
  cases e
  exact h rfl
theorem TmInv.perm {t:Ze} {x:List Int} {C K:List (List Int×List Int)} (h:TmInv t x C K) (hall:∀r a,StopIn (callsOf t) r a→([r,a],Zb6 (ZU t x r a))∈K):K.Perm (Qe t x):=by
 have hk:K.Nodup:=List.Pairwise.of_map (fun p:List Int×List Int=>p.1) (fun a b h e=>h (by rw[e])) h.nd
 have hl:(Qe t x).Nodup:=List.Pairwise.map _ (fun a b hab e=>by
  apply hab
  simp only[Prod.mk.injEq,List.cons.injEq,and_true]at e
  exact Prod.ext e.1.1 e.1.2) Zbd
 rw[List.perm_iff_count]
 intro p
 rw[hk.count,hl.count]
 have:p∈K↔p∈Qe t x:=by
  unfold Qe
  rw[List.mem_map]
  constructor
  ·intro hp
   obtain⟨r,a,hs,rfl⟩:=h.k p hp
   exact⟨(r,a),Jm.2 hs,rfl⟩
  ·rintro⟨⟨r,a⟩,hs,rfl⟩
   exact hall r a (Jm.1 hs)
 simp only[this]
end Go.Proofs.YtjgpiclllehgmaaGreat.Sp
namespace Go.Proofs.YtjgpiclllehgmaaGreat.Vm
attribute [local irreducible] Dn
open Go Go.Proofs Sp
set_option maxRecDepth 100000
set_option maxHeartbeats 4000000
def tmH (W:List AV) (X:List AV) (C K:List (List Int×List Int)):List Zi:=[.cells [.iptr W 0],.cells X,.gob (.mapL 2 0 fun _=>C),.gob (.mapL 2 3 fun _=>K),.cells [.map 2],.cells [.map 3],
 .cells [.fn 179 [] [.ptr 5 0,.ptr 0 0,.ptr 7 0]],.cells [.fn 177 [] [.ptr 4 0,.ptr 0 0,.ptr 6 0,.ptr 1 0]]]
def ZhX (a b:Int):AV:=.agg [.int .i64 fun _=>a,.int .i64 fun _=>b]
def Zma (a b c:Int):AV:=.agg [.int .i64 fun _=>a,.int .i64 fun _=>b,.int .i64 fun _=>c]
theorem JT {nt:(α:Type)→α→List α→Int→α} (hnt:∀(α:Type) (d:α) (l:List α) (i:Int),nt α d l i=l.getD i.toNat d) (c:List (List Sp.Call)) (r:Int):Sp.Zo c r=nt (List Sp.Call) [] c r:=by rw[hnt];rfl
theorem ZhS {nt:(α:Type)→α→List α→Int→α} (hnt:∀(α:Type) (d:α) (l:List α) (i:Int),nt α d l i=l.getD i.toNat d) (c:List (List Sp.Call)) (r a:Int):Zy c r a=nt Sp.Call default (nt (List Sp.Call) [] c r) a:=by rw[hnt,hnt];rfl
theorem Jo {c:List (List Sp.Call)} (hc:Zas c) {r a:Int} (hs:StopIn c r a):c.length≤4∧2≤(Sp.Zo c r).length∧(Sp.Zo c r).length≤4:=by
 have:=hc.row (Sp.Zo c r) (by
  unfold Sp.Zo
  have:r.toNat<c.length:=by have:=hs.2.1;have:=hs.1;omega
  rw[List.getD_eq_getElem?_getD,List.getElem?_eq_getElem this]
  exact List.getElem_mem _)
 exact⟨hc.len,this⟩
theorem cL1 (l:List Nat) {f:FuncId} {xs ys:List AV} {h hc:List Zi} {Post Q:AV→List Zi→Prop} (H:SC (fun _=>Tryz.prog) f ys hc Q) (hq:∀ r h₂,Q r h₂→Post (ren (YK l h.length) 5 r) (back l h h₂)) (hn:l.Nodup:=by decide) (hl:∀ i∈l,i<h.length:=by simp) (hx:xs.map (Qs false l h 5)=ys:=by first|rfl|(simp only[Zd,Zc,Zf,Zb,Za hnt];rfl)) (hh:sel false l h=hc:=by first|rfl|(simp only[Zd,Zc,Zf,Zb,Za hnt];rfl)):SC (fun _=>Tryz.prog) f xs h Post:=ZH l H hn hl hx hh hq
theorem ZsY (t:Ze) (x:List Int) (hf:ZA t) (hx:Y4 t x) (n:Int)
  (ih:∀r a C K,StopIn (callsOf t) r a→2*(Zy (callsOf t) r a).depart+1<n→TmInv t x C K→SC (fun _=>Tryz.prog) 179 [ZhX r a,.ptr 5 0,.ptr 0 0,.ptr 7 0] (tmH (ZT t) (X1 x) C K) fun v h=>v=Zma (ZU t x r a).comes (ZU t x r a).ready (ZU t x r a).goes∧∃C' K',TmInv t x C' K'∧(∀p∈K,p∈K')∧([r,a],Zb6 (ZU t x r a))∈K'∧h=tmH (ZT t) (X1 x) C' K')
  (r a:Int) (C K:List (List Int×List Int)) (hs:StopIn (callsOf t) r a) (ha:0<a) (hn:2*(Zy (callsOf t) r a).arrive<n+1) (hi:TmInv t x C K):
  SC (fun _=>Tryz.prog) 177 [ZhX r a,.ptr 4 0,.ptr 0 0,.ptr 6 0,.ptr 1 0] (tmH (ZT t) (X1 x) C K) fun v h=>v= .int .i64 (fun _=>comes t x r a)∧∃C' K',TmInv t x C' K'∧(∀p∈K,p∈K')∧h=tmH (ZT t) (X1 x) C' K':=by
 obtain⟨nt,hnt⟩:=Zs
 have hasc:=hf.asc r a hs ha
 have k:=ih r (a-1) C K (hs.prev ha) (by omega) hi
 have k2:=ZuC t x r (a-1) hx hf.dlen
 have hb1:=ZoI hf x hs ha
 have hb2:=ZhH hf x (hs.prev ha)
 have hb3:=hf.nn r a hs
 have hb4:=hf.nn r (a-1) (hs.prev ha)
 have hb5:=ZeD hf x r (a-1)
 have hcv:=fun v=> @TmInv.cv t x C K hi r a v
 have hput:=fun C' K' (h:TmInv t x C' K') v (e:comes t x r a=v)=>h.putC hs ha e
 have hin:=hs
 unfold StopIn at hin
 have hr4:=Jo hf.calls hs
 have hE:comes t x r a=(ZU t x r (a-1)).goes+(Zy (callsOf t) r a).arrive-(Zy (callsOf t) r (a-1)).depart+Zi4 t x r (a-1):=rfl
 unfold goes at hb2
 rw[JT hnt]at hb2 hin hr4
 rw[ZhS hnt]at*
 rw[ZhS hnt]at*
 unfold tmH ZhX Zma X1 at*
 unfold ZT at*
 simp only[Za hnt,Zb]at*
 generalize comes t x r a=e at*
 generalize ZU t x r (a-1)=H at*
 generalize Zi4 t x r (a-1)=y at*
 generalize hcc:callsOf t=c at*
 refine SC.less (QP Tryz.func177 (body:=Zk Tryz.f177) rfl (by decide+kernel) ?_)
 refine wS ?_
 refine⟨fun h0=>?_,fun h0=>?_⟩
 ·refine wS ?_
  have hval:((C.lookup [r,a]).getD []).headD 0=e:=by
   obtain⟨v,hv⟩:=Option.isSome_iff_exists.1 h0
   rw[hv,hcv v hv]
   rfl
  refine⟨_,_,?_,rfl,C,K,hi,fun p hp=>hp,rfl⟩
  exact ZI
 ·refine wS ?_
  refine cL1 [0,1,2,3,4,5,6,7] (k) fun r h₂ hp=>?_
  (try simp only[Zd,Zc,Zf,Zb,Za hnt]at hp)
  obtain⟨rfl,C2,K2,hi2,hm2,_,rfl⟩:=hp
  refine wS ?_
  refine ZS (k2) (by first|rfl|(simp only[Zd,Zc,Zf,Zb,Za hnt];rfl)) fun r h₂ hp=>?_
  (try simp only[Zd,Zc,Zf,Zb,Za hnt]at hp)
  obtain⟨rfl,rfl⟩:=hp
  refine wS ?_
  rw[←hE]
  have q:=hput C2 K2 hi2 e rfl
  have hval:((List.lookup [r,a] (Y0 C2 [r,a] [e])).getD []).headD 0=e:=by rw[q.2];rfl
  refine⟨_,_,?_,rfl,Y0 C2 [r,a] [e],K2,q.1,hm2,rfl⟩
  exact ZI
theorem ZsX (t:Ze) (x:List Int) (hf:ZA t) (hx:Y4 t x) (n:Int)
  (ih:∀r a C K,StopIn (callsOf t) r a→0<a→2*(Zy (callsOf t) r a).arrive<n→TmInv t x C K→SC (fun _=>Tryz.prog) 177 [ZhX r a,.ptr 4 0,.ptr 0 0,.ptr 6 0,.ptr 1 0] (tmH (ZT t) (X1 x) C K) fun v h=>v= .int .i64 (fun _=>comes t x r a)∧∃C' K',TmInv t x C' K'∧(∀p∈K,p∈K')∧h=tmH (ZT t) (X1 x) C' K')
  (r a:Int) (C K:List (List Int×List Int)) (hs:StopIn (callsOf t) r a) (hn:2*(Zy (callsOf t) r a).depart+1<n+1) (hi:TmInv t x C K):
  SC (fun _=>Tryz.prog) 179 [ZhX r a,.ptr 5 0,.ptr 0 0,.ptr 7 0] (tmH (ZT t) (X1 x) C K) fun v h=>v=Zma (ZU t x r a).comes (ZU t x r a).ready (ZU t x r a).goes∧∃C' K',TmInv t x C' K'∧(∀p∈K,p∈K')∧([r,a],Zb6 (ZU t x r a))∈K'∧h=tmH (ZT t) (X1 x) C' K':=by
 obtain⟨nt,hnt⟩:=Zs
 have hin:=hs
 unfold StopIn at hin
 have hr4:=Jo hf.calls hs
 have hkv:=fun v=> @TmInv.kv t x C K hi r a v
 have hkm:∀v,K.lookup [r,a]=some v→([r,a],v)∈K:=fun v h=>ZaM h
 have hputK:=fun C' K' (h:TmInv t x C' K') v (e:Zb6 (ZU t x r a)=v)=>h.putK hs e
 have hb3:=hf.nn r a hs
 have hk1:=fun h:0<a=>ih r a C K hs h (by have:=hf.nn r a hs;omega) hi
 obtain⟨cm0,hcm0⟩:∃m,m=if 0<a then comes t x r a else 0:=⟨_,rfl⟩
 obtain⟨rd,hrd⟩:∃m,m=Ze4 (callsOf t) r a cm0:=⟨_,rfl⟩
 obtain⟨gf,hgf⟩:∃m,m=Zea t (comes t x) r a rd:=⟨_,rfl⟩
 obtain⟨cs,hcs⟩:∃m,m=if a=0 then gf else cm0:=⟨_,rfl⟩
 have hHeq:ZU t x r a=⟨cs,rd,gf⟩:=by
  rw[Zfw hf x hs,hcs,hgf,hrd,hcm0]
  rfl
 obtain⟨W,hW⟩:∃W:Int→Sp.Xo→Int,∀g w,W g w=if a=((Sp.Zo (callsOf t) r).length:Int)-1 then g else Zcb (callsOf t) (comes t x) r (Zy (callsOf t) r a) g w:=⟨_,fun _ _=>rfl⟩
 have hgf:gf=t.waits.foldl W rd:=by
  rw[hgf]
  unfold Zea
  split
  ·rename_i hl
   have h1:∀g w,W g w=g:=fun g w=>by rw[hW,if_pos hl]
   generalize t.waits=l
   induction l with
   |nil=>rfl
   |cons w l ih=>rw[List.foldl_cons,h1];exact ih
  ·rename_i hl
   exact Zbu _ _ fun w _ g=>by rw[hW,if_neg hl]
 have hwl:=hf.wlen
 have hwf:=fun w (hw:w∈t.waits)=>And.intro (JA hf hw) (And.intro (hf.w w hw).2.2.1 (And.intro (hf.w w hw).2.2.2.1 (hf.w w hw).2.2.2.2.1))
 have hwr:=fun w (hw:w∈t.waits)=>Jo hf.calls (JA hf hw)
 have hk3:=fun w (hw:w∈t.waits) (h1:w.train=r) (h2:w.station=(Zy (callsOf t) r a).station) (h3:a≠((Sp.Zo (callsOf t) r).length:Int)-1) C' K' (h:TmInv t x C' K')=>
  ih w.feeder (Qc (Sp.Zo (callsOf t) w.feeder) w.station) C' K' (JA hf hw) (by have:=(hf.w w hw).2.2.1;omega) (by have:=(hf.w w hw).2.2.2.2.2 a (by rw[h1];exact hs) (by rw[h1];exact h3) (by rw[h1];exact h2.symm);rw[h1]at this;omega) h
 unfold Ze4 at hrd
 unfold Zcb at hW
 unfold StopIn at hwf
 rw[hHeq]at hkv hputK⊢
 unfold Zb6 at hkv hputK⊢
 dsimp only at hkv hputK⊢
 simp only[JT hnt,ZhS hnt]at hin hr4 hb3 hrd hW hwf hwr hk3
 unfold tmH ZhX Zma X1 at*
 unfold ZT at*
 simp only[Za hnt,Zb]at*
 generalize hcc:callsOf t=c at*
 refine SC.less (Zsy false false [8,11] Tryz.func179 (body:=Zk Tryz.f179) rfl (by decide+kernel) ?_)
 refine wS ?_
 refine⟨fun h0=>?_,fun h0=>?_⟩
 ·refine wS ?_
  obtain⟨v,hv⟩:=Option.isSome_iff_exists.1 h0
  have hv2:=hkv v hv
  have hmem:=hkm v hv
  subst hv2
  simp only[hv]
  refine⟨_,_,?_,rfl,C,K,hi,fun p hp=>hp,hmem,rfl⟩
  exact ZI
 ·refine wS ?_
  refine Zsx false false [] 50 [1,2,3,4,5,8,9] (fun _=>[]) (fun p:List (List Int×List Int)×List (List Int×List Int)=>[(2,.gob (.mapL 2 0 fun _=>p.1)),(3,.gob (.mapL 2 3 fun _=>p.2)),(12,.cells [.int .i64 fun _=>cm0,.int .i64 fun _=>0,.int .i64 fun _=>0])]) (fun p=>TmInv t x p.1 p.2∧∀q∈K,q∈p.2) (fun _ _ h=>h) (by decide) ?_ ?_
  ·refine wS ?_
   refine⟨fun h1=>?_,fun h1=>?_⟩
   ·have h1:=of_decide_eq_true h1
    have k:=hk1 h1
    rw[if_pos h1]at hcm0
    rw[←hcm0]at k
    refine wS ?_
    refine cL1 [0,1,2,3,4,5,6,7] (k) fun r h₂ hp=>?_
    (try simp only[Zd,Zc,Zf,Zb,Za hnt]at hp)
    obtain⟨rfl,C2,K2,hi2,hm2,rfl⟩:=hp
    refine wS ?_
    refine⟨(C2,K2),⟨hi2,hm2⟩,?_⟩
    exact ZI
   ·have h1:=of_decide_eq_false h1
    rw[if_neg h1]at hcm0
    subst hcm0
    refine wS ?_
    refine⟨(C,K),⟨hi,fun _ h=>h⟩,?_⟩
    exact ZI
  intro p hh
  refine wS ?_
  obtain⟨C1,K1⟩:=p
  obtain⟨hi1,hm1⟩:=hh
  refine Zsx false false [] 40 [1,2,3,4,5,8,9] (fun _:Unit=>[]) (fun _=>[(12,.cells [.int .i64 fun _=>cm0,.int .i64 fun _=>rd,.int .i64 fun _=>0])]) (fun _=>True) (fun _ _ h=>h) (by decide) ?_ ?_
  ·refine wS ?_
   refine⟨fun h2=>?_,fun h2=>?_⟩
   ·have h2:=eq_of_beq h2
    rw[if_pos h2]at hrd
    subst hrd
    refine wS ?_
    refine⟨(),trivial,?_⟩
    exact ZI
   ·have h2:=ne_of_beq_false h2
    rw[if_neg h2,Int.max_def]at hrd
    refine wS ?_
    refine⟨(),trivial,?_⟩
    exact ZI
  intro _ _
  refine wS ?_
  refine Zai fun Q hQ=>?_
  refine ZV false false [] [1,2,3,4,5,8,9,69,70,71] [] (fun p:Nat×(List (List Int×List Int)×List (List Int×List Int))×Int=>[(71,.int .i64 fun _=>(p.1:Int))]) (fun p=>[(2,.gob (.mapL 2 0 fun _=>p.2.1.1)),(3,.gob (.mapL 2 3 fun _=>p.2.1.2)),(12,.cells [.int .i64 fun _=>cm0,.int .i64 fun _=>rd,.int .i64 fun _=>p.2.2])])
   (fun p=>p.1≤t.waits.length∧TmInv t x p.2.1.1 p.2.1.2∧(∀q∈K,q∈p.2.1.2)∧gf=(t.waits.drop p.1).foldl W p.2.2) (fun p=>t.waits.length-p.1+0) (0,(C1,K1),rd) ⟨by omega,hi1,hm1,hgf⟩ ?_ ?_
  ·exact ZI
  intro p hh
  refine wS ?_
  have hil:=hh.1
  have hi2:=hh.2.1
  have hm2:=hh.2.2.1
  have hp:=hh.2.2.2
  clear hh
  refine⟨fun hb=>?_,fun hb=>?_⟩
  case refine_2=>
   simp only[decide_eq_false_iff_not]at hb
   rw[List.drop_eq_nil_of_le (by omega),List.foldl_nil]at hp
   subst hp
   refine wS ?_
   refine hQ _ _ _ ?_
   refine wS ?_
   refine⟨fun h5=>?_,fun h5=>?_⟩
   ·have h5:a=0:=eq_of_beq h5
    rw[if_pos h5]at hcs
    have q:=hputK p.2.1.1 p.2.1.2 hi2 _ rfl
    refine wS ?_
    refine⟨_,_,?_,rfl,p.2.1.1,Y0 p.2.1.2 [r,a] [cs,rd,p.2.2],q.1,fun z hz=>q.2.1 z (hm2 z hz),q.2.2,rfl⟩
    refine toR ?_
    rw[hcs]
    exact ZL.refl _
   ·have h5:a≠0:=ne_of_beq_false h5
    rw[if_neg h5]at hcs
    have q:=hputK p.2.1.1 p.2.1.2 hi2 _ rfl
    refine wS ?_
    refine⟨_,_,?_,rfl,p.2.1.1,Y0 p.2.1.2 [r,a] [cs,rd,p.2.2],q.1,fun z hz=>q.2.1 z (hm2 z hz),q.2.2,rfl⟩
    refine toR ?_
    rw[hcs]
    exact ZL.refl _
  simp only[decide_eq_true_eq]at hb
  have hdr:=Qu (d:=default) hnt (l:=t.waits) (i:=p.1) (by omega)
  rw[hdr,List.foldl_cons]at hp
  have hmem:nt Sp.Xo default t.waits p.1∈t.waits:=XF hnt (by omega)
  have hw1:=hwf _ hmem
  have hw2:=hwr _ hmem
  have hw3:=hk3 _ hmem
  have hw4:=hW p.2.2 (nt Sp.Xo default t.waits p.1)
  generalize hd:nt Sp.Xo default t.waits p.1=w at*
  refine vS ?_
  simp only[hd]
  refine Chk.mk (Qa) ?_
  generalize hL:((nt (List Sp.Call) [] c r).length:Int)-1=L at*
  generalize hX:(nt Sp.Call default (nt (List Sp.Call) [] c r) a).station=X at*
  refine⟨fun h3=>?_,fun h3=>?_⟩
  ·have hk:W p.2.2 w=p.2.2:=by
    rw[hw4]
    by_cases e3:a=L
    ·rw[if_pos e3]
    ·rw[if_neg e3]
     by_cases e1:w.train=r
     ·by_cases e2:w.station=X
      ·simp[e1,e2,e3]at h3
      ·rw[if_pos (.inr e2)]
     ·rw[if_pos (.inl e1)]
   rw[hk]at hp
   refine wS ?_
   refine⟨(p.1+1,p.2),⟨by show p.1+1≤_;omega,hi2,hm2,hp⟩,by show t.waits.length-(p.1+1)+0<t.waits.length-p.1+0;omega,?_⟩
   exact ZI
  have q:w.train=r∧w.station=X∧a≠L:=by
   by_cases e1:w.train=r
   ·by_cases e2:w.station=X
    ·by_cases e3:a=L
     ·simp[e1,e2,e3]at h3
     ·exact⟨e1,e2,e3⟩
    ·simp[e1,e2]at h3
   ·simp[e1]at h3
  have k3:=hw3 q.1 q.2.1 q.2.2 _ _ hi2
  rw[if_neg q.2.2,if_neg (by omega)]at hw4
  clear hw3
  generalize hF:nt (List Sp.Call) [] c w.feeder=F at*
  have k395:=ZsF F w.station (by omega)
  simp only[Za hnt]at k395
  generalize Qc F w.station=f at*
  generalize comes t x w.feeder f=cmv at*
  refine vS ?_
  try simp only[hd,hF]
  try refine Chk.mk (Qa) ?_
  refine ZS (k395) (by first|rfl|(simp only[Zd,Zc,Zf,Zb,Za hnt];rfl)) fun r h₂ hp=>?_
  (try simp only[Zd,Zc,Zf,Zb,Za hnt]at hp)
  obtain⟨rfl,rfl⟩:=hp
  refine vS ?_
  try simp only[hd,hF]
  try refine Chk.mk (Qa) ?_
  refine cL1 [0,1,2,3,4,5,6,7] (k3) fun r h₂ hp=>?_
  (try simp only[Zd,Zc,Zf,Zb,Za hnt]at hp)
  obtain⟨rfl,C3,K3,hi3,hm3,rfl⟩:=hp
  refine vS ?_
  try simp only[hd,hF]
  try refine Chk.mk (Qa) ?_
  refine⟨fun h4=>?_,fun h4=>?_⟩
  ·have h4:=of_decide_eq_true h4
   rw[if_pos h4,Int.max_def]at hw4
   rw[hw4]at hp
   generalize hg2:(if p.2.2≤cmv then cmv else p.2.2)=g2 at*
   have hg3:(if p.2.2<cmv then cmv else p.2.2)=g2:=by rw[←hg2];split<;>split<;>omega
   refine wS ?_
   refine⟨(p.1+1,(C3,K3),g2),⟨by show p.1+1≤_;omega,hi3,fun z hz=>hm3 z (hm2 z hz),hp⟩,by show t.waits.length-(p.1+1)+0<t.waits.length-p.1+0;omega,?_⟩
   exact ZI
  ·have h4:=of_decide_eq_false h4
   rw[if_neg h4]at hw4
   rw[hw4]at hp
   refine wS ?_
   refine⟨(p.1+1,(C3,K3),p.2.2),⟨by show p.1+1≤_;omega,hi3,fun z hz=>hm3 z (hm2 z hz),hp⟩,by show t.waits.length-(p.1+1)+0<t.waits.length-p.1+0;omega,?_⟩
   exact ZI
theorem ZqX (t:Ze) (x:List Int) (hf:ZA t) (hx:Y4 t x):∀n:Nat,
  (∀r a C K,StopIn (callsOf t) r a→0<a→2*(Zy (callsOf t) r a).arrive<n→TmInv t x C K→SC (fun _=>Tryz.prog) 177 [ZhX r a,.ptr 4 0,.ptr 0 0,.ptr 6 0,.ptr 1 0] (tmH (ZT t) (X1 x) C K) fun v h=>v= .int .i64 (fun _=>comes t x r a)∧∃C' K',TmInv t x C' K'∧(∀p∈K,p∈K')∧h=tmH (ZT t) (X1 x) C' K')∧
  (∀r a C K,StopIn (callsOf t) r a→2*(Zy (callsOf t) r a).depart+1<n→TmInv t x C K→SC (fun _=>Tryz.prog) 179 [ZhX r a,.ptr 5 0,.ptr 0 0,.ptr 7 0] (tmH (ZT t) (X1 x) C K) fun v h=>v=Zma (ZU t x r a).comes (ZU t x r a).ready (ZU t x r a).goes∧∃C' K',TmInv t x C' K'∧(∀p∈K,p∈K')∧([r,a],Zb6 (ZU t x r a))∈K'∧h=tmH (ZT t) (X1 x) C' K')
 |0=>⟨fun r a C K hs _ hn=>by have:=hf.nn r a hs;omega,fun r a C K hs hn=>by have:=hf.nn r a hs;omega⟩
 |n+1=>by
  have ih:=ZqX t x hf hx n
  exact⟨fun r a C K hs ha hn hi=>ZsY t x hf hx n ih.2 r a C K hs ha (by omega) hi,fun r a C K hs hn hi=>ZsX t x hf hx n ih.1 r a C K hs (by omega) hi⟩
theorem ZtM (t:Ze) (x:List Int) (hf:ZA t) (hx:Y4 t x):SC (fun _=>Tryz.prog) 137 [.iptr (ZT t) 0,.agg (X1 x)] [] fun v h=>v= .imap 2 3 (fun _=>Qe t x)∧h=[]:=by
 obtain⟨nt,hnt⟩:=Zs
 have k:=fun r a C K (hs:StopIn (callsOf t) r a) (hi:TmInv t x C K)=>(ZqX t x hf hx (2*(Zy (callsOf t) r a).depart+2).toNat).2 r a C K hs (by have:=hf.nn r a hs;omega) hi
 have hperm:=fun C K (h:TmInv t x C K)=>h.perm
 have h0:TmInv t x [] []:=⟨fun p h=>(by cases h),fun p h=>(by cases h),.nil,.nil⟩
 have hlen:=hf.calls.len
 have hrow:=fun r a (hs:StopIn (callsOf t) r a)=>Jo hf.calls hs
 have hrl:∀r,0≤r→r<(callsOf t).length→2≤(Sp.Zo (callsOf t) r).length∧(Sp.Zo (callsOf t) r).length≤4:=fun r h1 h2=>hf.calls.row _ (by
  unfold Sp.Zo
  rw[List.getD_eq_getElem?_getD,List.getElem?_eq_getElem (by omega)]
  exact List.getElem_mem _)
 unfold StopIn at*
 simp only[JT hnt]at*
 generalize hG:Qe t x=G at*
 generalize hHH:ZU t x=HH at*
 unfold tmH ZhX Zma X1 at*
 unfold ZT at*
 simp only[Za hnt,Zb]at*
 generalize hcc:callsOf t=c at*
 refine SC.less (QP Tryz.func137 (body:=Zk Tryz.f137) rfl (by decide+kernel) ?_)
 refine wS ?_
 refine ZV false false [] [6,7,19,20,21] [] (fun p:Nat×List (List Int×List Int)×List (List Int×List Int)=>[(21,.int .i64 fun _=>(p.1:Int))]) (fun p=>[(2,.gob (.mapL 2 0 fun _=>p.2.1)),(3,.gob (.mapL 2 3 fun _=>p.2.2))])
  (fun p=>p.1≤c.length∧TmInv t x p.2.1 p.2.2∧∀r a:Int,0≤r→r<p.1→0≤a→a<(nt (List Sp.Call) [] c r).length→([r,a],Zb6 (HH r a))∈p.2.2) (fun p=>c.length-p.1+0) (0,[],[]) ⟨by omega,h0,fun r a h1 h2=>by simp at h2;omega⟩ ?_ ?_
 ·exact ZI
 intro p hh
 refine wS ?_
 have hil:=hh.1
 have hi1:=hh.2.1
 have hm1:=hh.2.2
 clear hh
 refine⟨fun hb=>?_,fun hb=>?_⟩
 case refine_2=>
  simp only[decide_eq_false_iff_not]at hb
  refine wS ?_
  have hp:=hperm p.2.1 p.2.2 hi1 fun r a h=>hm1 r a h.1 (by omega) h.2.2.1 h.2.2.2
  refine⟨_,[],?_,rfl,rfl⟩
  refine toR ?_
  exact ZD.imap hp
 simp only[decide_eq_true_eq]at hb
 have hlr:=hrl p.1 (by omega) (by omega)
 refine wS ?_
 refine Zai fun Q hQ=>?_
 refine ZV false false [] [6,7,9,19,20,21,27,28] [] (fun q:Nat×List (List Int×List Int)×List (List Int×List Int)=>[(28,.int .i64 fun _=>(q.1:Int))]) (fun q=>[(2,.gob (.mapL 2 0 fun _=>q.2.1)),(3,.gob (.mapL 2 3 fun _=>q.2.2))])
  (fun q=>q.1≤(nt (List Sp.Call) [] c p.1).length∧TmInv t x q.2.1 q.2.2∧(∀z∈p.2.2,z∈q.2.2)∧∀a:Int,0≤a→a<q.1→([(p.1:Int),a],Zb6 (HH p.1 a))∈q.2.2) (fun q=>(nt (List Sp.Call) [] c p.1).length-q.1+0) (0,p.2) ⟨by omega,hi1,fun _ h=>h,fun a h1 h2=>by simp at h2;omega⟩ ?_ ?_
 ·exact ZI
 intro q hh
 refine wS ?_
 have hjl:=hh.1
 have hi2:=hh.2.1
 have hm2:=hh.2.2.1
 have hn2:=hh.2.2.2
 clear hh
 refine⟨fun hb2=>?_,fun hb2=>?_⟩
 case refine_2=>
  simp only[decide_eq_false_iff_not]at hb2
  refine wS ?_
  refine hQ _ _ _ ?_
  refine wS ?_
  refine⟨(p.1+1,q.2),⟨by show p.1+1≤_;omega,hi2,fun r a h1 h2 h3 h4=>?_⟩,by show c.length-(p.1+1)+0<c.length-p.1+0;omega,?_⟩
  ·by_cases he:r=p.1
   ·subst he
    exact hn2 a h3 (by omega)
   ·exact hm2 _ (hm1 r a h1 (by have:r<((p.1+1:Nat):Int):=h2;omega) h3 h4)
  exact ZI
 simp only[decide_eq_true_eq]at hb2
 have k2:=k p.1 q.1 _ _ ⟨by omega,by omega,by omega,by omega⟩ hi2
 refine wS ?_
 refine cL1 [0,1,2,3,4,5,6,7] (k2) fun r h₂ hp=>?_
 (try simp only[Zd,Zc,Zf,Zb,Za hnt]at hp)
 obtain⟨rfl,C3,K3,hi3,hm3,hn3,rfl⟩:=hp
 refine wS ?_
 refine⟨(q.1+1,C3,K3),⟨by show q.1+1≤_;omega,hi3,fun z hz=>hm3 z (hm2 z hz),fun a h1 h2=>?_⟩,by show(nt (List Sp.Call) [] c p.1).length-(q.1+1)+0<(nt (List Sp.Call) [] c p.1).length-q.1+0;omega,?_⟩
 ·by_cases he:a=q.1
  ·subst he
   exact hn3
  ·exact hm3 _ (hn2 a h1 (by have:a<((q.1+1:Nat):Int):=h2;omega))
 exact ZI
def XM (t:Ze):AV:=.iptr [.iptr (ZT t) 0] 0
theorem Z0 {x:List Int} {e v:Int} {k j:Nat} (he:e=k) (hk:k<x.length):(bif decide (e=(j:Int))then v else x.getD j 0)=(x.set k v).getD j 0:=by
 subst he
 by_cases h:k=j
 ·subst h
  rw[List.getD_eq_getElem?_getD (l:=x.set k v),List.getElem?_set_self hk]
  simp
 ·rw[List.getD_eq_getElem?_getD (l:=x.set k v),List.getElem?_set_ne h,←List.getD_eq_getElem?_getD,decide_eq_false (by omega)]
  rfl
theorem ZuD (t:Ze) (hf:ZA t) (B0 B1 B2 B3 B4 B5 B6 B7:Nat→Zi) (stop:Nat→Bool)
  (hs:∀i X,sel true [0,1,2,3,4,5,6,7] [B0 i,B1 i,B2 i,B3 i,B4 i,B5 i,B6 i,B7 i,X]=[B0 i,B1 i,B2 i,B3 i,B4 i,B5 i,B6 i,B7 i])
  (hs6:∀i (f0 f1 f2 f3 f4 f5:Unit→Int),sel true [0,1,2,3,4,5,6,7,8] [B0 i,B1 i,B2 i,B3 i,B4 i,B5 i,B6 i,B7 i,.cells [.int .i64 f0,.int .i64 f1,.int .i64 f2,.int .i64 f3,.int .i64 f4,.int .i64 f5]]=[B0 i,B1 i,B2 i,B3 i,B4 i,B5 i,B6 i,B7 i,.cells [.int .i64 f0,.int .i64 f1,.int .i64 f2,.int .i64 f3,.int .i64 f4,.int .i64 f5]])
  (hfr:∀i X,sel false [0,1,2,3,4,5,6,7] [B0 i,B1 i,B2 i,B3 i,B4 i,B5 i,B6 i,B7 i,X]=[B0 i,B1 i,B2 i,B3 i,B4 i,B5 i,B6 i,B7 i])
  (hbk:∀i j X,back [0,1,2,3,4,5,6,7] [B0 i,B1 i,B2 i,B3 i,B4 i,B5 i,B6 i,B7 i,X] [B0 j,B1 j,B2 j,B3 j,B4 j,B5 j,B6 j,B7 j]=[B0 j,B1 j,B2 j,B3 j,B4 j,B5 j,B6 j,B7 j,X])
  (hy:∀i,i<ZO t→(∀j,j<i→stop j=false)→YC (fun _=>Tryz.prog) 7 [.agg (X1 (Zj t i))] [B0 i,B1 i,B2 i,B3 i,B4 i,B5 i,B6 i,B7 i] fun v h=>v= .bool (fun _=> !stop i)∧h=[B0 (i+1),B1 (i+1),B2 (i+1),B3 (i+1),B4 (i+1),B5 (i+1),B6 (i+1),B7 (i+1)])
  (hB:zOk [B0 0,B1 0,B2 0,B3 0,B4 0,B5 0,B6 0,B7 0]=true:=by rfl):
  SC (fun _=>Tryz.prog) 176 [.yld 7,XM t] [B0 0,B1 0,B2 0,B3 0,B4 0,B5 0,B6 0,B7 0] fun v h=>∃m,EndAt stop (ZO t) m∧h=[B0 m,B1 m,B2 m,B3 m,B4 m,B5 m,B6 m,B7 m]:=by
 obtain⟨nt,hnt⟩:=Zs
 have hfit:=Xq hf
 have hnext:=fun n=> @ZcC t hf n
 have hmany:=ZcQ hf
 have hd6:=hf.dlen
 have hd0:=ZcB hf
 have hlen3:∀k,k<t.delays.length→lenAt t.delays k≤3:=fun k h=>by
  unfold lenAt
  rw[List.getD_eq_getElem?_getD,List.getElem?_eq_getElem h]
  exact(hf.d _ (List.getElem_mem h)).2.1
 have hnd:∀k:Nat,(nt Sp.Qn default t.delays (k:Int)).by_.length=lenAt t.delays k:=fun k=>by rw[hnt];rfl
 have hbd:∀n k,0≤(Zj t n).getD k 0∧(Zj t n).getD k 0≤3:=fun n k=>by
  by_cases h:k<t.delays.length
  ·have h1:=(hfit n).d k h
   have h2:=hlen3 k h
   unfold lenAt at h2
   omega
  ·have:=Zam (ds:=t.delays) t.delays.length n k (by omega)
   unfold Zj
   omega
 generalize ZO t=N at*
 generalize Zj t=TA at*
 unfold XM ZT
 simp only[Za hnt,Zb,ZE]
 refine QP Tryz.func176 (body:=Zk Tryz.f176) rfl (by decide+kernel) ?_ hB
 refine wS ?_
 refine ZV false false [] [0,1,3] [] (fun(i:Nat)=>[]) (fun i=>[(0,B0 i),(1,B1 i),(2,B2 i),(3,B3 i),(4,B4 i),(5,B5 i),(6,B6 i),(7,B7 i),(8,.cells (X1 (TA i)))]) (fun i=>i<N∧∀j,j<i→stop j=false) (fun i=>N-i+0) 0 ⟨by omega,fun j h=>by omega⟩ ?_ ?_
 ·unfold X1
  rw[hd0]
  have hs':=hs6 0 (fun _=>0) (fun _=>0) (fun _=>0) (fun _=>0) (fun _=>0) (fun _=>0)
  cbv at hs'
  simp only[List.cons.injEq,and_true]at hs'
  obtain⟨e0,e1,e2,e3,e4,e5,e6,e7⟩:=hs'
  (refine To.of [] ?_;cbv;(try simp only[nc]);(repeat' (first|exact trivial|exact ZD.refl _|exact ZL.refl _|refine⟨?_,?_⟩|refine ZL.cells ?_|refine ZD.agg ?_|refine ZD.tup ?_));(all_goals (first|exact X9|skip)))
  all_goals first|(rw[e0];exact ZL.refl _)|(rw[e1];exact ZL.refl _)|(rw[e2];exact ZL.refl _)|(rw[e3];exact ZL.refl _)|(rw[e4];exact ZL.refl _)|(rw[e5];exact ZL.refl _)|(rw[e6];exact ZL.refl _)|(rw[e7];exact ZL.refl _)
 intro i hh
 unfold X1 at*
 refine wS ?_
 have hi:=hh.1
 have hno:=hh.2
 have hni:=hnext i hi
 refine YC.frameB [0,1,2,3,4,5,6,7] (by decide) (by simp) rfl rfl (hfr i _) (hy i hi hno) (hbk i (i+1) _) ?_
 refine wS ?_
 refine⟨fun hst=>?_,fun hst=>?_⟩
 ·have hst:stop i=true:=by simpa using hst
  have hs':=fun X=>hs (i+1) X
  refine wS ?_
  refine⟨i+1,.inr ⟨i,rfl,hi,hst,hno⟩,?_⟩
  have hs':=hs' (.cells [.int .i64 fun _=>(TA i).getD 0 0,.int .i64 fun _=>(TA i).getD 1 0,.int .i64 fun _=>(TA i).getD 2 0,.int .i64 fun _=>(TA i).getD 3 0,.int .i64 fun _=>(TA i).getD 4 0,.int .i64 fun _=>(TA i).getD 5 0])
  cbv at hs'
  simp only[List.cons.injEq,and_true]at hs'⊢
  exact hs'
 have hst:stop i=false:=by simpa using hst
 refine wS ?_
 refine Zai fun Q hQ=>?_
 refine ZV false false [] [0,1,3,4] [] (fun p:Nat×List Int=>[(4,.int .i64 fun _=>(p.1:Int)-1)]) (fun p=>[(8,.cells [.int .i64 fun _=>p.2.getD 0 0,.int .i64 fun _=>p.2.getD 1 0,.int .i64 fun _=>p.2.getD 2 0,.int .i64 fun _=>p.2.getD 3 0,.int .i64 fun _=>p.2.getD 4 0,.int .i64 fun _=>p.2.getD 5 0])])
  (fun p=>p.1≤t.delays.length∧p.2.length=6∧(∀k,0≤p.2.getD k 0∧p.2.getD k 0≤3)∧Sp.stepT t.delays t.delays.length (TA i)=Sp.stepT t.delays p.1 p.2) (fun p=>p.1+0) (t.delays.length,TA i) ⟨Nat.le_refl _,(hfit i).len,hbd i,rfl⟩ ?_ ?_
 ·exact ZI
 intro p hp
 refine vS ?_
 have hm:=hp.1
 have hyl:=hp.2.1
 have hyb:=hp.2.2.1
 have hst2:=hp.2.2.2
 clear hp
 by_cases h0:p.1=0
 ·rw[h0,Sp.stepT]at hst2
  rw[hst2]at hni
  have hend:¬i+1<N:=fun h=>by rw[if_pos h]at hni;cases hni
  refine Chk.mk (Qa) ?_
  refine Br.isF (by show(bif decide (0≤(p.1:Int)-1)then _ else false)=false;rw[decide_eq_false (by omega)];rfl) ?_
  refine wS ?_
  refine hQ _ _ _ ?_
  refine wS ?_
  refine Br.isT (decide_eq_true (by show(p.1:Int)-1<0;omega)) ?_
  refine wS ?_
  have hs':=hs (i+1) (.cells [.int .i64 fun _=>p.2.getD 0 0,.int .i64 fun _=>p.2.getD 1 0,.int .i64 fun _=>p.2.getD 2 0,.int .i64 fun _=>p.2.getD 3 0,.int .i64 fun _=>p.2.getD 4 0,.int .i64 fun _=>p.2.getD 5 0])
  cbv at hs'
  simp only[List.cons.injEq,and_true]at hs'
  refine⟨i+1,.inl ⟨by omega,fun j hj=>?_⟩,?_⟩
  ·by_cases h:j=i
   ·rw[h];exact hst
   ·exact hno j (by omega)
  ·simp only[List.cons.injEq,and_true]
   exact hs'
 obtain⟨k,hk⟩:∃k,p.1=k+1:=⟨p.1-1,by omega⟩
 have e1:=Zeu (x:=p.2) (e:=(p.1:Int)-1) (i:=k) (by omega) (by omega)
 have e2:(nt Sp.Qn default t.delays ((p.1:Int)-1)).by_.length=lenAt t.delays k:=by rw[show(p.1:Int)-1=(k:Int) by omega];exact hnd k
 have hl3:=hlen3 k (by omega)
 have hybk:=hyb k
 refine Chk.mk (Qa) ?_
 refine⟨fun h1=>?_,fun h1=>?_⟩
 ·have h1:p.2.getD k 0=(lenAt t.delays k:Int)-1:=by
   rw[decide_eq_true (by omega),e1,e2]at h1
   exact eq_of_beq h1
  rw[hk,Sp.stepT,if_pos h1]at hst2
  refine wS ?_
  refine⟨(k,p.2.set k 0),⟨by show k≤_;omega,by show(p.2.set k 0).length=6;rw[List.length_set];exact hyl,fun j=>?_,hst2⟩,by show k+0<p.1+0;omega,?_⟩
  ·show 0≤(p.2.set k 0).getD j 0∧(p.2.set k 0).getD j 0≤3
   rw[←Z0 (e:=(k:Int)) rfl (by omega)]
   have:=hyb j
   cases decide ((k:Int)=j)
   ·exact this
   ·exact⟨Int.le_refl _,by show(0:Int)≤3;decide⟩
  have g0:=Z0 (x:=p.2) (e:=(p.1:Int)-1) (k:=k) (j:=0) (v:=0) (by omega) (by omega)
  have g1:=Z0 (x:=p.2) (e:=(p.1:Int)-1) (k:=k) (j:=1) (v:=0) (by omega) (by omega)
  have g2:=Z0 (x:=p.2) (e:=(p.1:Int)-1) (k:=k) (j:=2) (v:=0) (by omega) (by omega)
  have g3:=Z0 (x:=p.2) (e:=(p.1:Int)-1) (k:=k) (j:=3) (v:=0) (by omega) (by omega)
  have g4:=Z0 (x:=p.2) (e:=(p.1:Int)-1) (k:=k) (j:=4) (v:=0) (by omega) (by omega)
  have g5:=Z0 (x:=p.2) (e:=(p.1:Int)-1) (k:=k) (j:=5) (v:=0) (by omega) (by omega)
  have hs':=hs6 (i+1) (fun _=>bif decide ((p.1:Int)-1=((0:Nat):Int))then 0 else p.2.getD 0 0) (fun _=>bif decide ((p.1:Int)-1=((1:Nat):Int))then 0 else p.2.getD 1 0) (fun _=>bif decide ((p.1:Int)-1=((2:Nat):Int))then 0 else p.2.getD 2 0) (fun _=>bif decide ((p.1:Int)-1=((3:Nat):Int))then 0 else p.2.getD 3 0) (fun _=>bif decide ((p.1:Int)-1=((4:Nat):Int))then 0 else p.2.getD 4 0) (fun _=>bif decide ((p.1:Int)-1=((5:Nat):Int))then 0 else p.2.getD 5 0)
  cbv at hs'
  simp only[List.cons.injEq,and_true]at hs'
  obtain⟨e3,e4,e5,e6,e7,e8,e9,e10⟩:=hs'
  (refine To.of [] ?_;cbv;(try simp only[nc]);(repeat' (first|exact trivial|exact ZD.refl _|exact ZL.refl _|refine⟨?_,?_⟩|refine ZL.cells ?_|refine ZD.agg ?_|refine ZD.tup ?_));(all_goals (first|exact X9|skip)))
  all_goals first|(rw[e3];exact ZL.refl _)|(rw[e4];exact ZL.refl _)|(rw[e5];exact ZL.refl _)|(rw[e6];exact ZL.refl _)|(rw[e7];exact ZL.refl _)|(rw[e8];exact ZL.refl _)|(rw[e9];exact ZL.refl _)|(rw[e10];exact ZL.refl _)
 ·have h1:p.2.getD k 0≠(lenAt t.delays k:Int)-1:=by
   rw[decide_eq_true (by omega),e1,e2]at h1
   exact ne_of_beq_false h1
  rw[hk,Sp.stepT,if_neg h1]at hst2
  rw[hst2]at hni
  have hlt:i+1<N:=by
   by_cases h:i+1<N
   ·exact h
   ·rw[if_neg h]at hni;cases hni
  rw[if_pos hlt]at hni
  have hni:=Option.some.inj hni
  refine wS ?_
  refine hQ _ _ _ ?_
  refine wS ?_
  refine Br.isF (decide_eq_false (by show¬(p.1:Int)-1<0;omega)) ?_
  refine vS ?_
  simp only[e1]
  refine Chk.mk (Qa) ?_
  have hs':=hs6 (i+1) (fun _=>bif decide ((p.1:Int)-1=((0:Nat):Int))then p.2.getD k 0+1 else p.2.getD 0 0) (fun _=>bif decide ((p.1:Int)-1=((1:Nat):Int))then p.2.getD k 0+1 else p.2.getD 1 0) (fun _=>bif decide ((p.1:Int)-1=((2:Nat):Int))then p.2.getD k 0+1 else p.2.getD 2 0) (fun _=>bif decide ((p.1:Int)-1=((3:Nat):Int))then p.2.getD k 0+1 else p.2.getD 3 0) (fun _=>bif decide ((p.1:Int)-1=((4:Nat):Int))then p.2.getD k 0+1 else p.2.getD 4 0) (fun _=>bif decide ((p.1:Int)-1=((5:Nat):Int))then p.2.getD k 0+1 else p.2.getD 5 0)
  cbv at hs'
  simp only[List.cons.injEq,and_true]at hs'
  obtain⟨e3,e4,e5,e6,e7,e8,e9,e10⟩:=hs'
  refine⟨i+1,⟨hlt,fun j hj=>?_⟩,by show N-(i+1)+0<N-i+0;omega,?_⟩
  ·by_cases h:j=i
   ·rw[h];exact hst
   ·exact hno j (by omega)
  rw[←hni]
  have g0:=Z0 (x:=p.2) (e:=(p.1:Int)-1) (k:=k) (j:=0) (v:=p.2.getD k 0+1) (by omega) (by omega)
  have g1:=Z0 (x:=p.2) (e:=(p.1:Int)-1) (k:=k) (j:=1) (v:=p.2.getD k 0+1) (by omega) (by omega)
  have g2:=Z0 (x:=p.2) (e:=(p.1:Int)-1) (k:=k) (j:=2) (v:=p.2.getD k 0+1) (by omega) (by omega)
  have g3:=Z0 (x:=p.2) (e:=(p.1:Int)-1) (k:=k) (j:=3) (v:=p.2.getD k 0+1) (by omega) (by omega)
  have g4:=Z0 (x:=p.2) (e:=(p.1:Int)-1) (k:=k) (j:=4) (v:=p.2.getD k 0+1) (by omega) (by omega)
  have g5:=Z0 (x:=p.2) (e:=(p.1:Int)-1) (k:=k) (j:=5) (v:=p.2.getD k 0+1) (by omega) (by omega)
  (refine To.of [] ?_;cbv;(try simp only[nc]);(repeat' (first|exact trivial|exact ZD.refl _|exact ZL.refl _|refine⟨?_,?_⟩|refine ZL.cells ?_|refine ZD.agg ?_|refine ZD.tup ?_));(all_goals (first|exact X9|skip)))
  all_goals first|(rw[e3];exact ZL.refl _)|(rw[e4];exact ZL.refl _)|(rw[e5];exact ZL.refl _)|(rw[e6];exact ZL.refl _)|(rw[e7];exact ZL.refl _)|(rw[e8];exact ZL.refl _)|(rw[e9];exact ZL.refl _)|(rw[e10];exact ZL.refl _)
def ZrQ:Zi→Bool
 |_=>true
structure Ql (n:Nat) (B:Zi):Prop where
 s:∀fz ι h,(∀j,j<n→Qk j ι 0=some j)→ZK fz ι h B=B
 r:∀φ:Nat→Nat,(∀j,j<n→φ j=j)→Q9 φ B=B
 z:ZrQ B=true
theorem Ql.mono {n m:Nat} {B:Zi} (h:Ql n B) (hn:n≤m):Ql m B:=⟨fun fz ι k hp=>h.s fz ι k fun j hj=>hp j (by omega),fun φ hp=>h.r φ fun j hj=>hp j (by omega),h.z⟩
theorem Ql.wk {n N k:Nat} {B:Zi} (h:Ql n B) {fz:Bool} {ι:List Nat} {H:List Zi} (hp:∀j,j<n→Qk j ι 0=some j):ZL N k (ZK fz ι H B) B:=by
 rw[h.s _ _ _ hp]
 exact ZL.refl _
theorem Zc9 {h:List Zi} (_:∀b∈h,ZrQ b=true):zOk h=true:=rfl
theorem ZtL (t:Ze) (hf:ZA t) (B0 B1 B2 B3 B4 B5 B6 B7:Nat→Zi) (stop:Nat→Bool)
  (h0:∀i,Ql 8 (B0 i)) (h1:∀i,Ql 8 (B1 i)) (h2:∀i,Ql 8 (B2 i)) (h3:∀i,Ql 8 (B3 i)) (h4:∀i,Ql 8 (B4 i)) (h5:∀i,Ql 8 (B5 i)) (h6:∀i,Ql 8 (B6 i)) (h7:∀i,Ql 8 (B7 i))
  (hy:∀i,i<ZO t→(∀j,j<i→stop j=false)→YC (fun _=>Tryz.prog) 7 [.agg (X1 (Zj t i))] [B0 i,B1 i,B2 i,B3 i,B4 i,B5 i,B6 i,B7 i] fun v h=>v= .bool (fun _=> !stop i)∧h=[B0 (i+1),B1 (i+1),B2 (i+1),B3 (i+1),B4 (i+1),B5 (i+1),B6 (i+1),B7 (i+1)]):
  SC (fun _=>Tryz.prog) 176 [.yld 7,XM t] [B0 0,B1 0,B2 0,B3 0,B4 0,B5 0,B6 0,B7 0] fun v h=>∃m,EndAt stop (ZO t) m∧h=[B0 m,B1 m,B2 m,B3 m,B4 m,B5 m,B6 m,B7 m]:=by
 have p6:∀j,j<8→Qk j [0,1,2,3,4,5,6,7] 0=some j:=by decide
 have p7:∀j,j<8→Qk j [0,1,2,3,4,5,6,7,8] 0=some j:=by decide
 have f7:∀j,j<8→YK [0,1,2,3,4,5,6,7] 9 j=j:=by decide
 refine ZuD t hf B0 B1 B2 B3 B4 B5 B6 B7 stop (fun i X=>?_) (fun i f0 f1 f2 f3 f4 f5=>?_) (fun i X=>?_) (fun i j X=>?_) hy (Zc9 fun b hb=>?_)
 ·show [ZK true _ _ (B0 i),ZK true _ _ (B1 i),ZK true _ _ (B2 i),ZK true _ _ (B3 i),ZK true _ _ (B4 i),ZK true _ _ (B5 i),ZK true _ _ (B6 i),ZK true _ _ (B7 i)]=_
  rw[(h0 i).s _ _ _ p6,(h1 i).s _ _ _ p6,(h2 i).s _ _ _ p6,(h3 i).s _ _ _ p6,(h4 i).s _ _ _ p6,(h5 i).s _ _ _ p6,(h6 i).s _ _ _ p6,(h7 i).s _ _ _ p6]
 ·show [ZK true _ _ (B0 i),ZK true _ _ (B1 i),ZK true _ _ (B2 i),ZK true _ _ (B3 i),ZK true _ _ (B4 i),ZK true _ _ (B5 i),ZK true _ _ (B6 i),ZK true _ _ (B7 i),_]=_
  rw[(h0 i).s _ _ _ p7,(h1 i).s _ _ _ p7,(h2 i).s _ _ _ p7,(h3 i).s _ _ _ p7,(h4 i).s _ _ _ p7,(h5 i).s _ _ _ p7,(h6 i).s _ _ _ p7,(h7 i).s _ _ _ p7]
  rfl
 ·show [ZK false _ _ (B0 i),ZK false _ _ (B1 i),ZK false _ _ (B2 i),ZK false _ _ (B3 i),ZK false _ _ (B4 i),ZK false _ _ (B5 i),ZK false _ _ (B6 i),ZK false _ _ (B7 i)]=_
  rw[(h0 i).s _ _ _ p6,(h1 i).s _ _ _ p6,(h2 i).s _ _ _ p6,(h3 i).s _ _ _ p6,(h4 i).s _ _ _ p6,(h5 i).s _ _ _ p6,(h6 i).s _ _ _ p6,(h7 i).s _ _ _ p6]
 ·show [Q9 (YK [0,1,2,3,4,5,6,7] 9) (B0 j),Q9 (YK [0,1,2,3,4,5,6,7] 9) (B1 j),Q9 (YK [0,1,2,3,4,5,6,7] 9) (B2 j),Q9 (YK [0,1,2,3,4,5,6,7] 9) (B3 j),Q9 (YK [0,1,2,3,4,5,6,7] 9) (B4 j),Q9 (YK [0,1,2,3,4,5,6,7] 9) (B5 j),Q9 (YK [0,1,2,3,4,5,6,7] 9) (B6 j),Q9 (YK [0,1,2,3,4,5,6,7] 9) (B7 j),X]=_
  rw[(h0 j).r _ f7,(h1 j).r _ f7,(h2 j).r _ f7,(h3 j).r _ f7,(h4 j).r _ f7,(h5 j).r _ f7,(h6 j).r _ f7,(h7 j).r _ f7]
 ·simp only[List.mem_cons,List.not_mem_nil,or_false]at hb
  rcases hb with rfl|rfl|rfl|rfl|rfl|rfl|rfl|rfl
  ·exact(h0 0).z
  ·exact(h1 0).z
  ·exact(h2 0).z
  ·exact(h3 0).z
  ·exact(h4 0).z
  ·exact(h5 0).z
  ·exact(h6 0).z
  ·exact(h7 0).z
theorem ZtN (t:Ze):SC (fun _=>Tryz.prog) 136 [.iptr (ZT t) 0] [] fun v h=>v= .fn 176 [] [XM t]∧h=[]:=by
 obtain⟨nt,hnt⟩:=Zs
 unfold XM ZT
 simp only[Za hnt,Zb,ZE]
 refine SC.less (QP Tryz.func136 (body:=Zk Tryz.f136) rfl (by decide+kernel) ?_)
 refine wS ?_
 refine⟨_,[],?_,rfl,rfl⟩
 exact ZI
theorem ZlZ (t:Ze):SC (fun _=>Tryz.prog) 82 [.iptr (ZT t) 0] [] fun v h=>v= .fn 135 [] [XM t]∧h=[]:=by
 obtain⟨nt,hnt⟩:=Zs
 unfold XM ZT
 simp only[Za hnt,Zb,ZE]
 refine SC.less (QP Tryz.func82 (body:=Zk Tryz.f82) rfl (by decide+kernel) ?_)
 refine wS ?_
 refine⟨_,[],?_,rfl,rfl⟩
 exact ZI
def QC (stop:Nat→Bool):Nat→Bool
 |0=>false
 |j+1=>stop j
theorem ZgA {Q:Ex→List AV→List Zi→Prop} {s s':List AV} {m:Nat} {h:List Zi} {d:Zg0} (hi:h[m]? =some (.loop s' d)) (hs:d.st= .ready) (hp:d.pe=none) {h':List Zi} (hsel:sel true (List.range m) (h.set m (.loop s' {d with st:=.exhausted}))=h') (H:Q .normal s h'):JM Q s m h:=by
 unfold JM
 rw[hi]
 subst hsel
 simp only[hs,hp]at H⊢
 exact H
theorem Zgz {Q:Ex→List AV→List Zi→Prop} {s s':List AV} {m:Nat} {h:List Zi} {d:Zg0} (hi:h[m]? =some (.loop s' d)) (hs:d.st= .done) (hp:d.pe=some .ret) {h':List Zi} (hsel:sel true (List.range m) (h.set m (.loop s' {d with st:=.exhausted}))=h') (H:Q .ret s h'):JM Q s m h:=by
 unfold JM
 rw[hi]
 subst hsel
 simp only[hs,hp]at H⊢
 exact H
theorem ZlY (t:Ze) (hf:ZA t) (B0 B1 B2 B3 B4 B5:Nat→Zi) (stop:Nat→Bool)
  (h0:∀i,Ql 6 (B0 i)) (h1:∀i,Ql 6 (B1 i)) (h2:∀i,Ql 6 (B2 i)) (h3:∀i,Ql 6 (B3 i)) (h4:∀i,Ql 6 (B4 i)) (h5:∀i,Ql 6 (B5 i))
  (hy:∀i,i<ZO t→(∀j,j<i→stop j=false)→YC (fun _=>Tryz.prog) 5 [.agg (X1 (Zj t i)),.imap 2 3 fun _=>Qe t (Zj t i)] [B0 i,B1 i,B2 i,B3 i,B4 i,B5 i] fun v h=>v= .bool (fun _=> !stop i)∧h=[B0 (i+1),B1 (i+1),B2 (i+1),B3 (i+1),B4 (i+1),B5 (i+1)]):
  SC (fun _=>Tryz.prog) 135 [.yld 5,XM t] [B0 0,B1 0,B2 0,B3 0,B4 0,B5 0] fun v h=>∃m,EndAt stop (ZO t) m∧h=[B0 m,B1 m,B2 m,B3 m,B4 m,B5 m]:=by
 obtain⟨nt,hnt⟩:=Zs
 have p4:∀j,j<6→Qk j [0,1,2,3,4,5] 0=some j:=by decide
 have p5:∀j,j<6→Qk j [0,1,2,3,4,5,6] 0=some j:=by decide
 have p6:∀j,j<6→Qk j [0,1,2,3,4,5,6,7] 0=some j:=by decide
 have f7:∀j,j<6→YK [0,1,2,3,4,5] 9 j=j:=by decide
 have hfr:∀i X4 X5 X6,sel false [0,1,2,3,4,5] [B0 i,B1 i,B2 i,B3 i,B4 i,B5 i,X4,X5,X6]=[B0 i,B1 i,B2 i,B3 i,B4 i,B5 i]:=fun i X4 X5 X6=>by
  show [ZK false _ _ (B0 i),ZK false _ _ (B1 i),ZK false _ _ (B2 i),ZK false _ _ (B3 i),ZK false _ _ (B4 i),ZK false _ _ (B5 i)]=_
  rw[(h0 i).s _ _ _ p4,(h1 i).s _ _ _ p4,(h2 i).s _ _ _ p4,(h3 i).s _ _ _ p4,(h4 i).s _ _ _ p4,(h5 i).s _ _ _ p4]
 have hbk:∀i j X4 X5 X6,back [0,1,2,3,4,5] [B0 i,B1 i,B2 i,B3 i,B4 i,B5 i,X4,X5,X6] [B0 j,B1 j,B2 j,B3 j,B4 j,B5 j]=[B0 j,B1 j,B2 j,B3 j,B4 j,B5 j,X4,X5,X6]:=fun i j X4 X5 X6=>by
  show [Q9 (YK [0,1,2,3,4,5] 9) (B0 j),Q9 (YK [0,1,2,3,4,5] 9) (B1 j),Q9 (YK [0,1,2,3,4,5] 9) (B2 j),Q9 (YK [0,1,2,3,4,5] 9) (B3 j),Q9 (YK [0,1,2,3,4,5] 9) (B4 j),Q9 (YK [0,1,2,3,4,5] 9) (B5 j),X4,X5,X6]=_
  rw[(h0 j).r _ f7,(h1 j).r _ f7,(h2 j).r _ f7,(h3 j).r _ f7,(h4 j).r _ f7,(h5 j).r _ f7]
 have e5:∀m L,sel true (List.range 7) [B0 m,B1 m,B2 m,B3 m,B4 m,B5 m,.cells [.yld 5],L]=[B0 m,B1 m,B2 m,B3 m,B4 m,B5 m,.cells [.yld 5]]:=fun m L=>by
  show [ZK true [0,1,2,3,4,5,6] _ (B0 m),ZK true [0,1,2,3,4,5,6] _ (B1 m),ZK true [0,1,2,3,4,5,6] _ (B2 m),ZK true [0,1,2,3,4,5,6] _ (B3 m),ZK true [0,1,2,3,4,5,6] _ (B4 m),ZK true [0,1,2,3,4,5,6] _ (B5 m),_]=_
  rw[(h0 m).s _ _ _ p5,(h1 m).s _ _ _ p5,(h2 m).s _ _ _ p5,(h3 m).s _ _ _ p5,(h4 m).s _ _ _ p5,(h5 m).s _ _ _ p5]
  rfl
 have hz:zOk [B0 0,B1 0,B2 0,B3 0,B4 0,B5 0]=true:=Zc9 fun b hb=>by
  simp only[List.mem_cons,List.not_mem_nil,or_false]at hb
  rcases hb with rfl|rfl|rfl|rfl|rfl|rfl
  ·exact(h0 0).z
  ·exact(h1 0).z
  ·exact(h2 0).z
  ·exact(h3 0).z
  ·exact(h4 0).z
  ·exact(h5 0).z
 have hz6:∀i a s d,zOk [B0 i,B1 i,B2 i,B3 i,B4 i,B5 i,.cells a,.loop s d]=true:=fun i a s d=>Zc9 fun b hb=>by
  simp only[List.mem_cons,List.not_mem_nil,or_false]at hb
  rcases hb with rfl|rfl|rfl|rfl|rfl|rfl|rfl|rfl
  ·exact(h0 i).z
  ·exact(h1 i).z
  ·exact(h2 i).z
  ·exact(h3 i).z
  ·exact(h4 i).z
  ·exact(h5 i).z
  ·rfl
  ·rfl
 have k436:=ZtN t
 have k476:=fun s ps a x g4 g5=>ZtL t hf B0 B1 B2 B3 B4 B5 (fun _=>.cells [.yld 5]) (fun m=>.loop s ⟨ps,a,x,bif QC stop m then .done else .ready,bif QC stop m then some .ret else none⟩) stop (fun i=>(h0 i).mono (by decide)) (fun i=>(h1 i).mono (by decide)) (fun i=>(h2 i).mono (by decide)) (fun i=>(h3 i).mono (by decide)) (fun i=>(h4 i).mono (by decide)) (fun i=>(h5 i).mono (by decide)) g4 g5
 have k437:=fun i=>ZtM t (Zj t i) hf (Xq hf i)
 generalize Zj t=TA at*
 generalize Qe t=HL at*
 generalize ZO t=N at*
 unfold XM ZT X1 at*
 simp only[Za hnt,Zb,ZE]at*
 refine QP Tryz.func135 (body:=Zk Tryz.f135) rfl (by decide+kernel) ?_ hz
 refine wS ?_
 refine ZS (k436) (by first|rfl|(simp only[Zd,Zc,Zf,Zb,Za hnt];rfl)) fun r h₂ hp=>?_
 (try simp only[Zd,Zc,Zf,Zb,Za hnt]at hp)
 obtain⟨rfl,rfl⟩:=hp
 refine wS ?_
 refine Zn0 (fid:=176) (first:=[]) rfl Xm ?_
 refine SC.mono (k476 _ _ _ _ ?_ ?_ ?_) ?_
 ·exact fun i=>⟨fun fz ι h hp=>by simp only[ZK,Qs,List.map,hp 5 (by decide)],fun φ hp=>by simp only[Q9,ren,List.map,hp 5 (by decide)],rfl⟩
 ·exact fun i=>⟨fun fz ι h hp=>by simp only[ZK,Qs,List.map,hp 5 (by decide),hp 6 (by decide)],fun φ hp=>by simp only[Q9,ren,List.map,hp 5 (by decide),hp 6 (by decide)],rfl⟩
 ·intro i hi hno
  have hst:QC stop i=false:=by
   cases i with
   |zero=>rfl
   |succ j=>exact hno j (by omega)
  simp only[hst,cond_false]
  refine YC.less (Zat false false [] rfl rfl ?_ (hz6 i _ _ _))
  refine wS ?_
  refine ZS (k437 i) (by first|rfl|(simp only[Zd,Zc,Zf,Zb,Za hnt];rfl)) fun r h₂ hp=>?_
  (try simp only[Zd,Zc,Zf,Zb,Za hnt]at hp)
  obtain⟨rfl,rfl⟩:=hp
  refine wS ?_
  refine YC.frameB [0,1,2,3,4,5] (by decide) (by simp) rfl rfl (hfr i _ _ _) (hy i hi hno) (hbk i (i+1) _ _ _) ?_
  refine wS ?_
  refine⟨fun hb=>?_,fun hb=>?_⟩
  ·have hb:stop i=true:=by simpa using hb
   have hb2:QC stop (i+1)=true:=hb
   refine wS ?_
   simp only[hb2,cond_true]
   refine⟨.bool fun _=> !stop i,_,?_,rfl,rfl⟩
   (refine To.of [] ?_;cbv;(try simp only[nc]);(repeat' (first|exact trivial|exact ZD.refl _|exact ZL.refl _|refine⟨?_,?_⟩|refine ZL.cells ?_|refine ZD.agg ?_|refine ZD.tup ?_));(all_goals (first|exact X9|skip)))
   all_goals first|exact .bool (by rw[hb];rfl)|exact(h0 _).wk p6|exact(h1 _).wk p6|exact(h2 _).wk p6|exact(h3 _).wk p6|exact(h4 _).wk p6|exact(h5 _).wk p6
  ·have hb:stop i=false:=by simpa using hb
   have hb2:QC stop (i+1)=false:=hb
   refine wS ?_
   simp only[hb2,cond_false]
   refine⟨.bool fun _=> !stop i,_,?_,rfl,rfl⟩
   (refine To.of [] ?_;cbv;(try simp only[nc]);(repeat' (first|exact trivial|exact ZD.refl _|exact ZL.refl _|refine⟨?_,?_⟩|refine ZL.cells ?_|refine ZD.agg ?_|refine ZD.tup ?_));(all_goals (first|exact X9|skip)))
   all_goals first|exact .bool (by rw[hb];rfl)|exact(h0 _).wk p6|exact(h1 _).wk p6|exact(h2 _).wk p6|exact(h3 _).wk p6|exact(h4 _).wk p6|exact(h5 _).wk p6
 ·intro v h hh
  obtain⟨m,hm,rfl⟩:=hh
  rcases hm with⟨hm,hno⟩|⟨j,hm,hj,hst,hno⟩
  ·have hst:QC stop m=false:=by
    cases m with
    |zero=>rfl
    |succ j=>exact hno j (by omega)
   simp only[hst,cond_false]
   refine ZgA rfl rfl rfl (e5 m _) ?_
   refine wS ?_
   refine⟨m,.inl ⟨hm,hno⟩,?_⟩
   show [ZK true [0,1,2,3,4,5] _ (B0 m),ZK true [0,1,2,3,4,5] _ (B1 m),ZK true [0,1,2,3,4,5] _ (B2 m),ZK true [0,1,2,3,4,5] _ (B3 m),ZK true [0,1,2,3,4,5] _ (B4 m),ZK true [0,1,2,3,4,5] _ (B5 m)]=_
   rw[(h0 m).s _ _ _ p4,(h1 m).s _ _ _ p4,(h2 m).s _ _ _ p4,(h3 m).s _ _ _ p4,(h4 m).s _ _ _ p4,(h5 m).s _ _ _ p4]
  ·have hst2:QC stop m=true:=by rw[hm];exact hst
   simp only[hst2,cond_true]
   refine Zgz rfl rfl rfl (e5 m _) ?_
   refine wS ?_
   refine⟨m,.inr ⟨j,hm,hj,hst,hno⟩,?_⟩
   show [ZK true [0,1,2,3,4,5] _ (B0 m),ZK true [0,1,2,3,4,5] _ (B1 m),ZK true [0,1,2,3,4,5] _ (B2 m),ZK true [0,1,2,3,4,5] _ (B3 m),ZK true [0,1,2,3,4,5] _ (B4 m),ZK true [0,1,2,3,4,5] _ (B5 m)]=_
   rw[(h0 m).s _ _ _ p4,(h1 m).s _ _ _ p4,(h2 m).s _ _ _ p4,(h3 m).s _ _ _ p4,(h4 m).s _ _ _ p4,(h5 m).s _ _ _ p4]
end Go.Proofs.YtjgpiclllehgmaaGreat.Vm
namespace Go.Proofs.YtjgpiclllehgmaaGreat.Vm
open Go Go.Proofs
def inA (n:Nat):Nat→AV→Bool
 |0,_=>false
 |k+1,a=>(match a with
  |.ptr id _=>ltN id n
  |.aptr id _ _ _=>ltN id n
  |.msl id _ _ _ _=>ltN id n
  |.gsl id _=>ltN id n
  |.gptr id _ _ _ _=>ltN id n
  |.map id=>ltN id n
  |.mit id=>ltN id n
  |.yld id=>ltN id n
  |.isl _ _ _ (.own id)=>ltN id n
  |.lit _ cs=>cs.all (inA n k)
  |.fn _ xs bs=>xs.all (inA n k)&&bs.all (inA n k)
  |.agg cs=>cs.all (inA n k)
  |.tup cs=>cs.all (inA n k)
  |.gd _ v=>inA n k v
  |_=>true)
theorem ZbS {α:Type} {f:α→α} {l:List α} (h:∀a∈l,f a=a):l.map f=l:=by
 induction l with
 |nil=>rfl
 |cons a l ih=>rw[List.map_cons,h a (List.mem_cons_self ..),ih fun b hb=>h b (List.mem_cons_of_mem _ hb)]
theorem Zg8 {n:Nat} {fz:Bool} {ι:List Nat} {h:List Zi} (hp:∀j,j<n→Qk j ι 0=some j):∀(k:Nat) (a:AV),inA n k a=true→Qs fz ι h k a=a
 |0,a,ha=>by cases ha
 |k+1,a,ha=>by
  have ih:=Zg8 (fz:=fz) (h:=h) hp k
  have hl:∀cs:List AV,cs.all (inA n k)=true→cs.map (Qs fz ι h k)=cs:=fun cs hc=>ZbS fun a ha=>ih a (List.all_eq_true.1 hc a ha)
  cases a with
  |isl s m f tk=>
   cases tk with
   |own id=>simp only[Qs,hp _ (JV ha)]
   |_=>rfl
  |lit s cs=>simp only[Qs,hl cs ha]
  |fn f xs bs=>
   have ha:=(Bool.and_eq_true _ _).mp ha
   simp only[Qs,hl _ ha.1,hl _ ha.2]
  |agg cs=>simp only[Qs,hl cs ha]
  |tup cs=>simp only[Qs,hl cs ha]
  |gd g v=>simp only[Qs,ih v ha]
  |ptr|aptr|msl|gsl|gptr|map|mit|yld=>simp only[Qs,hp _ (JV ha)]
  |_=>rfl
theorem ZjB {n:Nat} {φ:Nat→Nat} (hp:∀j,j<n→φ j=j):∀(k:Nat) (a:AV),inA n k a=true→ren φ k a=a
 |0,a,ha=>by cases ha
 |k+1,a,ha=>by
  have ih:=ZjB hp k
  have hl:∀cs:List AV,cs.all (inA n k)=true→cs.map (ren φ k)=cs:=fun cs hc=>ZbS fun a ha=>ih a (List.all_eq_true.1 hc a ha)
  cases a with
  |isl s m f tk=>
   cases tk with
   |own id=>simp only[ren,hp _ (JV ha)]
   |_=>rfl
  |lit s cs=>simp only[ren,hl cs ha]
  |fn f xs bs=>
   have ha:=(Bool.and_eq_true _ _).mp ha
   simp only[ren,hl _ ha.1,hl _ ha.2]
  |agg cs=>simp only[ren,hl cs ha]
  |tup cs=>simp only[ren,hl cs ha]
  |gd g v=>simp only[ren,ih v ha]
  |ptr|aptr|msl|gsl|gptr|map|mit|yld=>simp only[ren,hp _ (JV ha)]
  |_=>rfl
def Zur (n:Nat):Zi→Bool
 |.cells cs=>cs.all (inA n 5)
 |.loop s _=>s.all (inA n 5)
 |_=>true
theorem Ql.of {n:Nat} {B:Zi} (h:Zur n B=true):Ql n B:=by
 cases B with
 |cells cs=>exact⟨fun fz ι k hp=>congrArg Zi.cells (ZbS fun a ha=>Zg8 hp 5 a (List.all_eq_true.1 h a ha)),fun φ hp=>congrArg Zi.cells (ZbS fun a ha=>ZjB hp 5 a (List.all_eq_true.1 h a ha)),rfl⟩
 |loop s d=>exact⟨fun fz ι k hp=>congrArg (fun s=>Zi.loop s d) (ZbS fun a ha=>Zg8 hp 5 a (List.all_eq_true.1 h a ha)),fun φ hp=>congrArg (fun s=>Zi.loop s d) (ZbS fun a ha=>ZjB hp 5 a (List.all_eq_true.1 h a ha)),rfl⟩
 |_=>exact⟨fun _ _ _ _=>rfl,fun _ _=>rfl,rfl⟩
attribute [local irreducible] Dn
open Go Go.Proofs Sp
set_option maxRecDepth 100000
set_option maxHeartbeats 1600000
structure Wd where
 fr:Int
 to_:Int
 some_:Bool
deriving Inhabited
def Wd.add (w:Wd) (n:Int):Wd:=if w.some_ then⟨min w.fr n,max w.to_ n,true⟩else⟨n,n,true⟩
def Yt (w:Wd):List AV:=[.int .i64 fun _=>w.fr,.int .i64 fun _=>w.to_,.bool fun _=>w.some_]
theorem ZtW (w:Wd) (n:Int):SC (fun _=>Tryz.prog) 83 [.ptr 0 0,.int .i64 fun _=>n] [.cells (Yt w)] fun r h=>h=[.cells (Yt (w.add n))]:=by
 refine SC.less ?_
 refine QP Tryz.func83 (body:=Zk Tryz.f83) rfl (by decide+kernel) ?_
 refine wS ?_
 unfold Wd.add
 refine⟨fun hb=>?_,fun hb=>?_⟩
 ·have hs:w.some_=false:=nb2 hb
  rw[if_neg (by rw[hs];exact Bool.false_ne_true)]
  refine wS ?_
  refine⟨.tup [],_,?_,rfl⟩
  (refine To.of [] ?_;cbv;(try simp only[nc]);(repeat' (first|exact trivial|exact ZD.refl _|exact ZL.refl _|refine⟨?_,?_⟩|refine ZL.cells ?_|refine ZD.agg ?_|refine ZD.tup ?_));(all_goals (first|exact X9|skip)))
  all_goals (refine .int ?_;show(if n<n then n else n)=n;rw[if_neg (Int.lt_irrefl n)])
 ·have hs:w.some_=true:=nb4 hb
  rw[if_pos hs]
  have h1:(if n<w.fr then n else w.fr)=min w.fr n:=by split<;>omega
  have h2:(if w.to_<n then n else w.to_)=max w.to_ n:=by split<;>omega
  generalize min w.fr n=a at*
  generalize max w.to_ n=b at*
  refine vS ?_
  refine Chk.mk (Qa) ?_
  refine⟨.tup [],_,?_,rfl⟩
  (refine To.of [] ?_;cbv;(try simp only[nc]);(repeat' (first|exact trivial|exact ZD.refl _|exact ZL.refl _|refine⟨?_,?_⟩|refine ZL.cells ?_|refine ZD.agg ?_|refine ZD.tup ?_));(all_goals (first|exact X9|skip)))
  all_goals first|exact .bool hs|exact .int h1|exact .int h2
theorem Zbs {α:Type} (l:List α) (i j:Nat) (x d:α) (h:j≠i):(l.set i x).getD j d=l.getD j d:=by
 rw[List.getD_eq_getElem?_getD,List.getD_eq_getElem?_getD,List.getElem?_set,if_neg (Ne.symm h)]
theorem Zeb {α:Type} (l:List α) (i:Nat) (x d:α) (h:i<l.length):(l.set i x).getD i d=x:=by
 rw[List.getD_eq_getElem?_getD,List.getElem?_set,if_pos rfl,if_pos h]
 rfl
theorem ZtX (l:List Wd) (i:Nat) (n:Int) (hi:i<l.length) (hl:l.length≤1000000):SC (fun _=>Tryz.prog) 83 [.aptr 0 3 (fun _=>(i:Int)) 0,.int .i64 fun _=>n] [.arr 3 (fun _=>(l.length:Int)) (Zdm Yt default l)] fun r h=>h=[.arr 3 (fun _=>(l.length:Int)) (Zdm Yt default (l.set i ((l.getD i default).add n)))]:=by
 obtain⟨nt,hnt⟩:=Zs
 rw[ZaN hnt]
 refine SC.less ?_
 refine QP Tryz.func83 (body:=Zk Tryz.f83) rfl (by decide+kernel) ?_
 have hw:l.getD i default=nt Wd default l i:=by rw[hnt];rfl
 rw[hw]
 refine wS ?_
 have hset:∀(x:Wd) (j:Nat),Zdm Yt default (l.set i x) (fun _=>(j:Int))=Yt (if j=i then x else nt Wd default l j):=fun x j=>by
  show Yt ((l.set i x).getD ((j:Int).toNat) default)=_
  rw[Int.toNat_natCast]
  by_cases h:j=i
  ·subst h
   rw[if_pos rfl,Zeb l _ x default hi]
  ·rw[if_neg h,Zbs l i j x default h,hnt]
   rfl
 refine⟨fun hb=>?_,fun hb=>?_⟩
 ·have hs:(nt Wd default l i).some_=false:=nb2 hb
  refine wS ?_
  refine⟨.tup [],[.arr 3 (fun _=>(l.length:Int)) (Zdm Yt default (l.set i ((nt Wd default l i).add n)))],To.of [] ⟨⟨.refl _,trivial⟩,.arr rfl fun j hj=>?_,trivial⟩,rfl⟩
  rw[hset]
  unfold Wd.add
  rw[hs]
  by_cases h:j=i
  ·subst h
   simp[QX,ZjF,putC,Yt,Jx,AV.cellsOf,purify]
  ·have h2:¬((j:Int)=(i:Int)):=by omega
   simp[QX,ZjF,putC,Yt,Jx,AV.cellsOf,purify,h,h2]
 ·have hs:(nt Wd default l i).some_=true:=nb4 hb
  refine wS ?_
  refine⟨.tup [],[.arr 3 (fun _=>(l.length:Int)) (Zdm Yt default (l.set i ((nt Wd default l i).add n)))],To.of [] ⟨⟨.refl _,trivial⟩,.arr rfl fun j hj=>?_,trivial⟩,rfl⟩
  rw[hset]
  unfold Wd.add
  rw[hs]
  by_cases h:j=i
  ·subst h
   simp[QX,ZjF,putC,Yt,Jx,AV.cellsOf,purify,hs]
   exact⟨funext fun _=>by split<;>omega,funext fun _=>by split<;>omega⟩
  ·have h2:¬((j:Int)=(i:Int)):=by omega
   simp[QX,ZjF,putC,Yt,Jx,AV.cellsOf,purify,h,h2]
end Go.Proofs.YtjgpiclllehgmaaGreat.Vm
namespace Go.Proofs.YtjgpiclllehgmaaGreat.Sp
open Vm
def JF (f:Nat→Int):Nat→Wd
 |0=>⟨0,0,false⟩
 |n+1=>(JF f n).add (f n)
def Zav (t:Ze) (run:Int) (k i:Nat):Int:=
 if k%2=0 then(ZU t (Zj t i) run ((k/2:Nat):Int)).comes else(ZU t (Zj t i) run ((k/2:Nat):Int)).goes
def Zaf (t:Ze) (run:Int) (n i j:Nat):List Wd:=(List.range (2*n)).map fun k=>if k<2*j then JF (Zav t run k) (i+1)else JF (Zav t run k) i
def Zgo (t:Ze) (run:Int) (k:Nat):Zes:=⟨(JF (Zav t run k) (ZO t)).fr,(JF (Zav t run k) (ZO t)).to_⟩
def ZhP (t:Ze) (run:Int):List Zes:=(List.range (Zo (callsOf t) run).length).map fun a=>Zgo t run (2*a)
def ZkZ (t:Ze) (run:Int):List Zes:=(List.range (Zo (callsOf t) run).length).map fun a=>Zgo t run (2*a+1)
def Jn (t:Ze) (run:Int):Int:=if Zr t≠0 then Zr t else if Xw run 0 ((t.runs.length:Int)-1)then 3 else 0
theorem ZaK {t:Ze} {run:Int} {n i j:Nat}:(Zaf t run n i j).length=2*n:=by unfold Zaf;simp
theorem ZaL {t:Ze} {run:Int} {n i j k:Nat} (h:k<2*n):(Zaf t run n i j).getD k default=if k<2*j then JF (Zav t run k) (i+1)else JF (Zav t run k) i:=by
 unfold Zaf
 rw[List.getD_eq_getElem?_getD,List.getElem?_map,List.getElem?_range h]
 rfl
theorem Zqi {t:Ze} {run:Int} {n i:Nat}:Zaf t run n i n=Zaf t run n (i+1) 0:=by
 unfold Zaf
 refine List.map_congr_left fun k hk=>?_
 rw[if_pos (by have:=List.mem_range.1 hk;omega),if_neg (by omega)]
theorem Zn9 {t:Ze} {run:Int} {n i j:Nat} (hj:j<n) {l2:List Wd} (h2:l2=(Zaf t run n i j).set (2*j) (((Zaf t run n i j).getD (2*j) default).add (Zav t run (2*j) i))):
  l2.set (2*j+1) ((l2.getD (2*j+1) default).add (Zav t run (2*j+1) i))=Zaf t run n i (j+1):=by
 subst h2
 rw[Vm.Zbs _ _ _ _ _ (by omega),ZaL (by omega),ZaL (by omega),if_neg (by omega),if_neg (by omega)]
 refine List.ext_getElem? fun k=>?_
 by_cases hk:k<2*n
 ·have e:(Zaf t run n i (j+1))[k]? =some ((Zaf t run n i (j+1)).getD k default):=by
   rw[List.getD_eq_getElem?_getD,List.getElem?_eq_getElem (by rw[ZaK];exact hk)];rfl
  rw[e,ZaL hk]
  by_cases h1:2*j+1=k
  ·subst h1
   rw[List.getElem?_set_self (by rw[List.length_set,ZaK];exact hk),if_pos (by omega)]
   rfl
  ·rw[List.getElem?_set_ne h1]
   by_cases h2:2*j=k
   ·subst h2
    rw[List.getElem?_set_self (by rw[ZaK];exact hk),if_pos (by omega)]
    rfl
   ·rw[List.getElem?_set_ne h2]
    have e2:(Zaf t run n i j)[k]? =some ((Zaf t run n i j).getD k default):=by
     rw[List.getD_eq_getElem?_getD,List.getElem?_eq_getElem (by rw[ZaK];exact hk)];rfl
    rw[e2,ZaL hk]
    by_cases h3:k<2*j
    ·rw[if_pos h3,if_pos (by omega)]
    ·rw[if_neg h3,if_neg (by omega)]
 ·rw[List.getElem?_eq_none (by rw[List.length_set,List.length_set,ZaK];omega),List.getElem?_eq_none (by rw[ZaK];omega)]
theorem Zaj {t:Ze} {x:List Int} {r a:Int} (hs:StopIn (callsOf t) r a):(Qe t x).lookup [r,a]=some (Zb6 (ZU t x r a)):=by
 refine ZbT ?_ (List.mem_map.2 ⟨(r,a),Jm.2 hs,rfl⟩)
 unfold Qe
 rw[List.map_map]
 exact List.Pairwise.map _ (fun a b hab e=>by
  apply hab
  simp only[Function.comp,List.cons.injEq,and_true]at e
  exact Prod.ext e.1 e.2) Zbd
end Go.Proofs.YtjgpiclllehgmaaGreat.Sp
namespace Go.Proofs.YtjgpiclllehgmaaGreat.Vm
attribute [local irreducible] Dn
open Go Go.Proofs Sp
set_option maxRecDepth 100000
set_option maxHeartbeats 4000000
def Qz (x:Sp.Zes):List AV:=[.int .i64 fun _=>x.fr,.int .i64 fun _=>x.to_]
theorem ZrV (l l2:List Wd) (i:Nat) (e n N:Int) (he:e=i) (hN:N=l.length) (hi:i<l.length) (hl:l.length≤1000000) (h2:l2=l.set i ((l.getD i default).add n)):SC (fun _=>Tryz.prog) 83 [.aptr 0 3 (fun _=>e) 0,.int .i64 fun _=>n] [.arr 3 (fun _=>N) (Zdm Yt default l)] fun r h=>h=[.arr 3 (fun _=>N) (Zdm Yt default l2)]:=by
 subst he hN h2
 exact ZtX l i n hi hl
theorem ZuZ (t:Ze) (run:Int) (hf:Xi t) (hw:Zr t=0→ZA t):SC (fun _=>Tryz.prog) 22 [Zf t,.int .i64 fun _=>run] [] fun v h=>
  v= .tup [lst 2 Qz default (if Jn t run=0 then ZhP t run else []),lst 2 Qz default (if Jn t run=0 then ZkZ t run else []),.int .i64 fun _=>Jn t run]∧h=[]:=by
 obtain⟨nt,hnt⟩:=Zs
 obtain⟨L2,hL2⟩:∃L2:Nat→Nat→Nat→List Wd,∀n i j,L2 n i j=(Zaf t run n i j).set (2*j) (((Zaf t run n i j).getD (2*j) default).add (Zav t run (2*j) i)):=⟨_,fun _ _ _=>rfl⟩
 refine SC.less (Zsy false false [] Tryz.func22 (body:=Zk Tryz.f22) rfl (by decide+kernel) ?_)
 have k:=ZqH t hf
 have hr:=hf.runs
 have k1:=ZcY run 0 ((t.runs.length:Int)-1)
 generalize hE:Jn t run=e
 unfold Jn at hE
 unfold Zf at*
 simp only[Za hnt]at k⊢
 by_cases he:Zr t=0
 ·have hw:=hw he
  unfold QE at k
  rw[if_pos he]at k
  rw[if_neg (fun h=>h he)]at hE
  have k382:=ZlZ t
  unfold XM ZT at*
  simp only[Za hnt,Zb,ZE]at k k382⊢
  rw[he]at k
  refine wS ?_
  refine ZoQ (k) ?_
  refine wS ?_
  refine Br.isF rfl ?_
  refine wS ?_
  refine ZoQ (k1) ?_
  refine wS ?_
  refine⟨fun h=>?_,fun h=>?_⟩
  ·rw[if_pos h]at hE
   subst hE
   refine wS ?_
   refine⟨_,[],?_,rfl,rfl⟩
   exact ZI
  ·rw[if_neg (by rw[h];exact Bool.false_ne_true)]at hE
   subst hE
   have hb:=XJ h
   have hlen:t.runs.length=(callsOf t).length:=by unfold callsOf;rw[List.length_map]
   have hrow:=hw.calls.row (Sp.Zo (callsOf t) run) (by
    unfold Sp.Zo
    rw[List.getD_eq_getElem?_getD,List.getElem?_eq_getElem (by omega)]
    exact List.getElem_mem _)
   have hlk:=fun x a h1 h2=> @Zaj t x run a ⟨hb.1,by omega,h1,h2⟩
   have hvc:∀i j:Nat,(ZU t (Zj t i) run (j:Int)).comes=Zav t run (2*j) i:=fun i j=>by unfold Zav;rw[if_pos (by omega),show 2*j/2=j by omega]
   have hvg:∀i j:Nat,(ZU t (Zj t i) run (j:Int)).goes=Zav t run (2*j+1) i:=fun i j=>by unfold Zav;rw[if_neg (by omega),show(2*j+1)/2=j by omega]
   have hmst:=fun i j h l2 h2=> @Zn9 t run (Sp.Zo (callsOf t) run).length i j h l2 h2
   have hmlen:=fun i j=> @ZaK t run (Sp.Zo (callsOf t) run).length i j
   have hmend:=fun i=> @Zqi t run (Sp.Zo (callsOf t) run).length i
   have hm0:∀k,k<2*(Sp.Zo (callsOf t) run).length→(Zaf t run (Sp.Zo (callsOf t) run).length 0 0).getD k default=⟨0,0,false⟩:=fun k h=>by rw[ZaL h,if_neg (by omega)];rfl
   have hXe:∀m j,j<(Sp.Zo (callsOf t) run).length→nt Wd default (Zaf t run (Sp.Zo (callsOf t) run).length m 0) (0+2*(j:Int))=JF (Zav t run (2*j)) m:=fun m j h=>by
    rw[hnt,show(0+2*(j:Int)).toNat=2*j by omega,ZaL (by omega),if_neg (by omega)]
   have hXo:∀m j,j<(Sp.Zo (callsOf t) run).length→nt Wd default (Zaf t run (Sp.Zo (callsOf t) run).length m 0) (0+(2*(j:Int)+1))=JF (Zav t run (2*j+1)) m:=fun m j h=>by
    rw[hnt,show(0+(2*(j:Int)+1)).toNat=2*j+1 by omega,ZaL (by omega),if_neg (by omega)]
   have k435:=fun B0 B1 B2 B3 B4 B5 stop=>ZlY t hw B0 B1 B2 B3 B4 B5 stop
   rw[if_pos rfl,if_pos rfl]
   have hcl:ZhP t run=(List.range (Sp.Zo (callsOf t) run).length).map fun a=>Zgo t run (2*a):=rfl
   have hgl:ZkZ t run=(List.range (Sp.Zo (callsOf t) run).length).map fun a=>Zgo t run (2*a+1):=rfl
   generalize ZhP t run=CL at*
   generalize ZkZ t run=GL at*
   unfold XM ZT at k435
   simp only[JT hnt,Za hnt,Zb,ZE]at hrow hlk hXe hXo hmst hmlen hmend hm0 hcl hgl k435
   generalize Zaf t run=MID at*
   generalize Zj t=TA at*
   generalize Qe t=HL at*
   generalize hcc:callsOf t=c at*
   refine wS ?_
   refine ZoQ (k382) ?_
   refine wS ?_
   generalize hn:(nt (List Sp.Call) [] c run).length=n at*
   have hrows:∀k:Nat,(k:Int)<2*(n:Int)→[AV.int .i64 fun _=>0,AV.int .i64 fun _=>0,AV.bool fun _=>false]=Yt (nt Wd default (MID n 0 0) (k:Int)):=fun k h=>by
    rw[hnt,Int.toNat_natCast,hm0 k (by omega)]
    rfl
   refine Zcn [3,4,5,6,8,9,42] [] [(3,.arr 3 (fun _=>2*(n:Int)) (fun e=>Yt (nt Wd default (MID n 0 0) (e ()))))] (fid:=135) (first:=[]) ?_ rfl ?_ ?_
   ·refine toR ?_
    exact ZL.arr rfl hrows
   ·exact Xm
   refine SC.mono (k435 (fun _=>_) (fun _=>_) (fun _=>_) (fun i=>.arr 3 (fun _=>2*(n:Int)) (fun e=>Yt (nt Wd default (MID n i 0) (e ())))) (fun _=>_) (fun _=>_) (fun _=>false) ?_ ?_ ?_ ?_ ?_ ?_ ?_) ?_
   iterate 6 exact fun i=>Ql.of rfl
   ·intro i hi hno
    refine YC.less (Zat false false [] rfl rfl ?_)
    refine wS ?_
    refine ZrS false false [] [3,4,5,8,9,11,44,45,46] [] (fun(j:Nat)=>[(46,.int .i64 fun _=>(j:Int))]) (fun j=>[(3,.arr 3 (fun _=>2*(n:Int)) (fun e=>Yt (nt Wd default (MID n i j) (e ()))))]) (fun j=>j≤n) (fun j=>n-j+0) 0 (by omega) ?_ ?_
    ·exact ZI
    intro j hj
    refine wS ?_
    refine⟨fun hb2=>?_,fun hb2=>?_⟩
    ·simp only[decide_eq_true_eq]at hb2
     have e1:(((HL (TA i)).lookup [run,(j:Int)]).getD []).headD 0=Zav t run (2*j) i:=by rw[hlk _ _ (by omega) (by omega),←hvc];rfl
     have e2:(((HL (TA i)).lookup [run,(j:Int)]).getD []).tail.tail.headD 0=Zav t run (2*j+1) i:=by rw[hlk _ _ (by omega) (by omega),←hvg];rfl
     have hl2:=hL2 n i j
     have h3:=hmst i j (by omega) (L2 n i j) hl2
     have hl2l:(L2 n i j).length=2*n:=by rw[hl2,List.length_set,hmlen]
     have k1:=ZrV (MID n i j) (L2 n i j) (2*j) (0+2*(j:Int)) (Zav t run (2*j) i) (2*(n:Int)) (by omega) (by rw[hmlen];omega) (by rw[hmlen];omega) (by rw[hmlen];omega) hl2
     have k2:=ZrV (L2 n i j) (MID n i (j+1)) (2*j+1) (0+(2*(j:Int)+1)) (Zav t run (2*j+1) i) (2*(n:Int)) (by omega) (by rw[hl2l];omega) (by rw[hl2l];omega) (by rw[hl2l];omega) h3.symm
     simp only[ZaN hnt]at k1 k2
     refine vS ?_
     refine Chk.mk (Qa) ?_
     simp only[e1]
     refine cL1 [3] (k1) fun r h₂ hp=>?_
     (try simp only[Zd,Zc,Zf,Zb,Za hnt]at hp)
     obtain rfl:=hp
     refine vS ?_
     try refine Chk.mk (Qa) ?_
     simp only[e2]
     refine cL1 [3] (k2) fun r h₂ hp=>?_
     (try simp only[Zd,Zc,Zf,Zb,Za hnt]at hp)
     obtain rfl:=hp
     refine wS ?_
     refine⟨j+1,by omega,by show n-(j+1)+0<n-j+0;omega,?_⟩
     exact ZI
    ·simp only[decide_eq_false_iff_not]at hb2
     have hjn:j=n:=by omega
     subst hjn
     refine wS ?_
     refine⟨.bool fun _=>true,_,?_,rfl,rfl⟩
     refine toR ?_
     rw[hmend i]
     exact ZL.refl _
   ·intro v h hh
    obtain⟨m,hm,rfl⟩:=hh
    have hmN:m=ZO t:=by
     rcases hm with h|⟨_,_,_,h,_⟩
     ·exact h.1
     ·cases h
    refine wS ?_
    refine ZV false false [] [4,5,9,77,78] [.tok 2 fun _=>0,.tok 2 fun _=>0] (fun p:Nat×List Sp.Zes×List Sp.Zes=>[(78,.int .i64 fun _=>(p.1:Int)),(4,.isl 2 (fun _=>(p.2.1.length:Int)) (fun e=>Qz (nt Sp.Zes default p.2.1 (e ()))) (.own 5)),(5,.isl 2 (fun _=>(p.2.2.length:Int)) (fun e=>Qz (nt Sp.Zes default p.2.2 (e ()))) (.own 6))]) (fun p=>[(5,.tok 2 fun _=>(p.2.1.length:Int)),(6,.tok 2 fun _=>(p.2.2.length:Int))])
     (fun p=>p.1≤n∧p.2.1=(List.range p.1).map (fun a=>Zgo t run (2*a))∧p.2.2=(List.range p.1).map (fun a=>Zgo t run (2*a+1))) (fun p=>n-p.1+0) (0,[],[]) ⟨by omega,rfl,rfl⟩ ?_ ?_
    ·(refine To.of [(2,false),(2,false)] ?_;cbv;(try simp only[nc]);(repeat' (first|exact trivial|exact ZD.refl _|exact ZL.refl _|refine⟨?_,?_⟩|refine ZL.cells ?_|refine ZD.agg ?_|refine ZD.tup ?_));(all_goals (first|exact X9|skip)))
    intro p hp
    refine wS ?_
    refine⟨fun hb3=>?_,fun hb3=>?_⟩
    ·simp only[decide_eq_true_eq]at hb3
     have x1:=hXe m p.1 (by omega)
     have x2:=hXo m p.1 (by omega)
     have a1:=congrArg List.length hp.2.1
     have a2:=congrArg List.length hp.2.2
     rw[List.length_map,List.length_range]at a1 a2
     refine vS ?_
     refine Chk.mk (Qa) ?_
     refine⟨(p.1+1,p.2.1++[⟨(nt Wd default (MID n m 0) (0+2*(p.1:Int))).fr,(nt Wd default (MID n m 0) (0+2*(p.1:Int))).to_⟩],p.2.2++[⟨(nt Wd default (MID n m 0) (0+(2*(p.1:Int)+1))).fr,(nt Wd default (MID n m 0) (0+(2*(p.1:Int)+1))).to_⟩]),⟨by show p.1+1≤n;omega,?_,?_⟩,by show n-(p.1+1)+0<n-p.1+0;omega,?_⟩
     ·show p.2.1++_=_
      rw[List.range_succ,List.map_append,←hp.2.1,x1,hmN]
      rfl
     ·show p.2.2++_=_
      rw[List.range_succ,List.map_append,←hp.2.2,x2,hmN]
      rfl
     exact ZI
    ·simp only[decide_eq_false_iff_not]at hb3
     have hpn:p.1=n:=by omega
     have r1:p.2.1=CL:=by rw[hp.2.1,hpn,hcl]
     have r2:p.2.2=GL:=by rw[hp.2.2,hpn,hgl]
     refine wS ?_
     rw[r1,r2]
     refine⟨_,[],?_,rfl,rfl⟩
     exact ZI
 ·unfold QE at k
  rw[if_neg he]at k
  rw[if_pos he]at hE
  rw[hE]at k he
  rw[if_neg he,if_neg he]
  refine wS ?_
  refine ZoQ (k) ?_
  refine wS ?_
  refine⟨fun h=>?_,fun h=>?_⟩
  ·refine wS ?_
   refine⟨_,[],?_,rfl,rfl⟩
   exact ZI
  ·exact absurd (by simpa only[bne_eq_false_iff_eq]using h) he
end Go.Proofs.YtjgpiclllehgmaaGreat.Vm
namespace Go.Proofs.YtjgpiclllehgmaaGreat.Sp
def Yf (c:List (List Call)) (n:Int) (s:Step):Int:=
 if Xw s.run 0 (n-1)then 3
 else if ZM (c.getD s.run.toNat []) 0 s.from_<0∨ZM (c.getD s.run.toNat []) (ZM (c.getD s.run.toNat []) 0 s.from_+1) s.to_<0 then 3 else 0
def QB (c:List (List Call)) (n:Int) (a:Zq):Int:=
 if Xw a.from_ 0 9||(Xw a.goal 0 9||Xw a.since 0 43200)then 1
 else if 6<a.steps.length then 6
 else Zp (fun i=>Yf c n (a.steps.getD i default)) 0 a.steps.length
end Go.Proofs.YtjgpiclllehgmaaGreat.Sp
namespace Go.Proofs.YtjgpiclllehgmaaGreat.Vm
attribute [local irreducible] Dn
open Go Go.Proofs Sp
set_option maxRecDepth 100000
set_option maxHeartbeats 4000000
def Q1 (s:Sp.Step):List AV:=[.int .i64 fun _=>s.run,.int .i64 fun _=>s.from_,.int .i64 fun _=>s.to_]
def ZQ (a:Zq):AV:=.agg [.int .i64 fun _=>a.from_,.int .i64 fun _=>a.since,.int .i64 fun _=>a.goal,lst 3 Q1 default a.steps]
theorem ZuF (t:Ze) (a:Zq) (hc:Zas (callsOf t)) (hr:t.runs.length≤1000000) (ha:a.steps.length≤1000000):SC (fun _=>Tryz.prog) 162 [.iptr (ZT t) 0,ZQ a] [] fun v h=>v= .int .i64 (fun _=>QB (callsOf t) t.runs.length a)∧h=[]:=by
 obtain⟨nt,hnt⟩:=Zs
 unfold ZT ZQ
 simp only[Za hnt,Zb]
 refine SC.less (QP Tryz.func162 (body:=Zk Tryz.f162) rfl (by decide+kernel) ?_)
 generalize hE:QB (callsOf t) t.runs.length a=e
 have hlen:t.runs.length=(callsOf t).length:=by unfold callsOf;rw[List.length_map]
 generalize hcc:callsOf t=c at*
 have hmem:∀i:Int,0≤i→i≤(t.runs.length:Int)-1→nt (List Sp.Call) [] c i∈c:=fun i h0 h1=>by
  have:i.toNat<c.length:=by omega
  rw[hnt,List.getD_eq_getElem?_getD,List.getElem?_eq_getElem this]
  exact List.getElem_mem _
 unfold QB at hE
 have k1:=ZcY a.from_ 0 9
 have k2:=ZcY a.goal 0 9
 have k3:=ZcY a.since 0 43200
 generalize Xw a.from_ 0 9=b1 at*
 generalize Xw a.goal 0 9=b2 at*
 generalize Xw a.since 0 43200=b3 at*
 refine wS ?_
 refine ZoQ (k1) ?_
 refine wS ?_
 cases b1
 case true=>
  rw[Bool.true_or,if_pos rfl]at hE
  subst hE
  refine Br.isF rfl ?_
  refine wS ?_
  refine Br.isF rfl ?_
  refine wS ?_
  refine Br.isT rfl ?_
  refine wS ?_
  refine⟨_,[],?_,rfl,rfl⟩
  exact ZI
 refine Br.isT rfl ?_
 refine wS ?_
 refine ZoQ (k2) ?_
 refine wS ?_
 cases b2
 case true=>
  rw[Bool.true_or,Bool.or_true,if_pos rfl]at hE
  subst hE
  refine Br.isF rfl ?_
  refine wS ?_
  refine Br.isT rfl ?_
  refine wS ?_
  refine⟨_,[],?_,rfl,rfl⟩
  exact ZI
 refine Br.isT rfl ?_
 refine wS ?_
 refine ZoQ (k3) ?_
 refine wS ?_
 cases b3
 case true=>
  rw[if_pos (show(false||(false||true))=true from rfl)]at hE
  subst hE
  refine Br.isT rfl ?_
  refine wS ?_
  refine⟨_,[],?_,rfl,rfl⟩
  exact ZI
 rw[if_neg (show¬(false||(false||false))=true by decide)]at hE
 refine Br.isF rfl ?_
 refine wS ?_
 refine⟨fun h4=>?_,fun h4=>?_⟩
 ·have h4:=of_decide_eq_true h4
  rw[if_pos (by omega)]at hE
  subst hE
  refine wS ?_
  refine⟨_,[],?_,rfl,rfl⟩
  exact ZI
 have h4:=of_decide_eq_false h4
 rw[if_neg (by omega)]at hE
 clear k1 k2 k3
 refine wS ?_
 refine ZV false false [] [0,29,30,31] [] (fun(i:Nat)=>[(31,.int .i64 fun _=>(i:Int))]) (fun _=>[]) (fun i=>i≤a.steps.length∧e=Zp (fun i=>Yf c t.runs.length (a.steps.getD i default)) i (a.steps.length-i)) (fun i=>a.steps.length-i+0) 0 ⟨by omega,hE.symm⟩ ?_ ?_
 ·exact ZI
 rintro i ⟨hi,hp⟩
 refine wS ?_
 refine⟨fun hb=>?_,fun hb=>?_⟩
 case refine_2=>
  simp only[decide_eq_false_iff_not]at hb
  rw[XA (by omega)]at hp
  subst hp
  refine wS ?_
  refine⟨_,[],?_,rfl,rfl⟩
  exact ZI
 simp only[decide_eq_true_eq]at hb
 rw[Xd (by omega)]at hp
 have hwe:Yf c t.runs.length (a.steps.getD i default)=Yf c t.runs.length (nt Step default a.steps i):=by rw[Jc hnt]
 rw[hwe]at hp
 generalize hd:nt Step default a.steps i=d at*
 refine vS ?_
 simp only[hd]
 refine Chk.mk (Qa) ?_
 have k5:=ZcY d.run 0 ((t.runs.length:Int)-1)
 generalize hS:Yf c t.runs.length d=e5 at hp
 unfold Yf at hS
 rw[←hnt (List Sp.Call) [] c d.run]at hS
 refine ZoQ (k5) ?_
 refine wS ?_
 refine⟨fun h5=>?_,fun h5=>?_⟩
 ·rw[if_pos h5]at hS
  subst hS
  rw[if_pos (by decide)]at hp
  subst hp
  refine wS ?_
  refine⟨_,[],?_,rfl,rfl⟩
  exact ZI
 rw[if_neg (by rw[h5];exact Bool.false_ne_true)]at hS
 have b1:=XJ h5
 have m1:=hmem _ b1.1 b1.2
 refine vS ?_
 generalize hF:nt (List Sp.Call) [] c d.run=F at*
 have r1:=hc.row _ m1
 have q1:=ZlX F 0 d.from_ (by omega) (by omega)
 have s1:=Je F 0 d.from_
 have q2:=ZlX F (ZM F 0 d.from_+1) d.to_ (by omega) (by omega)
 simp only[Za hnt]at q1 q2
 try simp only[hF]
 try refine Chk.mk (Qa) ?_
 refine ZoQ (q1) ?_
 generalize ZM F 0 d.from_=f at*
 refine vS ?_
 try simp only[hF]
 try refine Chk.mk (Qa) ?_
 refine⟨fun h6=>?_,fun h6=>?_⟩
 case refine_2=>
  have h6:f<0:=by simpa only[Bool.not_eq_false',decide_eq_true_eq]using h6
  rw[if_pos (.inl h6)]at hS
  subst hS
  rw[if_pos (by decide)]at hp
  subst hp
  refine wS ?_
  refine Br.isT (by simpa using h6) ?_
  refine wS ?_
  refine⟨_,[],?_,rfl,rfl⟩
  exact ZI
 have h6:¬f<0:=by simpa only[Bool.not_eq_true',decide_eq_false_iff_not]using h6
 refine vS ?_
 try simp only[hF]
 try refine Chk.mk (Qa) ?_
 refine ZoQ (q2) ?_
 generalize ZM F (f+1) d.to_=g at*
 refine wS ?_
 refine⟨fun h7=>?_,fun h7=>?_⟩
 ·have h7:g<0:=by
   cases hf0:decide (f<0)with
   |true=>exact absurd (of_decide_eq_true hf0) h6
   |false=>rw[hf0]at h7;exact of_decide_eq_true h7
  rw[if_pos (.inr h7)]at hS
  subst hS
  rw[if_pos (by decide)]at hp
  subst hp
  refine wS ?_
  refine⟨_,[],?_,rfl,rfl⟩
  exact ZI
 have h7:¬g<0:=by
  cases hf0:decide (f<0)with
  |true=>exact absurd (of_decide_eq_true hf0) h6
  |false=>rw[hf0]at h7;exact of_decide_eq_false h7
 rw[if_neg (by omega)]at hS
 subst hS
 rw[if_neg (fun h=>h rfl)]at hp
 refine wS ?_
 refine⟨i+1,⟨by omega,hp⟩,by show a.steps.length-(i+1)+0<a.steps.length-i+0;omega,?_⟩
 exact ZI
end Go.Proofs.YtjgpiclllehgmaaGreat.Vm
namespace Go.Proofs.YtjgpiclllehgmaaGreat.Sp
open Vm
def ZW (a:Zq) (i:Nat):Step:=a.steps.getD i default
def XG (t:Ze) (s:Step):Int:=ZM (Zo (callsOf t) s.run) 0 s.from_
def Zck (t:Ze) (s:Step):Int:=ZM (Zo (callsOf t) s.run) (XG t s+1) s.to_
def ZbX (t:Ze) (x:List Int) (a:Zq) (taken:List Int) (at_ now:Int) (i:Nat):Bool:=
 !taken.contains (i:Int)&&(decide ((ZW a i).from_=at_)&&decide (now≤(ZU t x (ZW a i).run (XG t (ZW a i))).goes))
def Xl (t:Ze) (x:List Int) (a:Zq) (taken:List Int) (at_ now:Int):Nat→Nat→Option Nat
 |_,0=>none
 |i,n+1=>if ZbX t x a taken at_ now i then some i else Xl t x a taken at_ now (i+1) n
def Yh (t:Ze) (x:List Int) (a:Zq):Nat→List Int→Int→Int→List Int×Int×Bool
 |0,l,_,_=>(l,0,false)
 |f+1,l,at_,now=>if at_=a.goal then(l,now,true)else match Xl t x a l at_ now 0 a.steps.length with
  |none=>(l,0,false)
  |some i=>Yh t x a f (l++[(i:Int)]) (ZW a i).to_ (ZU t x (ZW a i).run (Zck t (ZW a i))).comes
def YH (t:Ze) (x:List Int) (a:Zq):List Int×Int×Bool:=Yh t x a (a.steps.length+1) [] a.from_ a.since
def ZiF (a:Zq) (l:List Int):Nat:=((List.range a.steps.length).filter fun(i:Nat)=> !l.contains (i:Int)).length
theorem Zdx {α:Type} {p q:α→Bool} (hq:∀x,q x=true→p x=true):∀ {l:List α} {x:α},x∈l→p x=true→q x=false→(l.filter q).length<(l.filter p).length
 |a::l,x,hx,h1,h2=>by
  have hle:∀l:List α,(l.filter q).length≤(l.filter p).length:=fun l=>by
   induction l with
   |nil=>exact Nat.le_refl _
   |cons a l ih=>
    rw[List.filter_cons,List.filter_cons]
    cases h:q a with
    |true=>rw[hq a h];simpa using ih
    |false=>cases p a<;>simp<;>omega
  rw[List.filter_cons,List.filter_cons]
  rcases List.mem_cons.1 hx with rfl|hx
  ·rw[h1,h2]
   have:=hle l
   simp
   omega
  ·have ih:=Zdx hq hx h1 h2
   cases h:q a with
   |true=>rw[hq a h];simpa using ih
   |false=>cases p a<;>simp<;>omega
theorem Zqm {a:Zq} {l:List Int} {i:Nat} (hi:i<a.steps.length) (h:l.contains (i:Int)=false):ZiF a (l++[(i:Int)])<ZiF a l:=by
 refine Zdx (x:=i) (fun j hj=>?_) (List.mem_range.2 hi) (by rw[h];rfl) (by simp)
 simp only[Bool.not_eq_true',List.contains_eq_mem,List.mem_append,decide_eq_false_iff_not]at hj⊢
 exact fun h=>hj (.inl h)
theorem Zoh {a:Zq}:ZiF a []=a.steps.length:=by
 unfold ZiF
 rw[show(List.range a.steps.length).filter (fun(i:Nat)=> !([]:List Int).contains (i:Int))=List.range a.steps.length from List.filter_eq_self.2 fun _ _=>rfl,List.length_range]
theorem Zgl {t:Ze} {x:List Int} {a:Zq} {f:Nat} {l:List Int} {at_ now:Int} (hf:0<f) (h:at_=a.goal):Yh t x a f l at_ now=(l,now,true):=by
 cases f with
 |zero=>omega
 |succ f=>rw[Yh,if_pos h]
theorem Zle {t:Ze} {x:List Int} {a:Zq} {f:Nat} {l:List Int} {at_ now:Int} (hf:0<f) (h:at_≠a.goal) (hn:Xl t x a l at_ now 0 a.steps.length=none):Yh t x a f l at_ now=(l,0,false):=by
 cases f with
 |zero=>omega
 |succ f=>rw[Yh,if_neg h,hn]
theorem Zld {t:Ze} {x:List Int} {a:Zq} {f:Nat} {l:List Int} {at_ now:Int} {i:Nat} (hf:0<f) (h:at_≠a.goal) (hn:Xl t x a l at_ now 0 a.steps.length=some i):
  Yh t x a f l at_ now=Yh t x a (f-1) (l++[(i:Int)]) (ZW a i).to_ (ZU t x (ZW a i).run (Zck t (ZW a i))).comes:=by
 cases f with
 |zero=>omega
 |succ f=>rw[Yh,if_neg h,hn];rfl
theorem ZkC {t:Ze} {a:Zq} (hf:ZA t) (h:QB (callsOf t) t.runs.length a=0) {i:Nat} (hi:i<a.steps.length):
  a.steps.length≤6∧StopIn (callsOf t) (ZW a i).run (XG t (ZW a i))∧StopIn (callsOf t) (ZW a i).run (Zck t (ZW a i)):=by
 have hlen:t.runs.length=(callsOf t).length:=by unfold callsOf;rw[List.length_map]
 unfold QB at h
 split at h
 ·cases h
 split at h
 ·cases h
 have h1:=Qb h i (by omega) (by omega)
 unfold Yf at h1
 split at h1
 ·cases h1
 split at h1
 ·cases h1
 rename_i h2 h3
 have hb:0≤(ZW a i).run∧(ZW a i).run≤(t.runs.length:Int)-1:=XJ (by cases hq:Xw (ZW a i).run 0 ((t.runs.length:Int)-1)with|false=>rfl|true=>exact absurd hq h2)
 have f1:XG t (ZW a i)<(Zo (callsOf t) (ZW a i).run).length:=(Je _ _ _).1
 have f2:Zck t (ZW a i)<(Zo (callsOf t) (ZW a i).run).length:=(Je _ _ _).1
 change¬(XG t (ZW a i)<0∨Zck t (ZW a i)<0)at h3
 exact⟨by omega,⟨hb.1,by omega,by omega,f1⟩,hb.1,by omega,by omega,f2⟩
end Go.Proofs.YtjgpiclllehgmaaGreat.Sp
