/- When runs come and go in a truth, in plain Lean. -/
import Derived.Test.YtjgpiclllehgmaaGreatB1
import Derived.Test.YtjgpiclllehgmaaGreatB0
set_option linter.all false
namespace Go.Proofs.YtjgpiclllehgmaaGreat.Sp
open Vm
structure ZjF where
 comes:Int
 ready:Int
 goes:Int
deriving DecidableEq,Inhabited
def Zj (c:List (List Call)) (r:Int):List Call:=c.getD r.toNat []
def Zt (c:List (List Call)) (r a:Int):Call:=(Zj c r).getD a.toNat default
def Zh7 (x:List Int) (run leg:Int):Nat→List Qj→Int
 |_,[]=>0
 |i,d::r=>if d.run=run∧d.leg=leg then d.by_.getD (x.getD i 0).toNat 0 else Zh7 x run leg (i+1) r
def Zjp (t:Ze) (x:List Int) (run leg:Int):Int:=Zh7 x run leg 0 t.delays
def Qh (t:Ze) (x:List Int) (g:Int→Int→Int) (r a:Int):Int:=
 g r (a-1)+(Zt (callsOf t) r a).arrive-(Zt (callsOf t) r (a-1)).depart+Zjp t x r (a-1)
def X1 (c:List (List Call)) (cm:Int→Int→Int) (r:Int) (call:Call) (g:Int) (w:ZM):Int:=
 if w.train≠r∨w.station≠call.station then g
 else if cm w.feeder (ZA (Zj c w.feeder) w.station)≤call.depart+w.minutes then max g (cm w.feeder (ZA (Zj c w.feeder) w.station))else g
def Zfd (c:List (List Call)) (r a comes:Int):Int:=
 if a=((Zj c r).length:Int)-1 then comes else max (Zt c r a).depart comes
def Zat (t:Ze) (cm:Int→Int→Int) (r a ready:Int):Int:=
 if a=((Zj (callsOf t) r).length:Int)-1 then ready else t.waits.foldl (X1 (callsOf t) cm r (Zt (callsOf t) r a)) ready
def ZdC (t:Ze) (cm:Int→Int→Int) (r a comes:Int):ZjF:=
 let ready:=Zfd (callsOf t) r a comes
 let goes:=Zat t cm r a ready
 ⟨if a=0 then goes else comes,ready,goes⟩
def JF (t:Ze) (x:List Int) (g:Int→Int→Int) (r a:Int):ZjF:=
 ZdC t (Qh t x g) r a (if 0<a then Qh t x g r a else 0)
def ZdB (t:Ze) (x:List Int):Nat→Int→Int→ZjF
 |0=>fun _ _=>default
 |n+1=>fun r a=>JF t x (fun r a=>(ZdB t x n r a).goes) r a
def ZU (t:Ze) (x:List Int) (r a:Int):ZjF:=ZdB t x ((Zt (callsOf t) r a).depart.toNat+1) r a
def goes (t:Ze) (x:List Int) (r a:Int):Int:=(ZU t x r a).goes
def comes (t:Ze) (x:List Int) (r a:Int):Int:=Qh t x (goes t x) r a
def StopIn (c:List (List Call)) (r a:Int):Prop:=0≤r∧r<c.length∧0≤a∧a<(Zj c r).length
structure ZJ (t:Ze):Prop where
 calls:ZaB (callsOf t)
 nn:∀r a,StopIn (callsOf t) r a→0≤(Zt (callsOf t) r a).arrive∧(Zt (callsOf t) r a).arrive≤(Zt (callsOf t) r a).depart∧(Zt (callsOf t) r a).depart≤1099511627776
 asc:∀r a,StopIn (callsOf t) r a→0<a→(Zt (callsOf t) r (a-1)).depart<(Zt (callsOf t) r a).arrive
 wlen:t.waits.length≤4
 dlen:t.delays.length≤6
 w:∀w∈t.waits,0≤w.feeder∧w.feeder<(callsOf t).length∧1≤ZA (Zj (callsOf t) w.feeder) w.station∧0≤w.minutes∧w.minutes≤60
  ∧∀a,StopIn (callsOf t) w.train a→a≠((Zj (callsOf t) w.train).length:Int)-1→(Zt (callsOf t) w.train a).station=w.station→
   (Zt (callsOf t) w.feeder (ZA (Zj (callsOf t) w.feeder) w.station)).arrive≤(Zt (callsOf t) w.train a).depart
 d:∀d∈t.delays,1≤d.by_.length∧d.by_.length≤3∧∀n∈d.by_,0≤n∧n≤240
structure Ja (t:Ze) (x:List Int):Prop where
 len:x.length=6
 d:∀i,i<t.delays.length→0≤x.getD i 0∧x.getD i 0<(t.delays.getD i default).by_.length
theorem Yh {t:Ze} (hf:ZJ t) {w:ZM} (hw:w∈t.waits):StopIn (callsOf t) w.feeder (ZA (Zj (callsOf t) w.feeder) w.station):=by
 have h:=hf.w w hw
 have:=XF (Zj (callsOf t) w.feeder) 1 w.station
 exact⟨h.1,h.2.1,by unfold ZA at*;omega,by unfold ZA;omega⟩
theorem StopIn.prev {c:List (List Call)} {r a:Int} (h:StopIn c r a) (ha:0<a):StopIn c r (a-1):=⟨h.1,h.2.1,by have:=h.2.2.2;omega,by have:=h.2.2.2;omega⟩
theorem Zlx {x:List Int} {run leg:Int}:∀(l:List Qj) (i:Nat),(∀d∈l,∀n∈d.by_,0≤n∧n≤240)→0≤Zh7 x run leg i l∧Zh7 x run leg i l≤240
 |[],i,_=>by unfold Zh7;omega
 |d::r,i,h=>by
  unfold Zh7
  split
  ·rw[List.getD_eq_getElem?_getD]
   cases hq:d.by_[(x.getD i 0).toNat]? with
   |none=>simp
   |some n=>exact h d (List.mem_cons_self ..) n (List.mem_of_getElem? hq)
  ·exact Zlx r (i+1) fun d hd=>h d (List.mem_cons_of_mem _ hd)
theorem Zh6 {t:Ze} (hf:ZJ t) (x:List Int) (run leg:Int):0≤Zjp t x run leg∧Zjp t x run leg≤240:=Zlx _ _ fun d hd=>(hf.d d hd).2.2
theorem Y8 {α β:Type} {f g:α→β→α}:∀(l:List β) (a:α),(∀b∈l,∀a,f a b=g a b)→l.foldl f a=l.foldl g a
 |[],_,_=>rfl
 |b::r,a,h=>by
  rw[List.foldl_cons,List.foldl_cons,h b (List.mem_cons_self ..) a]
  exact Y8 r _ fun b hb=>h b (List.mem_cons_of_mem _ hb)
theorem Zc1 {t:Ze} (hf:ZJ t) (x:List Int) {g g':Int→Int→Int} {r a:Int} (hs:StopIn (callsOf t) r a)
  (h:∀r' a',StopIn (callsOf t) r' a'→(Zt (callsOf t) r' a').depart<(Zt (callsOf t) r a).depart→g r' a'=g' r' a'):JF t x g r a=JF t x g' r a:=by
 have hc:∀r' a',StopIn (callsOf t) r' a'→0<a'→(Zt (callsOf t) r' a').arrive≤(Zt (callsOf t) r a).depart→Qh t x g r' a'=Qh t x g' r' a':=fun r' a' hs' ha' hle=>by
  unfold Qh
  rw[h r' (a'-1) (hs'.prev ha') (by have:=hf.asc r' a' hs' ha';omega)]
 have h1:(if 0<a then Qh t x g r a else 0)=(if 0<a then Qh t x g' r a else 0):=by
  split
  ·exact hc r a hs (by assumption) (hf.nn r a hs).2.1
  ·rfl
 have h2:∀q,Zat t (Qh t x g) r a q=Zat t (Qh t x g') r a q:=fun q=>by
  unfold Zat
  split
  ·rfl
  rename_i hl
  refine Y8 _ _ fun w hw b=>?_
  unfold X1
  split
  ·rfl
  rename_i hq
  have hw2:=hf.w w hw
  have hq1:w.train=r:=by
   by_cases he:w.train=r
   ·exact he
   ·exact absurd (.inl he) hq
  have hq2:w.station=(Zt (callsOf t) r a).station:=by
   by_cases he:w.station=(Zt (callsOf t) r a).station
   ·exact he
   ·exact absurd (.inr he) hq
  rw[hc _ _ (Yh hf hw) (by omega) (by subst hq1;exact hw2.2.2.2.2.2 a hs hl hq2.symm)]
 unfold JF ZdC
 rw[h1]
 simp only[h2]
theorem Zei {t:Ze} (hf:ZJ t) (x:List Int):∀(n m:Nat) (r a:Int),StopIn (callsOf t) r a→(Zt (callsOf t) r a).depart<n→(Zt (callsOf t) r a).depart<m→ZdB t x n r a=ZdB t x m r a
 |0,_,r,a,hs,h,_=>by have:=hf.nn r a hs;omega
 |_+1,0,r,a,hs,_,h=>by have:=hf.nn r a hs;omega
 |n+1,m+1,r,a,hs,h1,h2=>Zc1 hf x hs fun r' a' hs' hlt=>by
  show(ZdB t x n r' a').goes=(ZdB t x m r' a').goes
  rw[Zei hf x n m r' a' hs' (by omega) (by omega)]
theorem Y7 {t:Ze} (hf:ZJ t) (x:List Int) {r a:Int} (hs:StopIn (callsOf t) r a):ZU t x r a=JF t x (goes t x) r a:=by
 show JF t x _ r a=_
 refine Zc1 hf x hs fun r' a' hs' hlt=>?_
 have:=hf.nn r' a' hs'
 have:=hf.nn r a hs
 unfold goes ZU
 rw[Zei hf x _ ((Zt (callsOf t) r' a').depart.toNat+1) r' a' hs' (by omega) (by omega)]
theorem ZeU {t:Ze} (hf:ZJ t) {cm:Int→Int→Int} {r:Int} {call:Call} {M:Int} (hM:call.depart+60≤M):∀(l:List ZM) (g:Int),(∀w∈l,w∈t.waits)→g≤M→g≤l.foldl (X1 (callsOf t) cm r call) g∧l.foldl (X1 (callsOf t) cm r call) g≤M
 |[],g,_,h=>⟨Int.le_refl _,h⟩
 |w::l,g,hl,h=>by
  rw[List.foldl_cons]
  have hw:=hf.w w (hl w (List.mem_cons_self ..))
  have h1:g≤X1 (callsOf t) cm r call g w∧X1 (callsOf t) cm r call g w≤M:=by
   unfold X1
   split
   ·omega
   split<;>omega
  have h2:=ZeU hf (cm:=cm) (r:=r) hM l (X1 (callsOf t) cm r call g w) (fun w hw=>hl w (List.mem_cons_of_mem _ hw)) h1.2
  omega
theorem Zq9 {t:Ze} (hf:ZJ t) (x:List Int) {r a:Int} (hs:StopIn (callsOf t) r a):goes t x r a=(JF t x (goes t x) r a).goes:=by
 show(ZU t x r a).goes=_
 rw[Y7 hf x hs]
theorem ZfG {t:Ze} (hf:ZJ t) (x:List Int):∀(n:Nat) (r a:Int),StopIn (callsOf t) r a→(Zt (callsOf t) r a).depart<n→
  (Zt (callsOf t) r a).arrive≤goes t x r a∧goes t x r a≤(Zt (callsOf t) r a).depart+60+240*a∧(a≠((Zj (callsOf t) r).length:Int)-1→(Zt (callsOf t) r a).depart≤goes t x r a)
 |0,r,a,hs,h=>by have:=hf.nn r a hs;omega
 |n+1,r,a,hs,h=>by
  have hn:=hf.nn r a hs
  have hcm:0<a→(Zt (callsOf t) r a).arrive≤Qh t x (goes t x) r a∧Qh t x (goes t x) r a≤(Zt (callsOf t) r a).arrive+60+240*a:=fun ha=>by
   have h1:=hf.asc r a hs ha
   have h2:=ZfG hf x n r (a-1) (hs.prev ha) (by omega)
   have h3:=h2.2.2 (by have:=hs.2.2.2;omega)
   have h4:=Zh6 hf x r (a-1)
   show _≤goes t x r (a-1)+_-_+_∧goes t x r (a-1)+_-_+_≤_
   omega
  rw[Zq9 hf x hs]
  generalize hG:goes t x=G at*
  unfold JF ZdC Zfd Zat
  have ha:=hs.2.2.1
  by_cases hl:a=((Zj (callsOf t) r).length:Int)-1
  ·have h2:0<a:=by
    have hr:=hf.calls.row (Zj (callsOf t) r) (by
     unfold Zj
     have:r.toNat<(callsOf t).length:=by have:=hs.2.1;have:=hs.1;omega
     rw[List.getD_eq_getElem?_getD,List.getElem?_eq_getElem this]
     exact List.getElem_mem _)
    omega
   simp only[if_pos hl,if_pos h2]
   have:=hcm h2
   omega
  ·simp only[if_neg hl]
   by_cases h0:0<a
   ·simp only[if_pos h0]
    have:=hcm h0
    have hw:=ZeU hf (cm:=Qh t x G) (r:=r) (call:=Zt (callsOf t) r a) (M:=(Zt (callsOf t) r a).depart+60+240*a) (by omega) t.waits (max (Zt (callsOf t) r a).depart (Qh t x G r a)) (fun w hw=>hw) (by omega)
    omega
   ·simp only[if_neg h0]
    have hw:=ZeU hf (cm:=Qh t x G) (r:=r) (call:=Zt (callsOf t) r a) (M:=(Zt (callsOf t) r a).depart+60+240*a) (by omega) t.waits (max (Zt (callsOf t) r a).depart 0) (fun w hw=>hw) (by omega)
    omega
theorem ZhU {t:Ze} (hf:ZJ t) (x:List Int) {r a:Int} (hs:StopIn (callsOf t) r a):0≤goes t x r a∧goes t x r a≤1099511640000∧(a≠((Zj (callsOf t) r).length:Int)-1→(Zt (callsOf t) r a).depart≤goes t x r a):=by
 have h:=ZfG hf x ((Zt (callsOf t) r a).depart.toNat+1) r a hs (by have:=hf.nn r a hs;omega)
 have hn:=hf.nn r a hs
 have hr:=hf.calls.row (Zj (callsOf t) r) (by
  unfold Zj
  have:r.toNat<(callsOf t).length:=by have:=hs.2.1;have:=hs.1;omega
  rw[List.getD_eq_getElem?_getD,List.getElem?_eq_getElem this]
  exact List.getElem_mem _)
 have:=hs.2.2.2
 exact⟨by omega,by omega,h.2.2⟩
theorem Zpk {t:Ze} (hf:ZJ t) (x:List Int) {r a:Int} (hs:StopIn (callsOf t) r a) (ha:0<a):(Zt (callsOf t) r a).arrive≤comes t x r a∧comes t x r a≤1099511650000:=by
 have h1:=hf.asc r a hs ha
 have h2:=ZhU hf x (hs.prev ha)
 have h3:=h2.2.2 (by have:=hs.2.2.2;omega)
 have h4:=Zh6 hf x r (a-1)
 have h5:=hf.nn r a hs
 have h6:=hf.nn r (a-1) (hs.prev ha)
 have h7:=(ZfG hf x ((Zt (callsOf t) r (a-1)).depart.toNat+1) r (a-1) (hs.prev ha) (by omega)).2.1
 have h8:=hf.calls.row (Zj (callsOf t) r) (by
  unfold Zj
  have:r.toNat<(callsOf t).length:=by have:=hs.2.1;have:=hs.1;omega
  rw[List.getD_eq_getElem?_getD,List.getElem?_eq_getElem this]
  exact List.getElem_mem _)
 have h9:=hs.2.2.2
 show _≤goes t x r (a-1)+_-_+_∧goes t x r (a-1)+_-_+_≤_
 omega
def lenAt (ds:List Qj) (m:Nat):Nat:=(ds.getD m default).by_.length
def stepT (ds:List Qj):Nat→List Int→Option (List Int)
 |0,_=>none
 |m+1,x=>if x.getD m 0=(lenAt ds m:Int)-1 then stepT ds m (x.set m 0)else some (x.set m (x.getD m 0+1))
def Zk1:List Int:=[0,0,0,0,0,0]
def Yb (ds:List Qj):Nat→Nat→List Int
 |0,_=>Zk1
 |m+1,n=>(Yb ds m (n/lenAt ds m)).set m ((n%lenAt ds m:Nat):Int)
def YB (ds:List Qj):Nat→Nat
 |0=>1
 |m+1=>YB ds m*lenAt ds m
def Z7 (t:Ze):Nat:=YB t.delays t.delays.length
def Zm (t:Ze) (n:Nat):List Int:=Yb t.delays t.delays.length n
theorem XS {ds:List Qj}:∀(m n:Nat),(Yb ds m n).length=6
 |0,_=>rfl
 |m+1,n=>by unfold Yb;rw[List.length_set];exact XS m _
theorem Zav {ds:List Qj}:∀(m n k:Nat),m≤k→(Yb ds m n).getD k 0=0
 |0,_,k,_=>by
  unfold Yb Zk1
  match k with
  |0|1|2|3|4|5=>rfl
  |k+6=>rfl
 |m+1,n,k,h=>by
  unfold Yb
  rw[List.getD_eq_getElem?_getD,List.getElem?_set_ne (by omega),←List.getD_eq_getElem?_getD]
  exact Zav m _ k (by omega)
theorem ZhZ {ds:List Qj} (m n:Nat) (hm:m<6):(Yb ds m n).set m 0=Yb ds m n:=by
 refine List.ext_getElem? fun i=>?_
 by_cases h:m=i
 ·subst h
  rw[List.getElem?_set_self (by rw[XS];exact hm)]
  have h0:=Zav (ds:=ds) m n m (Nat.le_refl _)
  rw[List.getD_eq_getElem?_getD,List.getElem?_eq_getElem (by rw[XS];exact hm)]at h0
  rw[List.getElem?_eq_getElem (by rw[XS];exact hm)]
  exact congrArg some h0.symm
 ·rw[List.getElem?_set_ne h]
theorem Zje {ds:List Qj} (hd:∀m,m<ds.length→1≤lenAt ds m) (h6:ds.length≤6):∀(m n:Nat),m≤ds.length→n<YB ds m→stepT ds m (Yb ds m n)=if n+1<YB ds m then some (Yb ds m (n+1))else none
 |0,n,_,h=>by
  unfold YB at*
  rw[if_neg (by omega)]
  rfl
 |m+1,n,hm,h=>by
  have hl:=hd m (by omega)
  unfold YB at h⊢
  have hq:n/lenAt ds m<YB ds m:=Nat.div_lt_of_lt_mul (by rw[Nat.mul_comm];exact h)
  have ih:=Zje hd h6 m (n/lenAt ds m) (by omega) hq
  have hx:(Yb ds (m+1) n).getD m 0=((n%lenAt ds m:Nat):Int):=by
   show((Yb ds m (n/lenAt ds m)).set m _).getD m 0=_
   rw[List.getD_eq_getElem?_getD,List.getElem?_set_self (by rw[XS];omega)]
   rfl
  have hdm:=Nat.div_add_mod n (lenAt ds m)
  have hml:=Nat.mod_lt n (show lenAt ds m>0 by omega)
  unfold stepT
  rw[hx]
  by_cases he:n%lenAt ds m+1=lenAt ds m
  ·rw[if_pos (by omega)]
   have e0:(Yb ds (m+1) n).set m 0=Yb ds m (n/lenAt ds m):=by
    show((Yb ds m (n/lenAt ds m)).set m _).set m 0=_
    rw[List.set_set,ZhZ m _ (by omega)]
   have e1:n+1=lenAt ds m*(n/lenAt ds m+1):=by rw[Nat.mul_add];omega
   rw[e0,ih]
   by_cases hlt:n/lenAt ds m+1<YB ds m
   ·have h2:n+1<YB ds m*lenAt ds m:=by rw[e1,Nat.mul_comm (lenAt ds m)];exact Nat.mul_lt_mul_of_pos_right hlt (by omega)
    rw[if_pos hlt,if_pos h2]
    congr 1
    show _=(Yb ds m ((n+1)/lenAt ds m)).set m (((n+1)%lenAt ds m:Nat):Int)
    rw[e1,Nat.mul_div_cancel_left _ (by omega),Nat.mul_mod_right]
    exact(ZhZ m _ (by omega)).symm
   ·rw[if_neg hlt,if_neg]
    rw[e1,Nat.mul_comm (lenAt ds m)]
    have:=Nat.mul_le_mul_right (lenAt ds m) (show YB ds m≤n/lenAt ds m+1 by omega)
    omega
  ·rw[if_neg (by omega)]
   have hlt:n%lenAt ds m+1<lenAt ds m:=by omega
   have e1:n+1=lenAt ds m*(n/lenAt ds m)+(n%lenAt ds m+1):=by omega
   have hdv:(n+1)/lenAt ds m=n/lenAt ds m:=by
    rw[e1,Nat.mul_add_div (by omega),Nat.div_eq_of_lt hlt]
    omega
   have hmd:(n+1)%lenAt ds m=n%lenAt ds m+1:=by
    rw[e1,Nat.mul_add_mod,Nat.mod_eq_of_lt hlt]
   have h2:n+1<YB ds m*lenAt ds m:=by
    have h3:=Nat.mul_le_mul_right (lenAt ds m) (show n/lenAt ds m+1≤YB ds m by omega)
    rw[Nat.add_mul,Nat.one_mul,Nat.mul_comm (n/lenAt ds m)]at h3
    omega
   rw[if_pos h2]
   congr 1
   show((Yb ds m (n/lenAt ds m)).set m _).set m _=(Yb ds m ((n+1)/lenAt ds m)).set m (((n+1)%lenAt ds m:Nat):Int)
   rw[List.set_set,hdv,hmd]
   rfl
theorem Zpc {ds:List Qj} (hd:∀m,m<ds.length→1≤lenAt ds m) (h6:ds.length≤6):∀(m n:Nat),m≤ds.length→∀k,k<m→0≤(Yb ds m n).getD k 0∧(Yb ds m n).getD k 0<lenAt ds k
 |0,_,_,k,h=>by omega
 |m+1,n,hm,k,h=>by
  by_cases he:m=k
  ·subst he
   have hl:=hd m (by omega)
   have:(Yb ds (m+1) n).getD m 0=((n%lenAt ds m:Nat):Int):=by
    show((Yb ds m (n/lenAt ds m)).set m _).getD m 0=_
    rw[List.getD_eq_getElem?_getD,List.getElem?_set_self (by rw[XS];omega)]
    rfl
   rw[this]
   have:=Nat.mod_lt n (show lenAt ds m>0 by omega)
   omega
  ·have:(Yb ds (m+1) n).getD k 0=(Yb ds m (n/lenAt ds m)).getD k 0:=by
    show((Yb ds m (n/lenAt ds m)).set m _).getD k 0=_
    rw[List.getD_eq_getElem?_getD,List.getElem?_set_ne he,←List.getD_eq_getElem?_getD]
   rw[this]
   exact Zpc hd h6 m _ (by omega) k (by omega)
theorem Zs5 {t:Ze} (hf:ZJ t):∀m,m<t.delays.length→1≤lenAt t.delays m:=fun m h=>by
 unfold lenAt
 rw[List.getD_eq_getElem?_getD,List.getElem?_eq_getElem h]
 exact(hf.d _ (List.getElem_mem h)).1
theorem Yj {t:Ze} (hf:ZJ t) (n:Nat):Ja t (Zm t n):=⟨XS _ _,fun i hi=>Zpc (Zs5 hf) hf.dlen _ n (Nat.le_refl _) i hi⟩
theorem ZcL {t:Ze} (hf:ZJ t) {n:Nat} (hn:n<Z7 t):stepT t.delays t.delays.length (Zm t n)=if n+1<Z7 t then some (Zm t (n+1))else none:=Zje (Zs5 hf) hf.dlen _ n (Nat.le_refl _) hn
theorem ZiG {ds:List Qj} (hd:∀m,m<ds.length→1≤lenAt ds m):∀m,m≤ds.length→1≤YB ds m
 |0,_=>Nat.le_refl _
 |m+1,h=>Nat.mul_le_mul (ZiG hd m (by omega)) (hd m (by omega))
theorem ZiM {t:Ze} (hf:ZJ t):1≤Z7 t:=ZiG (Zs5 hf) _ (Nat.le_refl _)
theorem ZgZ {ds:List Qj}:∀m,m≤6→Yb ds m 0=Zk1
 |0,_=>rfl
 |m+1,h=>by
  unfold Yb
  rw[Nat.zero_div,Nat.zero_mod]
  show(Yb ds m 0).set m 0=_
  rw[ZhZ m 0 (by omega)]
  exact ZgZ m (by omega)
theorem ZcK {t:Ze} (hf:ZJ t):Zm t 0=Zk1:=ZgZ _ hf.dlen
def EndAt (stop:Nat→Bool) (n m:Nat):Prop:=(m=n∧∀j,j<n→stop j=false)∨∃j,m=j+1∧j<n∧stop j=true∧∀i,i<j→stop i=false
end Go.Proofs.YtjgpiclllehgmaaGreat.Sp
namespace Go.Proofs.YtjgpiclllehgmaaGreat.Vm
attribute [local irreducible] Dn
open Go Go.Proofs Sp
set_option maxRecDepth 100000
set_option maxHeartbeats 4000000
theorem Zvy (c:List (List Sp.Call)) (d:Sp.Qj) (bf:List Sp.Qj) (hc:ZaB c) (hb:bf.length≤1000000) (hd:d.by_.length≤1000000):SC (fun _=>Tryz.prog) 134 [lst 1 Zb [] c,.agg (ZB d),lst 3 ZB default bf] [] fun v h=>v= .int .i64 (fun _=>QJ c d bf)∧h=[]:=by
 obtain⟨nt,hnt⟩:=Zu
 rw[Zow hnt,Za hnt (enc:=ZB),show AV.agg (ZB d)= .agg [.int .i64 fun _=>d.run,.int .i64 fun _=>d.leg,.isl 1 (fun _=>(d.by_.length:Int)) (fun e=>XJ (nt Int 0 d.by_ (e ()))) .none] by unfold ZB;rw[Za hnt]]
 refine Qv Tryz.func134 (body:=Zk Tryz.f134) rfl (by decide+kernel) ?_
 have hlen:=hc.len
 have k1:=ZbL d.run 0 (c.length-1)
 have hmem:∀i:Int,0≤i→i≤(c.length:Int)-1→nt (List Sp.Call) [] c i∈c:=fun i h0 h1=>by
  have:i.toNat<c.length:=by omega
  rw[hnt,List.getD_eq_getElem?_getD,List.getElem?_eq_getElem this]
  exact List.getElem_mem _
 generalize hE:QJ c d bf=e
 unfold QJ at hE
 rw[←hnt (List Sp.Call) [] c d.run]at hE
 refine wS ?_
 refine Zpt (k1) ?_
 refine wS ?_
 have hin:(!Qs d.run 0 ((c.length:Int)-1))=true→(0≤d.run∧d.run<c.length)∧((nt (List Sp.Call) [] c d.run).length:Int)≤4:=fun h=>by
  have b:=QO (nb2 h)
  have:=(hc.row _ (hmem _ b.1 b.2)).2
  omega
 refine Chk.mk ?_ ?_
 ·simp only[nc,QW,QV,Q3,QU,Cn.p,and_true,true_and]
  (repeat' (first|apply And.intro|intro _))<;>first|assumption|(have:=hin (by assumption);omega)
 refine⟨fun h1=>?_,fun h1=>?_⟩
 case refine_2=>
  have h1:=nb4 h1
  rw[h1,Bool.true_or,if_pos rfl]at hE
  subst hE
  refine wS ?_
  refine Br.isT rfl ?_
  (cbv;(try simp only[nc]at*);(try refine Chk.mk (Qd) ?_))
  (try first|exact⟨rfl,trivial⟩|exact⟨trivial,trivial⟩)
 have h1:=nb2 h1
 rw[h1,Bool.false_or]at hE
 have b1:=QO h1
 have m1:=hmem _ b1.1 b1.2
 have r1:=hc.row _ m1
 clear hin
 have k2:=ZbL d.leg 0 ((nt (List Sp.Call) [] c d.run).length-2)
 refine wS ?_
 refine Zpt (k2) ?_
 refine wS ?_
 refine⟨fun h2=>?_,fun h2=>?_⟩
 ·rw[h1]at h2
  have h2:Qs d.leg 0 ((nt (List Sp.Call) [] c d.run).length-2)=true:=h2
  rw[if_pos h2]at hE
  subst hE
  (cbv;(try simp only[nc]at*);(try refine Chk.mk (Qd) ?_))
  (try first|exact⟨rfl,trivial⟩|exact⟨trivial,trivial⟩)
 rw[h1]at h2
 have h2:Qs d.leg 0 ((nt (List Sp.Call) [] c d.run).length-2)=false:=h2
 rw[if_neg (by rw[h2];exact Bool.false_ne_true)]at hE
 refine wS ?_
 refine⟨fun h3=>?_,fun h3=>?_⟩
 ·have h3:=eq_of_beq h3
  rw[if_pos (by omega)]at hE
  subst hE
  (cbv;(try simp only[nc]at*);(try refine Chk.mk (Qd) ?_))
  (try first|exact⟨rfl,trivial⟩|exact⟨trivial,trivial⟩)
 have h3:=ne_of_beq_false h3
 rw[if_neg (by omega)]at hE
 refine wS ?_
 refine⟨fun h4=>?_,fun h4=>?_⟩
 ·have h4:=of_decide_eq_true h4
  rw[if_pos (by omega)]at hE
  subst hE
  (cbv;(try simp only[nc]at*);(try refine Chk.mk (Qd) ?_))
  (try first|exact⟨rfl,trivial⟩|exact⟨trivial,trivial⟩)
 have h4:=of_decide_eq_false h4
 rw[if_neg (by omega)]at hE
 clear h1 h2 k1 k2
 refine wS ?_
 refine ZS false false [] [2,4,41,42,43] [] (fun(i:Nat)=>[(43,.int .i64 fun _=>i)]) (fun _=>[]) (fun i=>i≤d.by_.length∧Zv (Zgr d.by_) 0 d.by_.length=Zv (Zgr d.by_) i (d.by_.length-i)) (fun i=>d.by_.length-i+0) 0 ⟨Nat.zero_le _,by simp⟩ ?_ ?_
 ·exact ZK
 rintro i ⟨hi,hp⟩
 refine wS ?_
 refine⟨fun hb=>?_,fun hb=>?_⟩
 ·have hb:=of_decide_eq_true hb
  rw[Xg (by omega)]at hp
  have hby:Zgr d.by_ i=if Qs (nt Int 0 d.by_ i) 0 240 then 1 else if 0<i∧nt Int 0 d.by_ i≤nt Int 0 d.by_ ((i:Int)-1)then 5 else 0:=by
   unfold Zgr
   rw[XX hnt]
   by_cases h0:0<i
   ·rw[XX hnt,show((i-1:Nat):Int)=(i:Int)-1 by omega]
   ·simp[h0]
  have k3:=ZbL (nt Int 0 d.by_ i) 0 240
  refine wS ?_
  refine Zpt (k3) ?_
  refine wS ?_
  refine⟨fun h5=>?_,fun h5=>?_⟩
  ·rw[if_pos h5]at hby
   rw[hby,if_pos (by decide)]at hp
   rw[hp,if_pos (by decide)]at hE
   subst hE
   (cbv;(try simp only[nc]at*);(try refine Chk.mk (Qd) ?_))
   (try first|exact⟨rfl,trivial⟩|exact⟨trivial,trivial⟩)
  rw[if_neg (by rw[h5];exact Bool.false_ne_true)]at hby
  refine vS ?_
  refine Chk.mk ?_ ?_
  ·simp only[nc,QW,QV,Q3,QU,Cn.p,and_true,true_and,decide_eq_true_eq]
   (repeat' (first|apply And.intro|intro _))<;>first|assumption|omega
  have he:(bif decide (0<(i:Int))then decide (nt Int 0 d.by_ i≤nt Int 0 d.by_ ((i:Int)-1))else false)=decide (0<i∧nt Int 0 d.by_ i≤nt Int 0 d.by_ ((i:Int)-1)):=by
   by_cases e1:0<i
   ·have:(0:Int)<i:=by omega
    simp[e1,this]
   ·have:¬(0:Int)<i:=by omega
    simp[e1,this]
  refine⟨fun h6=>?_,fun h6=>?_⟩
  ·rw[he]at h6
   rw[if_pos (of_decide_eq_true h6)]at hby
   rw[hby,if_pos (by decide)]at hp
   rw[hp,if_pos (by decide)]at hE
   subst hE
   (cbv;(try simp only[nc]at*);(try refine Chk.mk (Qd) ?_))
   (try first|exact⟨rfl,trivial⟩|exact⟨trivial,trivial⟩)
  ·rw[he]at h6
   rw[if_neg (of_decide_eq_false h6)]at hby
   rw[hby,if_neg (fun h=>h rfl)]at hp
   refine wS ?_
   refine⟨i+1,⟨by omega,hp⟩,by show d.by_.length-(i+1)+0<d.by_.length-i+0;omega,?_⟩
   exact ZK
 ·have hb:=of_decide_eq_false hb
  rw[Xx (by omega)]at hp
  rw[hp,if_neg (fun h=>h rfl)]at hE
  refine wS ?_
  refine ZS false false [] [4,65,66,67] [] (fun(i:Nat)=>[(67,.int .i64 fun _=>i)]) (fun _=>[]) (fun i=>i≤bf.length∧bf.any (fun x=>decide (x.run=d.run∧x.leg=d.leg))=(bf.drop i).any (fun x=>decide (x.run=d.run∧x.leg=d.leg))) (fun i=>bf.length-i+0) 0 ⟨Nat.zero_le _,by simp⟩ ?_ ?_
  ·exact ZK
  rintro i ⟨hi,hp⟩
  refine wS ?_
  refine⟨fun hb=>?_,fun hb=>?_⟩
  ·have hb:=of_decide_eq_true hb
   have hdd:=Qu (d:=default) hnt (l:=bf) (i:=i) (by omega)
   rw[hdd,List.any_cons]at hp
   generalize hx:nt Sp.Qj default bf i=x at*
   refine vS ?_
   try simp only[hx]
   try refine Chk.mk (Qd) ?_
   have he:(bif x.run==d.run then x.leg==d.leg else false)=decide (x.run=d.run∧x.leg=d.leg):=by
    by_cases e1:x.run=d.run<;>by_cases e2:x.leg=d.leg<;>simp[e1,e2]
   refine⟨fun h9=>?_,fun h9=>?_⟩
   ·rw[he]at h9
    rw[h9,Bool.true_or]at hp
    rw[hp,if_pos rfl]at hE
    subst hE
    (cbv;(try simp only[nc]at*);(try refine Chk.mk (Qd) ?_))
    (try first|exact⟨rfl,trivial⟩|exact⟨trivial,trivial⟩)
   ·rw[he]at h9
    rw[h9,Bool.false_or]at hp
    refine wS ?_
    refine⟨i+1,⟨by omega,hp⟩,by show bf.length-(i+1)+0<bf.length-i+0;omega,?_⟩
    exact ZK
  ·have hb:=of_decide_eq_false hb
   rw[List.drop_eq_nil_of_le (by omega)]at hp
   rw[hp,List.any_nil,if_neg Bool.false_ne_true]at hE
   subst hE
   (cbv;(try simp only[nc]at*);(try refine Chk.mk (Qd) ?_))
   (try first|exact⟨rfl,trivial⟩|exact⟨trivial,trivial⟩)
set_option maxHeartbeats 8000000
structure Xj (t:Ze):Prop where
 book:YK t.book
 runs:t.runs.length≤1000000
 waits:t.waits.length≤1000000
 delays:t.delays.length≤1000000
 bys:∀d∈t.delays,d.by_.length≤1000000
def ZX (t:Ze):List AV:=[lst 2 encZone default t.book.zones,lst 3 encTrain default t.book.old,lst 3 encTrain default t.book.new,.int .i64 fun _=>t.book.night,.int .i64 fun _=>t.book.last,
 lst 2 Zh default t.runs,lst 4 QR default t.waits,lst 3 ZB default t.delays,lst 1 Zb [] (callsOf t)]
def QD (e:Int) (t:Ze):AV:=if e=0 then .iptr (ZX t) 0 else .nilptr
theorem ZdN {t:Ze} (h:Q6 t=0):ZaB (callsOf t):=by
 unfold Q6 at h
 split at h
 ·cases h
 split at h
 ·cases h
 have h2:=Z4 h
 refine⟨by unfold callsOf;rw[List.length_map];omega,fun l hl=>?_⟩
 obtain⟨r,hr,rfl⟩:=List.mem_map.1 hl
 obtain⟨j,hj,hrj⟩:=Y6 (d:=default) hr
 have h3:=h2 j (by omega) (by omega)
 have hl:=Zhu t.book r.number r.day
 unfold ZaJ at h3
 rw[show t.runs.getD j default=r from hrj]at h3
 split at h3
 ·exact absurd h3 (by assumption)
 ·rename_i h4
  exact⟨hl.2 (Decidable.of_not_not h4),hl.1⟩
theorem Zpr (t:Ze) (hf:Xj t):SC (fun _=>Tryz.prog) 80 [Zf t] [] fun v h=>v= .tup [QD (Zl t) t,.int .i64 fun _=>Zl t]∧h=[]:=by
 obtain⟨nt,hnt⟩:=Zu
 refine SC.less (Qv Tryz.func80 (body:=Zk Tryz.f80) rfl (by decide+kernel) ?_)
 have k28:=c28 t.book hf.book
 have k432:=ZvA t hf.book hf.runs
 obtain⟨P,hP⟩:∃P,P=QD (Zl t) t:=⟨_,rfl⟩
 rw[←hP]
 generalize hE:Zl t=e at*
 unfold Zl at hE
 unfold Zf at*
 unfold Zc at k28
 simp only[Za hnt]at k28 k432⊢
 refine wS ?_
 refine ZY (k28) (by first|rfl|(simp only[Zd,Zc,Zf,Zb,Za hnt];rfl)) fun r h₂ hp=>?_
 (try simp only[Zd,Zc,Zf,Zb,Za hnt]at hp)
 obtain⟨rfl,rfl⟩:=hp
 generalize Sp.XW t.book=e1 at*
 refine wS ?_
 refine⟨fun h1=>?_,fun h1=>?_⟩
 ·have h1:e1≠0:=by simpa only[bne_iff_ne]using h1
  rw[if_pos h1]at hE
  subst hE
  unfold QD at hP
  rw[if_neg h1]at hP
  subst hP
  refine wS ?_
  refine⟨_,[],?_,rfl,rfl⟩
  exact ZK
 case refine_2=>
  have h1:e1=0:=by simpa only[bne_eq_false_iff_eq]using h1
  rw[if_neg (by omega)]at hE
  have hfit:= @ZdN t
  refine wS ?_
  refine ZY (k432) (by first|rfl|(simp only[Zd,Zc,Zf,Zb,Za hnt];rfl)) fun r h₂ hp=>?_
  (try simp only[Zd,Zc,Zf,Zb,Za hnt]at hp)
  obtain⟨rfl,rfl⟩:=hp
  generalize Q6 t=e2 at*
  refine wS ?_
  refine⟨fun h2=>?_,fun h2=>?_⟩
  ·have h2:e2≠0:=by simpa only[bne_iff_ne]using h2
   rw[if_pos h2]at hE
   subst hE
   unfold QD at hP
   rw[if_neg h2]at hP
   subst hP
   refine wS ?_
   refine⟨_,[],?_,rfl,rfl⟩
   exact ZK
  have h2:e2=0:=by simpa only[bne_eq_false_iff_eq]using h2
  subst h2
  rw[if_neg (fun h=>h rfl)]at hE
  have hfc:=hfit rfl
  clear k28 k432 hfit
  simp only[if_true]
  generalize hcc:callsOf t=c at*
  refine wS ?_
  refine⟨fun h3=>?_,fun h3=>?_⟩
  ·simp only[decide_eq_true_eq]at h3
   rw[if_pos (by omega)]at hE
   subst hE
   unfold QD at hP
   rw[if_neg (by decide)]at hP
   subst hP
   refine wS ?_
   refine⟨_,[],?_,rfl,rfl⟩
   exact ZK
  simp only[decide_eq_false_iff_not]at h3
  rw[if_neg (by omega)]at hE
  refine wS ?_
  refine ZS false false [] [1,5,32,33,34] [] (fun(i:Nat)=>[(34,.int .i64 fun _=>(i:Int))]) (fun _=>[]) (fun i=>i≤t.waits.length∧Zv (fun i=>Qt c (t.waits.getD i default) (t.waits.take i)) 0 t.waits.length=Zv (fun i=>Qt c (t.waits.getD i default) (t.waits.take i)) i (t.waits.length-i)) (fun i=>t.waits.length-i+0) 0 ⟨by omega,rfl⟩ ?_ ?_
  ·exact ZK
  rintro i ⟨hi,hp⟩
  refine wS ?_
  refine⟨fun hb=>?_,fun hb=>?_⟩
  ·simp only[decide_eq_true_eq]at hb
   rw[Xg (by omega)]at hp
   have hwe:Qt c (t.waits.getD i default) (t.waits.take i)=Qt c (nt ZM default t.waits i) (t.waits.take i):=by rw[XX hnt]
   generalize hd:nt ZM default t.waits i=d at*
   refine vS ?_
   simp only[hd]
   refine Chk.mk (Qd) ?_
   refine Ji (Zvz c d (t.waits.take i) hfc (by have:=hf.waits;simp;omega)) (by(try simp only[Zd,Zc,Zf,Zb,Za hnt]);exact ZK) (by first|rfl|(simp only[Zd,Zc,Zf,Zb,Za hnt];rfl)) fun r h₂ hp=>?_
   (try simp only[Zd,Zc,Zf,Zb,Za hnt]at hp)
   obtain⟨rfl,rfl⟩:=hp
   refine wS ?_
   refine⟨fun h5=>?_,fun h5=>?_⟩
   ·simp only[bne_iff_ne,ne_eq]at h5
    rw[hwe,if_pos h5]at hp
    rw[hp,if_pos h5]at hE
    rw[←hE]at hP
    unfold QD at hP
    rw[if_neg h5]at hP
    subst hP
    subst hE
    refine wS ?_
    refine⟨_,[],?_,rfl,rfl⟩
    exact ZK
   ·simp only[bne_eq_false_iff_eq]at h5
    rw[hwe,if_neg (fun h=>h h5)]at hp
    refine wS ?_
    refine⟨i+1,⟨by omega,hp⟩,by show t.waits.length-(i+1)+0<t.waits.length-i+0;omega,?_⟩
    exact ZK
  simp only[decide_eq_false_iff_not]at hb
  rw[Xx (by omega)]at hp
  rw[hp,if_neg (fun h=>h rfl)]at hE
  clear hp hb
  refine wS ?_
  refine⟨fun h6=>?_,fun h6=>?_⟩
  ·simp only[decide_eq_true_eq]at h6
   rw[if_pos (by omega)]at hE
   subst hE
   unfold QD at hP
   rw[if_neg (by decide)]at hP
   subst hP
   refine wS ?_
   refine⟨_,[],?_,rfl,rfl⟩
   exact ZK
  simp only[decide_eq_false_iff_not]at h6
  rw[if_neg (by omega)]at hE
  refine wS ?_
  refine ZS false false [] [1,5,55,56,57] [] (fun(i:Nat)=>[(57,.int .i64 fun _=>(i:Int))]) (fun _=>[]) (fun i=>i≤t.delays.length∧e=Zv (fun i=>QJ c (t.delays.getD i default) (t.delays.take i)) i (t.delays.length-i)) (fun i=>t.delays.length-i+0) 0 ⟨by omega,hE.symm⟩ ?_ ?_
  ·exact ZK
  rintro i ⟨hi,hp⟩
  refine wS ?_
  refine⟨fun hb=>?_,fun hb=>?_⟩
  ·simp only[decide_eq_true_eq]at hb
   rw[Xg (by omega)]at hp
   have hwe:QJ c (t.delays.getD i default) (t.delays.take i)=QJ c (nt Qj default t.delays i) (t.delays.take i):=by rw[XX hnt]
   have hby:(nt Qj default t.delays i).by_.length≤1000000:=by
    rw[hnt,List.getD_eq_getElem?_getD,List.getElem?_eq_getElem (by omega)]
    exact hf.bys _ (List.getElem_mem _)
   generalize hd:nt Qj default t.delays i=d at*
   refine vS ?_
   simp only[hd]
   refine Chk.mk (Qd) ?_
   refine Ji (Zvy c d (t.delays.take i) hfc (by have:=hf.delays;simp;omega) hby) (by(try simp only[Zd,Zc,Zf,Zb,Za hnt]);exact ZK) (by first|rfl|(simp only[Zd,Zc,Zf,Zb,Za hnt];rfl)) fun r h₂ hp=>?_
   (try simp only[Zd,Zc,Zf,Zb,Za hnt]at hp)
   obtain⟨rfl,rfl⟩:=hp
   refine wS ?_
   refine⟨fun h5=>?_,fun h5=>?_⟩
   ·simp only[bne_iff_ne,ne_eq]at h5
    rw[hwe,if_pos h5]at hp
    rw[hp]at hP
    unfold QD at hP
    rw[if_neg h5]at hP
    subst hP
    subst hp
    refine wS ?_
    refine⟨_,[],?_,rfl,rfl⟩
    exact ZK
   ·simp only[bne_eq_false_iff_eq]at h5
    rw[hwe,if_neg (fun h=>h h5)]at hp
    refine wS ?_
    refine⟨i+1,⟨by omega,hp⟩,by show t.delays.length-(i+1)+0<t.delays.length-i+0;omega,?_⟩
    exact ZK
  simp only[decide_eq_false_iff_not]at hb
  rw[Xx (by omega)]at hp
  subst hp
  unfold QD at hP
  rw[if_pos rfl]at hP
  subst hP
  refine wS ?_
  unfold ZX
  simp only[hcc,Za hnt,Zb]
  refine⟨_,[],?_,rfl,rfl⟩
  exact ZK
set_option maxHeartbeats 4000000
def Qk (t:Ze) (w:Int):Int:=if Zl t=0 then(if Qs w 0 ((t.waits.length:Int)-1)then 3 else 0)else Zl t
theorem ZuG (t:Ze) (w:Int) (hf:Xj t):SC (fun _=>Tryz.prog) 106 [Zf t,.int .i64 fun _=>w] [] fun v h=>v= .tup [QD (Zl t) t,.int .i64 fun _=>Qk t w]∧h=[]:=by
 obtain⟨nt,hnt⟩:=Zu
 refine SC.less (Qv Tryz.func106 (body:=Zk Tryz.f106) rfl (by decide+kernel) ?_)
 have k:=Zpr t hf
 have hw:=hf.waits
 have k1:=ZbL w 0 ((t.waits.length:Int)-1)
 generalize hE:Qk t w=e
 unfold Qk at hE
 unfold Zf at*
 simp only[Za hnt]at k⊢
 by_cases he:Zl t=0
 ·unfold QD at k⊢
  rw[if_pos he]at k⊢
  rw[if_pos he]at hE
  unfold ZX at k⊢
  simp only[Za hnt,Zb]at k⊢
  rw[he]at k
  refine wS ?_
  refine Zpt (k) ?_
  refine wS ?_
  refine Br.isT rfl ?_
  refine wS ?_
  refine Zpt (k1) ?_
  refine wS ?_
  refine⟨fun h=>?_,fun h=>?_⟩
  ·have h:Qs w 0 ((t.waits.length:Int)-1)=true:=h
   rw[if_pos h]at hE
   subst hE
   refine wS ?_
   refine⟨_,[],?_,rfl,rfl⟩
   exact ZK
  ·have h:Qs w 0 ((t.waits.length:Int)-1)=false:=h
   rw[if_neg (by rw[h];exact Bool.false_ne_true)]at hE
   subst hE
   refine wS ?_
   refine⟨_,[],?_,rfl,rfl⟩
   exact ZK
 ·unfold QD at k⊢
  rw[if_neg he]at k⊢
  rw[if_neg he]at hE
  rw[hE]at k he
  refine wS ?_
  refine Zpt (k) ?_
  refine wS ?_
  refine⟨fun h=>?_,fun h=>?_⟩
  ·exact absurd (eq_of_beq h) he
  refine wS ?_
  refine Br.isF rfl ?_
  refine wS ?_
  refine⟨_,[],?_,rfl,rfl⟩
  exact ZK
def X2 (x:List Int):List AV:=[.int .i64 fun _=>x.getD 0 0,.int .i64 fun _=>x.getD 1 0,.int .i64 fun _=>x.getD 2 0,.int .i64 fun _=>x.getD 3 0,.int .i64 fun _=>x.getD 4 0,.int .i64 fun _=>x.getD 5 0]
theorem ZeF {x:List Int} {e:Int} {i:Nat} (he:e=i) (hi:i<6):ZjY [fun _=>x.getD 0 0,fun _=>x.getD 1 0,fun _=>x.getD 2 0,fun _=>x.getD 3 0,fun _=>x.getD 4 0,fun _=>x.getD 5 0] e=x.getD i 0:=by
 subst he
 match i,hi with
 |0,_=>rfl
 |1,_=>rfl
 |2,_=>rfl
 |3,_=>rfl
 |4,_=>rfl
 |5,_=>rfl
theorem Zvt (t:Ze) (x:List Int) (run leg:Int) (hx:Ja t x) (hl:t.delays.length≤6):SC (fun _=>Tryz.prog) 178 [.iptr (ZX t) 0,.agg (X2 x),.int .i64 fun _=>run,.int .i64 fun _=>leg] [] fun v h=>v= .int .i64 (fun _=>Zjp t x run leg)∧h=[]:=by
 obtain⟨nt,hnt⟩:=Zu
 unfold ZX
 simp only[Za hnt,Zb,ZB]
 refine SC.less (Qv Tryz.func178 (body:=Zk Tryz.f178) rfl (by decide+kernel) ?_)
 generalize hE:Zjp t x run leg=e
 unfold Zjp at hE
 refine wS ?_
 refine ZS false false [] [2,3,5,15,16,17] [] (fun(i:Nat)=>[(17,.int .i64 fun _=>(i:Int))]) (fun _=>[]) (fun i=>i≤t.delays.length∧e=Zh7 x run leg i (t.delays.drop i)) (fun i=>t.delays.length-i+0) 0 ⟨by omega,by rw[List.drop_zero];exact hE.symm⟩ ?_ ?_
 ·exact ZK
 rintro i ⟨hi,hp⟩
 refine wS ?_
 refine⟨fun hb=>?_,fun hb=>?_⟩
 case refine_2=>
  simp only[decide_eq_false_iff_not]at hb
  rw[List.drop_eq_nil_of_le (by omega),Zh7]at hp
  subst hp
  refine wS ?_
  refine⟨_,[],?_,rfl,rfl⟩
  exact ZK
 simp only[decide_eq_true_eq]at hb
 have hdr:=Qu (d:=default) hnt (l:=t.delays) (i:=i) (by omega)
 rw[hdr,Zh7]at hp
 have hxi:=hx.d i (by omega)
 rw[show t.delays.getD i default=nt Qj default t.delays i by rw[XX hnt]]at hxi
 have hs:= @ZeF x i i rfl (by omega)
 generalize hd:nt Qj default t.delays i=d at*
 refine vS ?_
 simp only[hd]
 refine Chk.mk (Qd) ?_
 have he:(bif d.run==run then d.leg==leg else false)=decide (d.run=run∧d.leg=leg):=by
  by_cases e1:d.run=run<;>by_cases e2:d.leg=leg<;>simp[e1,e2]
 refine⟨fun h9=>?_,fun h9=>?_⟩
 ·rw[he]at h9
  rw[if_pos (of_decide_eq_true h9),←hnt Int 0 d.by_ (x.getD i 0)]at hp
  subst hp
  refine vS ?_
  try simp only[hd,hs]
  generalize x.getD i 0=y at*
  have hy:=hxi.1
  have hy2:=hxi.2
  refine Chk.mk (Qd) ?_
  refine⟨_,[],?_,rfl,rfl⟩
  exact ZK
 ·rw[he]at h9
  rw[if_neg (of_decide_eq_false h9)]at hp
  refine wS ?_
  refine⟨i+1,⟨by omega,hp⟩,by show t.delays.length-(i+1)+0<t.delays.length-i+0;omega,?_⟩
  exact ZK
end Go.Proofs.YtjgpiclllehgmaaGreat.Vm
namespace Go.Proofs.YtjgpiclllehgmaaGreat.Vm
open Go Go.Proofs
set_option maxRecDepth 100000
section
variable {n k:Nat}
end
section
variable {n k:Nat} {nt:(α:Type)→α→List α→Int→α} (hnt:∀(α:Type) (d:α) (l:List α) (i:Int),nt α d l i=l.getD i.toNat d)
include hnt
end
end Go.Proofs.YtjgpiclllehgmaaGreat.Vm
namespace Go.Proofs.YtjgpiclllehgmaaGreat.Vm
open Go Go.Proofs
theorem ZdV.perm {α:Type} {ka:Nat} {V:α→Value→Prop} {es:Array MapEntry} {clk:Nat} {L L':List (List Int×α)} (h:ZdV ka V es clk L) (hp:L.Perm L'):ZdV ka V es clk L':=by
 obtain⟨l,h⟩:=h
 exact⟨l,{h with L:=h.L.trans hp}⟩
theorem ZH.imap {n k ka m:Nat} {L L':Unit→List (List Int×List Int)} (h:(L ()).Perm (L' ())):ZH n k (.imap ka m L) (.imap ka m L'):=⟨fun R v _ hv=>by
 cases hv with
 |pure _ _ hp=>
  cases hp with
  |imap _ _ _ b es clk h1 h2 h3=>exact .pure _ _ (.imap ka m L' b es clk h1 (h2.perm h) h3)
  |imap0 _ _ _ h0=>exact .pure _ _ (.imap0 ka m L' (by rw[h0]at h;exact h.nil_eq.symm▸rfl))⟩
theorem YC.frame {p:Unit→Program} {id j:Nat} {xs:List AV} {h:List Zi} {Post Q:AV→List Zi→Prop} (l:List Nat) (hnd:l.Nodup) (hlt:∀i∈l,i<h.length) (hj:l[j]? =some id) (H:YC p j (xs.map (Qx false l h 5)) (sel false l h) Q)
  (hq:∀r h₂,Q r h₂→Post (ren (YO l h.length) 5 r) (back l h h₂)):YC p id xs h Post:=
 ⟨fun G R vs hr ha=>by
  obtain⟨R₂,acx,a0,a1,a2,a3,a4,a5,a6,a7,a8⟩:=hr.sel (fz:=false) (ι:=l) (Zrz R h l) (fun b o n k=>.inl k) (fun b o n o' n' k h1 h2=>by
    rcases k with k|k|k
    ·exact .inl (hr.sub k h1 h2)
    ·exact .inr (.inl k)
    ·exact .inr (.inr k)) (fun b o n hb=>.inr (.inl hb)) (fun i blk b hi hb hk hp o n=>.inr (.inr ⟨i,blk,hi,hb,hk,hp⟩)) hnd hlt (fun hf=>by cases hf) l.length (Nat.le_refl _) (fun hf=>by cases hf)
  have hrow:XY R₂ (xs.map (Qx false l h 5)) vs:=⟨by rw[List.length_map];exact ha.1,fun j c hj=>by
   rw[List.getElem?_map,Option.map_eq_some_iff]at hj
   obtain⟨x,hx,rfl⟩:=hj
   exact a8 5 x _ (ha.2 j x hx)⟩
  obtain⟨f,tmps,a,x,h1,h2⟩:=H.run _ R₂ vs a6 hrow
  rw[a1,a3 j id hj]at h1
  refine⟨f,tmps,a,x,h1,fun c cs=>?_⟩
  obtain⟨v,R',r,h',b1,b3,b4,b5,b6,b7⟩:=h2 c cs
  rw[a1,acx,a3 j id hj]at b1
  obtain⟨R'',c1,c2,c3,c4,c5⟩:=ZfJ hr hnd hlt acx a0 a1 a2 a3 a4 a5 a7 b3 b4 b5
  exact⟨v,R'',_,_,by rw[c1];exact b1,c2,c3,c4,c5 5 r v b6,hq r h' b7⟩⟩
theorem YC.frameB {p:Unit→Program} {id j:Nat} {xs ys:List AV} {h hc h₂ h':List Zi} {b:Bool} {Post:AV→List Zi→Prop} (l:List Nat) (hnd:l.Nodup) (hlt:∀i∈l,i<h.length) (hj:l[j]? =some id) (hx:xs.map (Qx false l h 5)=ys) (hsel:sel false l h=hc)
  (H:YC p j ys hc fun v h=>v= .bool (fun _=>b)∧h=h₂) (hbk:back l h h₂=h') (hP:Post (.bool fun _=>b) h'):YC p id xs h Post:=
 YC.frame l hnd hlt hj (by rw[hx,hsel];exact H) fun r h₃ hp=>by
  obtain⟨rfl,rfl⟩:=hp
  rw[hbk]
  exact hP
end Go.Proofs.YtjgpiclllehgmaaGreat.Vm
namespace Go.Proofs.YtjgpiclllehgmaaGreat.Sp
open Vm
def Zcg (h:ZjF):List Int:=[h.comes,h.ready,h.goes]
theorem ZaW {α β:Type} [BEq α] [LawfulBEq α] {k:α} {v:β}:∀ {L:List (α×β)},L.lookup k=some v→(k,v)∈L
 |[],h=>by cases h
 |(a,b)::r,h=>by
  rw[List.lookup_cons]at h
  split at h
  ·rename_i he
   have he:=eq_of_beq he
   subst he
   cases h
   exact List.mem_cons_self ..
  ·exact List.mem_cons_of_mem _ (ZaW h)
theorem Zff {α:Type} {L:List (List Int×α)} {k:List Int} {d:α} {p:List Int×α} (h:p∈Y4 L k d):p=(k,d)∨p∈L:=by
 unfold Y4 at h
 split at h
 ·obtain⟨q,hq,rfl⟩:=List.mem_map.1 h
  split
  ·exact .inl rfl
  ·exact .inr hq
 ·rcases List.mem_append.1 h with h|h
  ·exact .inr h
  ·exact .inl (List.mem_singleton.1 h)
theorem Zdm {α:Type} {L:List (List Int×α)} {k:List Int} {d:α}:(k,d)∈Y4 L k d:=by
 unfold Y4
 split
 ·rename_i h
  obtain⟨p,hp,he⟩:=List.any_eq_true.1 h
  exact List.mem_map.2 ⟨p,hp,if_pos he⟩
 ·exact List.mem_append.2 (.inr (List.mem_singleton.2 rfl))
theorem ZgG {α:Type} {L:List (List Int×α)} {k:List Int} {d:α} {p:List Int×α} (h:p∈L) (hk:p.1=k→p.2=d):p∈Y4 L k d:=by
 unfold Y4
 split
 ·refine List.mem_map.2 ⟨p,h,?_⟩
  split
  ·rename_i he
   have he:=eq_of_beq he
   rw[←he,←hk he]
  ·rfl
 ·exact List.mem_append.2 (.inl h)
theorem Zdn {α:Type} {L:List (List Int×α)} {k:List Int} {d:α} (h:(L.map (·.1)).Nodup):((Y4 L k d).map (·.1)).Nodup:=by
 unfold Y4
 split
 ·rw[List.map_map]
  have:((fun p:List Int×α=>p.1)∘fun p=>if p.1==k then(k,d)else p)=fun p=>p.1:=by
   funext p
   simp only[Function.comp]
   split
   ·rename_i he
    exact(eq_of_beq he).symm
   ·rfl
  rw[this]
  exact h
 ·rename_i hn
  rw[List.map_append,List.nodup_append]
  refine⟨h,by simp,fun a ha b hb=>?_⟩
  rintro rfl
  obtain⟨p,hp,rfl⟩:=List.mem_map.1 ha
  have hb:=List.mem_singleton.1 hb
  exact hn (List.any_eq_true.2 ⟨p,hp,by simpa using hb⟩)
structure TmInv (t:Ze) (x:List Int) (C K:List (List Int×List Int)):Prop where
 c:∀p∈C,∃r a,StopIn (callsOf t) r a∧0<a∧p=([r,a],[comes t x r a])
 k:∀p∈K,∃r a,StopIn (callsOf t) r a∧p=([r,a],Zcg (ZU t x r a))
 nd:(K.map (·.1)).Nodup
 ndc:(C.map (·.1)).Nodup
theorem TmInv.cv {t:Ze} {x:List Int} {C K:List (List Int×List Int)} (h:TmInv t x C K) {r a:Int} {v:List Int} (hl:C.lookup [r,a]=some v):v=[comes t x r a]:=by
 obtain⟨r',a',_,_,e⟩:=h.c _ (ZaW hl)
 cases e
 rfl
theorem TmInv.kv {t:Ze} {x:List Int} {C K:List (List Int×List Int)} (h:TmInv t x C K) {r a:Int} {v:List Int} (hl:K.lookup [r,a]=some v):v=Zcg (ZU t x r a):=by
 obtain⟨r',a',_,e⟩:=h.k _ (ZaW hl)
 cases e
 rfl
theorem TmInv.putC {t:Ze} {x:List Int} {C K:List (List Int×List Int)} (h:TmInv t x C K) {r a:Int} (hs:StopIn (callsOf t) r a) (ha:0<a) {v:Int} (hv:comes t x r a=v):TmInv t x (Y4 C [r,a] [v]) K∧(Y4 C [r,a] [v]).lookup [r,a]=some [v]:=by
 have hn:=Zdn (k:=[r,a]) (d:=[v]) h.ndc
 refine⟨⟨fun p hp=>?_,h.k,h.nd,hn⟩,Zb3 hn Zdm⟩
 rcases Zff hp with rfl|hp
 ·exact⟨r,a,hs,ha,by rw[hv]⟩
 ·exact h.c p hp
theorem TmInv.putK {t:Ze} {x:List Int} {C K:List (List Int×List Int)} (h:TmInv t x C K) {r a:Int} (hs:StopIn (callsOf t) r a) {v:List Int} (hv:Zcg (ZU t x r a)=v):TmInv t x C (Y4 K [r,a] v)∧(∀p∈K,p∈Y4 K [r,a] v)∧([r,a],v)∈Y4 K [r,a] v:=by
 have hn:=Zdn (k:=[r,a]) (d:=v) h.nd
 refine⟨⟨h.c,fun p hp=>?_,hn,h.ndc⟩,fun p hp=>ZgG hp fun e=>?_,Zdm⟩
 ·rcases Zff hp with rfl|hp
  ·exact⟨r,a,hs,by rw[hv]⟩
  ·exact h.k p hp
 ·obtain⟨r',a',_,rfl⟩:=h.k p hp
  cases e
  exact hv
def ZcM (c:List (List Call)):List (Int×Int):=(List.range c.length).flatMap fun(r:Nat)=>(List.range (Zj c r).length).map fun(a:Nat)=>((r:Int),(a:Int))
def Ql (t:Ze) (x:List Int):List (List Int×List Int):=(ZcM (callsOf t)).map fun s=>([s.1,s.2],Zcg (ZU t x s.1 s.2))
theorem Jt {c:List (List Call)} {r a:Int}:(r,a)∈ZcM c↔StopIn c r a:=by
 unfold ZcM StopIn
 simp only[List.mem_flatMap,List.mem_map,List.mem_range,Prod.mk.injEq]
 constructor
 ·rintro⟨r',h1,a',h2,rfl,rfl⟩
  omega
 ·rintro⟨h1,h2,h3,h4⟩
  refine⟨r.toNat,by omega,a.toNat,?_,by omega,by omega⟩
  rw[show((r.toNat:Nat):Int)=r by omega]
  omega
theorem Zbo {c:List (List Call)}:(ZcM c).Nodup:=by
 unfold ZcM
 refine List.pairwise_flatMap.2 ?_
 refine⟨fun r _=>List.Pairwise.map _ (fun a b h e=>?_) List.nodup_range,List.nodup_range.imp fun h=>?_⟩
 ·cases e
  exact h rfl
 ·intro a ha b hb e
  obtain⟨_,_,rfl⟩:=List.mem_map.1 ha
  obtain⟨_,_,rfl⟩:=List.mem_map.1 hb
  cases e
  exact h rfl
theorem TmInv.perm {t:Ze} {x:List Int} {C K:List (List Int×List Int)} (h:TmInv t x C K) (hall:∀r a,StopIn (callsOf t) r a→([r,a],Zcg (ZU t x r a))∈K):K.Perm (Ql t x):=by
 have hk:K.Nodup:=List.Pairwise.of_map (fun p:List Int×List Int=>p.1) (fun a b h e=>h (by rw[e])) h.nd
 have hl:(Ql t x).Nodup:=List.Pairwise.map _ (fun a b hab e=>by
  apply hab
  simp only[Prod.mk.injEq,List.cons.injEq,and_true]at e
  exact Prod.ext e.1.1 e.1.2) Zbo
 rw[List.perm_iff_count]
 intro p
 rw[hk.count,hl.count]
 have:p∈K↔p∈Ql t x:=by
  unfold Ql
  rw[List.mem_map]
  constructor
  ·intro hp
   obtain⟨r,a,hs,rfl⟩:=h.k p hp
   exact⟨(r,a),Jt.2 hs,rfl⟩
  ·rintro⟨⟨r,a⟩,hs,rfl⟩
   exact hall r a (Jt.1 hs)
 simp only[this]
end Go.Proofs.YtjgpiclllehgmaaGreat.Sp
namespace Go.Proofs.YtjgpiclllehgmaaGreat.Vm
attribute [local irreducible] Dn
open Go Go.Proofs Sp
set_option maxRecDepth 100000
set_option maxHeartbeats 4000000
def tmH (W:List AV) (X:List AV) (C K:List (List Int×List Int)):List Zi:=[.cells [.iptr W 0],.cells X,.gob (.mapL 2 0 fun _=>C),.gob (.mapL 2 3 fun _=>K),.cells [.map 2],.cells [.map 3],
 .cells [.fn 179 [] [.ptr 5 0,.ptr 0 0,.ptr 7 0]],.cells [.fn 177 [] [.ptr 4 0,.ptr 0 0,.ptr 6 0,.ptr 1 0]]]
def Zh9 (a b:Int):AV:=.agg [.int .i64 fun _=>a,.int .i64 fun _=>b]
def ZmH (a b c:Int):AV:=.agg [.int .i64 fun _=>a,.int .i64 fun _=>b,.int .i64 fun _=>c]
theorem Xm {nt:(α:Type)→α→List α→Int→α} (hnt:∀(α:Type) (d:α) (l:List α) (i:Int),nt α d l i=l.getD i.toNat d) (c:List (List Sp.Call)) (r:Int):Sp.Zj c r=nt (List Sp.Call) [] c r:=by rw[hnt];rfl
theorem Zb7 {nt:(α:Type)→α→List α→Int→α} (hnt:∀(α:Type) (d:α) (l:List α) (i:Int),nt α d l i=l.getD i.toNat d) (c:List (List Sp.Call)) (r a:Int):Zt c r a=nt Sp.Call default (nt (List Sp.Call) [] c r) a:=by rw[hnt,hnt];rfl
theorem Jw {c:List (List Sp.Call)} (hc:ZaB c) {r a:Int} (hs:StopIn c r a):c.length≤4∧2≤(Sp.Zj c r).length∧(Sp.Zj c r).length≤4:=by
 have:=hc.row (Sp.Zj c r) (by
  unfold Sp.Zj
  have:r.toNat<c.length:=by have:=hs.2.1;have:=hs.1;omega
  rw[List.getD_eq_getElem?_getD,List.getElem?_eq_getElem this]
  exact List.getElem_mem _)
 exact⟨hc.len,this⟩
theorem cL1 (l:List Nat) {f:FuncId} {xs ys:List AV} {h hc:List Zi} {Post Q:AV→List Zi→Prop} (H:SC (fun _=>Tryz.prog) f ys hc Q) (hq:∀ r h₂,Q r h₂→Post (ren (YO l h.length) 5 r) (back l h h₂)) (hn:l.Nodup:=by decide) (hl:∀ i∈l,i<h.length:=by simp) (hx:xs.map (Qx false l h 5)=ys:=by first|rfl|(simp only[Zd,Zc,Zf,Zb,Za hnt];rfl)) (hh:sel false l h=hc:=by first|rfl|(simp only[Zd,Zc,Zf,Zb,Za hnt];rfl)):SC (fun _=>Tryz.prog) f xs h Post:=ZP l H hn hl hx hh hq
theorem ZtE (t:Ze) (x:List Int) (hf:ZJ t) (hx:Ja t x) (n:Int)
  (ih:∀r a C K,StopIn (callsOf t) r a→2*(Zt (callsOf t) r a).depart+1<n→TmInv t x C K→SC (fun _=>Tryz.prog) 179 [Zh9 r a,.ptr 5 0,.ptr 0 0,.ptr 7 0] (tmH (ZX t) (X2 x) C K) fun v h=>v=ZmH (ZU t x r a).comes (ZU t x r a).ready (ZU t x r a).goes∧∃C' K',TmInv t x C' K'∧(∀p∈K,p∈K')∧([r,a],Zcg (ZU t x r a))∈K'∧h=tmH (ZX t) (X2 x) C' K')
  (r a:Int) (C K:List (List Int×List Int)) (hs:StopIn (callsOf t) r a) (ha:0<a) (hn:2*(Zt (callsOf t) r a).arrive<n+1) (hi:TmInv t x C K):
  SC (fun _=>Tryz.prog) 177 [Zh9 r a,.ptr 4 0,.ptr 0 0,.ptr 6 0,.ptr 1 0] (tmH (ZX t) (X2 x) C K) fun v h=>v= .int .i64 (fun _=>comes t x r a)∧∃C' K',TmInv t x C' K'∧(∀p∈K,p∈K')∧h=tmH (ZX t) (X2 x) C' K':=by
 obtain⟨nt,hnt⟩:=Zu
 have hasc:=hf.asc r a hs ha
 have k:=ih r (a-1) C K (hs.prev ha) (by omega) hi
 have k2:=Zvt t x r (a-1) hx hf.dlen
 have hb1:=Zpk hf x hs ha
 have hb2:=ZhU hf x (hs.prev ha)
 have hb3:=hf.nn r a hs
 have hb4:=hf.nn r (a-1) (hs.prev ha)
 have hb5:=Zh6 hf x r (a-1)
 have hcv:=fun v=> @TmInv.cv t x C K hi r a v
 have hput:=fun C' K' (h:TmInv t x C' K') v (e:comes t x r a=v)=>h.putC hs ha e
 have hin:=hs
 unfold StopIn at hin
 have hr4:=Jw hf.calls hs
 have hE:comes t x r a=(ZU t x r (a-1)).goes+(Zt (callsOf t) r a).arrive-(Zt (callsOf t) r (a-1)).depart+Zjp t x r (a-1):=rfl
 unfold goes at hb2
 rw[Xm hnt]at hb2 hin hr4
 rw[Zb7 hnt]at*
 rw[Zb7 hnt]at*
 unfold tmH Zh9 ZmH X2 at*
 unfold ZX at*
 simp only[Za hnt,Zb]at*
 generalize comes t x r a=e at*
 generalize ZU t x r (a-1)=H at*
 generalize Zjp t x r (a-1)=y at*
 generalize hcc:callsOf t=c at*
 refine SC.less (Qv Tryz.func177 (body:=Zk Tryz.f177) rfl (by decide+kernel) ?_)
 refine wS ?_
 refine⟨fun h0=>?_,fun h0=>?_⟩
 ·refine wS ?_
  have hval:((C.lookup [r,a]).getD []).headD 0=e:=by
   obtain⟨v,hv⟩:=Option.isSome_iff_exists.1 h0
   rw[hv,hcv v hv]
   rfl
  refine⟨_,_,?_,rfl,C,K,hi,fun p hp=>hp,rfl⟩
  exact ZK
 ·refine wS ?_
  refine cL1 [0,1,2,3,4,5,6,7] (k) fun r h₂ hp=>?_
  (try simp only[Zd,Zc,Zf,Zb,Za hnt]at hp)
  obtain⟨rfl,C2,K2,hi2,hm2,_,rfl⟩:=hp
  refine wS ?_
  refine ZY (k2) (by first|rfl|(simp only[Zd,Zc,Zf,Zb,Za hnt];rfl)) fun r h₂ hp=>?_
  (try simp only[Zd,Zc,Zf,Zb,Za hnt]at hp)
  obtain⟨rfl,rfl⟩:=hp
  refine wS ?_
  rw[←hE]
  have q:=hput C2 K2 hi2 e rfl
  have hval:((List.lookup [r,a] (Y4 C2 [r,a] [e])).getD []).headD 0=e:=by rw[q.2];rfl
  refine⟨_,_,?_,rfl,Y4 C2 [r,a] [e],K2,q.1,hm2,rfl⟩
  exact ZK
theorem ZtD (t:Ze) (x:List Int) (hf:ZJ t) (hx:Ja t x) (n:Int)
  (ih:∀r a C K,StopIn (callsOf t) r a→0<a→2*(Zt (callsOf t) r a).arrive<n→TmInv t x C K→SC (fun _=>Tryz.prog) 177 [Zh9 r a,.ptr 4 0,.ptr 0 0,.ptr 6 0,.ptr 1 0] (tmH (ZX t) (X2 x) C K) fun v h=>v= .int .i64 (fun _=>comes t x r a)∧∃C' K',TmInv t x C' K'∧(∀p∈K,p∈K')∧h=tmH (ZX t) (X2 x) C' K')
  (r a:Int) (C K:List (List Int×List Int)) (hs:StopIn (callsOf t) r a) (hn:2*(Zt (callsOf t) r a).depart+1<n+1) (hi:TmInv t x C K):
  SC (fun _=>Tryz.prog) 179 [Zh9 r a,.ptr 5 0,.ptr 0 0,.ptr 7 0] (tmH (ZX t) (X2 x) C K) fun v h=>v=ZmH (ZU t x r a).comes (ZU t x r a).ready (ZU t x r a).goes∧∃C' K',TmInv t x C' K'∧(∀p∈K,p∈K')∧([r,a],Zcg (ZU t x r a))∈K'∧h=tmH (ZX t) (X2 x) C' K':=by
 obtain⟨nt,hnt⟩:=Zu
 have hin:=hs
 unfold StopIn at hin
 have hr4:=Jw hf.calls hs
 have hkv:=fun v=> @TmInv.kv t x C K hi r a v
 have hkm:∀v,K.lookup [r,a]=some v→([r,a],v)∈K:=fun v h=>ZaW h
 have hputK:=fun C' K' (h:TmInv t x C' K') v (e:Zcg (ZU t x r a)=v)=>h.putK hs e
 have hb3:=hf.nn r a hs
 have hk1:=fun h:0<a=>ih r a C K hs h (by have:=hf.nn r a hs;omega) hi
 obtain⟨cm0,hcm0⟩:∃m,m=if 0<a then comes t x r a else 0:=⟨_,rfl⟩
 obtain⟨rd,hrd⟩:∃m,m=Zfd (callsOf t) r a cm0:=⟨_,rfl⟩
 obtain⟨gf,hgf⟩:∃m,m=Zat t (comes t x) r a rd:=⟨_,rfl⟩
 obtain⟨cs,hcs⟩:∃m,m=if a=0 then gf else cm0:=⟨_,rfl⟩
 have hHeq:ZU t x r a=⟨cs,rd,gf⟩:=by
  rw[Y7 hf x hs,hcs,hgf,hrd,hcm0]
  rfl
 obtain⟨W,hW⟩:∃W:Int→Sp.ZM→Int,∀g w,W g w=if a=((Sp.Zj (callsOf t) r).length:Int)-1 then g else X1 (callsOf t) (comes t x) r (Zt (callsOf t) r a) g w:=⟨_,fun _ _=>rfl⟩
 have hgf:gf=t.waits.foldl W rd:=by
  rw[hgf]
  unfold Zat
  split
  ·rename_i hl
   have h1:∀g w,W g w=g:=fun g w=>by rw[hW,if_pos hl]
   generalize t.waits=l
   induction l with
   |nil=>rfl
   |cons w l ih=>rw[List.foldl_cons,h1];exact ih
  ·rename_i hl
   exact Y8 _ _ fun w _ g=>by rw[hW,if_neg hl]
 have hwl:=hf.wlen
 have hwf:=fun w (hw:w∈t.waits)=>And.intro (Yh hf hw) (And.intro (hf.w w hw).2.2.1 (And.intro (hf.w w hw).2.2.2.1 (hf.w w hw).2.2.2.2.1))
 have hwr:=fun w (hw:w∈t.waits)=>Jw hf.calls (Yh hf hw)
 have hk3:=fun w (hw:w∈t.waits) (h1:w.train=r) (h2:w.station=(Zt (callsOf t) r a).station) (h3:a≠((Sp.Zj (callsOf t) r).length:Int)-1) C' K' (h:TmInv t x C' K')=>
  ih w.feeder (ZA (Sp.Zj (callsOf t) w.feeder) w.station) C' K' (Yh hf hw) (by have:=(hf.w w hw).2.2.1;omega) (by have:=(hf.w w hw).2.2.2.2.2 a (by rw[h1];exact hs) (by rw[h1];exact h3) (by rw[h1];exact h2.symm);rw[h1]at this;omega) h
 unfold Zfd at hrd
 unfold X1 at hW
 unfold StopIn at hwf
 rw[hHeq]at hkv hputK⊢
 unfold Zcg at hkv hputK⊢
 dsimp only at hkv hputK⊢
 simp only[Xm hnt,Zb7 hnt]at hin hr4 hb3 hrd hW hwf hwr hk3
 unfold tmH Zh9 ZmH X2 at*
 unfold ZX at*
 simp only[Za hnt,Zb]at*
 generalize hcc:callsOf t=c at*
 refine SC.less (Ztd false false [8,11] Tryz.func179 (body:=Zk Tryz.f179) rfl (by decide+kernel) ?_)
 refine wS ?_
 refine⟨fun h0=>?_,fun h0=>?_⟩
 ·refine wS ?_
  obtain⟨v,hv⟩:=Option.isSome_iff_exists.1 h0
  have hv2:=hkv v hv
  have hmem:=hkm v hv
  subst hv2
  simp only[hv]
  refine⟨_,_,?_,rfl,C,K,hi,fun p hp=>hp,hmem,rfl⟩
  exact ZK
 ·refine wS ?_
  refine Ztc false false [] 50 [1,2,3,4,5,8,9] (fun _=>[]) (fun p:List (List Int×List Int)×List (List Int×List Int)=>[(2,.gob (.mapL 2 0 fun _=>p.1)),(3,.gob (.mapL 2 3 fun _=>p.2)),(12,.cells [.int .i64 fun _=>cm0,.int .i64 fun _=>0,.int .i64 fun _=>0])]) (fun p=>TmInv t x p.1 p.2∧∀q∈K,q∈p.2) (fun _ _ h=>h) (by decide) ?_ ?_
  ·refine wS ?_
   refine⟨fun h1=>?_,fun h1=>?_⟩
   ·have h1:=of_decide_eq_true h1
    have k:=hk1 h1
    rw[if_pos h1]at hcm0
    rw[←hcm0]at k
    refine wS ?_
    refine cL1 [0,1,2,3,4,5,6,7] (k) fun r h₂ hp=>?_
    (try simp only[Zd,Zc,Zf,Zb,Za hnt]at hp)
    obtain⟨rfl,C2,K2,hi2,hm2,rfl⟩:=hp
    refine wS ?_
    refine⟨(C2,K2),⟨hi2,hm2⟩,?_⟩
    exact ZK
   ·have h1:=of_decide_eq_false h1
    rw[if_neg h1]at hcm0
    subst hcm0
    refine wS ?_
    refine⟨(C,K),⟨hi,fun _ h=>h⟩,?_⟩
    exact ZK
  intro p hh
  refine wS ?_
  obtain⟨C1,K1⟩:=p
  obtain⟨hi1,hm1⟩:=hh
  refine Ztc false false [] 40 [1,2,3,4,5,8,9] (fun _:Unit=>[]) (fun _=>[(12,.cells [.int .i64 fun _=>cm0,.int .i64 fun _=>rd,.int .i64 fun _=>0])]) (fun _=>True) (fun _ _ h=>h) (by decide) ?_ ?_
  ·refine wS ?_
   refine⟨fun h2=>?_,fun h2=>?_⟩
   ·have h2:=eq_of_beq h2
    rw[if_pos h2]at hrd
    subst hrd
    refine wS ?_
    refine⟨(),trivial,?_⟩
    exact ZK
   ·have h2:=ne_of_beq_false h2
    rw[if_neg h2,Int.max_def]at hrd
    refine wS ?_
    refine⟨(),trivial,?_⟩
    exact ZK
  intro _ _
  refine wS ?_
  refine Zaq fun Q hQ=>?_
  refine ZS false false [] [1,2,3,4,5,8,9,69,70,71] [] (fun p:Nat×(List (List Int×List Int)×List (List Int×List Int))×Int=>[(71,.int .i64 fun _=>(p.1:Int))]) (fun p=>[(2,.gob (.mapL 2 0 fun _=>p.2.1.1)),(3,.gob (.mapL 2 3 fun _=>p.2.1.2)),(12,.cells [.int .i64 fun _=>cm0,.int .i64 fun _=>rd,.int .i64 fun _=>p.2.2])])
   (fun p=>p.1≤t.waits.length∧TmInv t x p.2.1.1 p.2.1.2∧(∀q∈K,q∈p.2.1.2)∧gf=(t.waits.drop p.1).foldl W p.2.2) (fun p=>t.waits.length-p.1+0) (0,(C1,K1),rd) ⟨by omega,hi1,hm1,hgf⟩ ?_ ?_
  ·exact ZK
  intro p hh
  refine wS ?_
  have hil:=hh.1
  have hi2:=hh.2.1
  have hm2:=hh.2.2.1
  have hp:=hh.2.2.2
  clear hh
  refine⟨fun hb=>?_,fun hb=>?_⟩
  case refine_2=>
   simp only[decide_eq_false_iff_not]at hb
   rw[List.drop_eq_nil_of_le (by omega),List.foldl_nil]at hp
   subst hp
   refine wS ?_
   refine hQ _ _ _ ?_
   refine wS ?_
   refine⟨fun h5=>?_,fun h5=>?_⟩
   ·have h5:a=0:=eq_of_beq h5
    rw[if_pos h5]at hcs
    have q:=hputK p.2.1.1 p.2.1.2 hi2 _ rfl
    refine wS ?_
    refine⟨_,_,?_,rfl,p.2.1.1,Y4 p.2.1.2 [r,a] [cs,rd,p.2.2],q.1,fun z hz=>q.2.1 z (hm2 z hz),q.2.2,rfl⟩
    refine JO ?_
    rw[hcs]
    exact ZR.refl _
   ·have h5:a≠0:=ne_of_beq_false h5
    rw[if_neg h5]at hcs
    have q:=hputK p.2.1.1 p.2.1.2 hi2 _ rfl
    refine wS ?_
    refine⟨_,_,?_,rfl,p.2.1.1,Y4 p.2.1.2 [r,a] [cs,rd,p.2.2],q.1,fun z hz=>q.2.1 z (hm2 z hz),q.2.2,rfl⟩
    refine JO ?_
    rw[hcs]
    exact ZR.refl _
  simp only[decide_eq_true_eq]at hb
  have hdr:=Qu (d:=default) hnt (l:=t.waits) (i:=p.1) (by omega)
  rw[hdr,List.foldl_cons]at hp
  have hmem:nt Sp.ZM default t.waits p.1∈t.waits:=QQ hnt (by omega)
  have hw1:=hwf _ hmem
  have hw2:=hwr _ hmem
  have hw3:=hk3 _ hmem
  have hw4:=hW p.2.2 (nt Sp.ZM default t.waits p.1)
  generalize hd:nt Sp.ZM default t.waits p.1=w at*
  refine vS ?_
  simp only[hd]
  refine Chk.mk (Qd) ?_
  generalize hL:((nt (List Sp.Call) [] c r).length:Int)-1=L at*
  generalize hX:(nt Sp.Call default (nt (List Sp.Call) [] c r) a).station=X at*
  refine⟨fun h3=>?_,fun h3=>?_⟩
  ·have hk:W p.2.2 w=p.2.2:=by
    rw[hw4]
    by_cases e3:a=L
    ·rw[if_pos e3]
    ·rw[if_neg e3]
     by_cases e1:w.train=r
     ·by_cases e2:w.station=X
      ·simp[e1,e2,e3]at h3
      ·rw[if_pos (.inr e2)]
     ·rw[if_pos (.inl e1)]
   rw[hk]at hp
   refine wS ?_
   refine⟨(p.1+1,p.2),⟨by show p.1+1≤_;omega,hi2,hm2,hp⟩,by show t.waits.length-(p.1+1)+0<t.waits.length-p.1+0;omega,?_⟩
   exact ZK
  have q:w.train=r∧w.station=X∧a≠L:=by
   by_cases e1:w.train=r
   ·by_cases e2:w.station=X
    ·by_cases e3:a=L
     ·simp[e1,e2,e3]at h3
     ·exact⟨e1,e2,e3⟩
    ·simp[e1,e2]at h3
   ·simp[e1]at h3
  have k3:=hw3 q.1 q.2.1 q.2.2 _ _ hi2
  rw[if_neg q.2.2,if_neg (by omega)]at hw4
  clear hw3
  generalize hF:nt (List Sp.Call) [] c w.feeder=F at*
  have k395:=Zro F w.station (by omega)
  simp only[Za hnt]at k395
  generalize ZA F w.station=f at*
  generalize comes t x w.feeder f=cmv at*
  refine vS ?_
  try simp only[hd,hF]
  try refine Chk.mk (Qd) ?_
  refine ZY (k395) (by first|rfl|(simp only[Zd,Zc,Zf,Zb,Za hnt];rfl)) fun r h₂ hp=>?_
  (try simp only[Zd,Zc,Zf,Zb,Za hnt]at hp)
  obtain⟨rfl,rfl⟩:=hp
  refine vS ?_
  try simp only[hd,hF]
  try refine Chk.mk (Qd) ?_
  refine cL1 [0,1,2,3,4,5,6,7] (k3) fun r h₂ hp=>?_
  (try simp only[Zd,Zc,Zf,Zb,Za hnt]at hp)
  obtain⟨rfl,C3,K3,hi3,hm3,rfl⟩:=hp
  refine vS ?_
  try simp only[hd,hF]
  try refine Chk.mk (Qd) ?_
  refine⟨fun h4=>?_,fun h4=>?_⟩
  ·have h4:=of_decide_eq_true h4
   rw[if_pos h4,Int.max_def]at hw4
   rw[hw4]at hp
   generalize hg2:(if p.2.2≤cmv then cmv else p.2.2)=g2 at*
   have hg3:(if p.2.2<cmv then cmv else p.2.2)=g2:=by rw[←hg2];split<;>split<;>omega
   refine wS ?_
   refine⟨(p.1+1,(C3,K3),g2),⟨by show p.1+1≤_;omega,hi3,fun z hz=>hm3 z (hm2 z hz),hp⟩,by show t.waits.length-(p.1+1)+0<t.waits.length-p.1+0;omega,?_⟩
   exact ZK
  ·have h4:=of_decide_eq_false h4
   rw[if_neg h4]at hw4
   rw[hw4]at hp
   refine wS ?_
   refine⟨(p.1+1,(C3,K3),p.2.2),⟨by show p.1+1≤_;omega,hi3,fun z hz=>hm3 z (hm2 z hz),hp⟩,by show t.waits.length-(p.1+1)+0<t.waits.length-p.1+0;omega,?_⟩
   exact ZK
theorem ZrD (t:Ze) (x:List Int) (hf:ZJ t) (hx:Ja t x):∀n:Nat,
  (∀r a C K,StopIn (callsOf t) r a→0<a→2*(Zt (callsOf t) r a).arrive<n→TmInv t x C K→SC (fun _=>Tryz.prog) 177 [Zh9 r a,.ptr 4 0,.ptr 0 0,.ptr 6 0,.ptr 1 0] (tmH (ZX t) (X2 x) C K) fun v h=>v= .int .i64 (fun _=>comes t x r a)∧∃C' K',TmInv t x C' K'∧(∀p∈K,p∈K')∧h=tmH (ZX t) (X2 x) C' K')∧
  (∀r a C K,StopIn (callsOf t) r a→2*(Zt (callsOf t) r a).depart+1<n→TmInv t x C K→SC (fun _=>Tryz.prog) 179 [Zh9 r a,.ptr 5 0,.ptr 0 0,.ptr 7 0] (tmH (ZX t) (X2 x) C K) fun v h=>v=ZmH (ZU t x r a).comes (ZU t x r a).ready (ZU t x r a).goes∧∃C' K',TmInv t x C' K'∧(∀p∈K,p∈K')∧([r,a],Zcg (ZU t x r a))∈K'∧h=tmH (ZX t) (X2 x) C' K')
 |0=>⟨fun r a C K hs _ hn=>by have:=hf.nn r a hs;omega,fun r a C K hs hn=>by have:=hf.nn r a hs;omega⟩
 |n+1=>by
  have ih:=ZrD t x hf hx n
  exact⟨fun r a C K hs ha hn hi=>ZtE t x hf hx n ih.2 r a C K hs ha (by omega) hi,fun r a C K hs hn hi=>ZtD t x hf hx n ih.1 r a C K hs (by omega) hi⟩
theorem ZuD (t:Ze) (x:List Int) (hf:ZJ t) (hx:Ja t x):SC (fun _=>Tryz.prog) 137 [.iptr (ZX t) 0,.agg (X2 x)] [] fun v h=>v= .imap 2 3 (fun _=>Ql t x)∧h=[]:=by
 obtain⟨nt,hnt⟩:=Zu
 have k:=fun r a C K (hs:StopIn (callsOf t) r a) (hi:TmInv t x C K)=>(ZrD t x hf hx (2*(Zt (callsOf t) r a).depart+2).toNat).2 r a C K hs (by have:=hf.nn r a hs;omega) hi
 have hperm:=fun C K (h:TmInv t x C K)=>h.perm
 have h0:TmInv t x [] []:=⟨fun p h=>(by cases h),fun p h=>(by cases h),.nil,.nil⟩
 have hlen:=hf.calls.len
 have hrow:=fun r a (hs:StopIn (callsOf t) r a)=>Jw hf.calls hs
 have hrl:∀r,0≤r→r<(callsOf t).length→2≤(Sp.Zj (callsOf t) r).length∧(Sp.Zj (callsOf t) r).length≤4:=fun r h1 h2=>hf.calls.row _ (by
  unfold Sp.Zj
  rw[List.getD_eq_getElem?_getD,List.getElem?_eq_getElem (by omega)]
  exact List.getElem_mem _)
 unfold StopIn at*
 simp only[Xm hnt]at*
 generalize hG:Ql t x=G at*
 generalize hHH:ZU t x=HH at*
 unfold tmH Zh9 ZmH X2 at*
 unfold ZX at*
 simp only[Za hnt,Zb]at*
 generalize hcc:callsOf t=c at*
 refine SC.less (Qv Tryz.func137 (body:=Zk Tryz.f137) rfl (by decide+kernel) ?_)
 refine wS ?_
 refine ZS false false [] [6,7,19,20,21] [] (fun p:Nat×List (List Int×List Int)×List (List Int×List Int)=>[(21,.int .i64 fun _=>(p.1:Int))]) (fun p=>[(2,.gob (.mapL 2 0 fun _=>p.2.1)),(3,.gob (.mapL 2 3 fun _=>p.2.2))])
  (fun p=>p.1≤c.length∧TmInv t x p.2.1 p.2.2∧∀r a:Int,0≤r→r<p.1→0≤a→a<(nt (List Sp.Call) [] c r).length→([r,a],Zcg (HH r a))∈p.2.2) (fun p=>c.length-p.1+0) (0,[],[]) ⟨by omega,h0,fun r a h1 h2=>by simp at h2;omega⟩ ?_ ?_
 ·exact ZK
 intro p hh
 refine wS ?_
 have hil:=hh.1
 have hi1:=hh.2.1
 have hm1:=hh.2.2
 clear hh
 refine⟨fun hb=>?_,fun hb=>?_⟩
 case refine_2=>
  simp only[decide_eq_false_iff_not]at hb
  refine wS ?_
  have hp:=hperm p.2.1 p.2.2 hi1 fun r a h=>hm1 r a h.1 (by omega) h.2.2.1 h.2.2.2
  refine⟨_,[],?_,rfl,rfl⟩
  refine JO ?_
  exact ZH.imap hp
 simp only[decide_eq_true_eq]at hb
 have hlr:=hrl p.1 (by omega) (by omega)
 refine wS ?_
 refine Zaq fun Q hQ=>?_
 refine ZS false false [] [6,7,9,19,20,21,27,28] [] (fun q:Nat×List (List Int×List Int)×List (List Int×List Int)=>[(28,.int .i64 fun _=>(q.1:Int))]) (fun q=>[(2,.gob (.mapL 2 0 fun _=>q.2.1)),(3,.gob (.mapL 2 3 fun _=>q.2.2))])
  (fun q=>q.1≤(nt (List Sp.Call) [] c p.1).length∧TmInv t x q.2.1 q.2.2∧(∀z∈p.2.2,z∈q.2.2)∧∀a:Int,0≤a→a<q.1→([(p.1:Int),a],Zcg (HH p.1 a))∈q.2.2) (fun q=>(nt (List Sp.Call) [] c p.1).length-q.1+0) (0,p.2) ⟨by omega,hi1,fun _ h=>h,fun a h1 h2=>by simp at h2;omega⟩ ?_ ?_
 ·exact ZK
 intro q hh
 refine wS ?_
 have hjl:=hh.1
 have hi2:=hh.2.1
 have hm2:=hh.2.2.1
 have hn2:=hh.2.2.2
 clear hh
 refine⟨fun hb2=>?_,fun hb2=>?_⟩
 case refine_2=>
  simp only[decide_eq_false_iff_not]at hb2
  refine wS ?_
  refine hQ _ _ _ ?_
  refine wS ?_
  refine⟨(p.1+1,q.2),⟨by show p.1+1≤_;omega,hi2,fun r a h1 h2 h3 h4=>?_⟩,by show c.length-(p.1+1)+0<c.length-p.1+0;omega,?_⟩
  ·by_cases he:r=p.1
   ·subst he
    exact hn2 a h3 (by omega)
   ·exact hm2 _ (hm1 r a h1 (by have:r<((p.1+1:Nat):Int):=h2;omega) h3 h4)
  exact ZK
 simp only[decide_eq_true_eq]at hb2
 have k2:=k p.1 q.1 _ _ ⟨by omega,by omega,by omega,by omega⟩ hi2
 refine wS ?_
 refine cL1 [0,1,2,3,4,5,6,7] (k2) fun r h₂ hp=>?_
 (try simp only[Zd,Zc,Zf,Zb,Za hnt]at hp)
 obtain⟨rfl,C3,K3,hi3,hm3,hn3,rfl⟩:=hp
 refine wS ?_
 refine⟨(q.1+1,C3,K3),⟨by show q.1+1≤_;omega,hi3,fun z hz=>hm3 z (hm2 z hz),fun a h1 h2=>?_⟩,by show(nt (List Sp.Call) [] c p.1).length-(q.1+1)+0<(nt (List Sp.Call) [] c p.1).length-q.1+0;omega,?_⟩
 ·by_cases he:a=q.1
  ·subst he
   exact hn3
  ·exact hm3 _ (hn2 a h1 (by have:a<((q.1+1:Nat):Int):=h2;omega))
 exact ZK
def X0 (t:Ze):AV:=.iptr [.iptr (ZX t) 0] 0
theorem Z2 {x:List Int} {e v:Int} {k j:Nat} (he:e=k) (hk:k<x.length):(bif decide (e=(j:Int))then v else x.getD j 0)=(x.set k v).getD j 0:=by
 subst he
 by_cases h:k=j
 ·subst h
  rw[List.getD_eq_getElem?_getD (l:=x.set k v),List.getElem?_set_self hk]
  simp
 ·rw[List.getD_eq_getElem?_getD (l:=x.set k v),List.getElem?_set_ne h,←List.getD_eq_getElem?_getD,decide_eq_false (by omega)]
  rfl
theorem Zvu (t:Ze) (hf:ZJ t) (B0 B1 B2 B3 B4 B5 B6 B7:Nat→Zi) (stop:Nat→Bool)
  (hs:∀i X,sel true [0,1,2,3,4,5,6,7] [B0 i,B1 i,B2 i,B3 i,B4 i,B5 i,B6 i,B7 i,X]=[B0 i,B1 i,B2 i,B3 i,B4 i,B5 i,B6 i,B7 i])
  (hs6:∀i (f0 f1 f2 f3 f4 f5:Unit→Int),sel true [0,1,2,3,4,5,6,7,8] [B0 i,B1 i,B2 i,B3 i,B4 i,B5 i,B6 i,B7 i,.cells [.int .i64 f0,.int .i64 f1,.int .i64 f2,.int .i64 f3,.int .i64 f4,.int .i64 f5]]=[B0 i,B1 i,B2 i,B3 i,B4 i,B5 i,B6 i,B7 i,.cells [.int .i64 f0,.int .i64 f1,.int .i64 f2,.int .i64 f3,.int .i64 f4,.int .i64 f5]])
  (hfr:∀i X,sel false [0,1,2,3,4,5,6,7] [B0 i,B1 i,B2 i,B3 i,B4 i,B5 i,B6 i,B7 i,X]=[B0 i,B1 i,B2 i,B3 i,B4 i,B5 i,B6 i,B7 i])
  (hbk:∀i j X,back [0,1,2,3,4,5,6,7] [B0 i,B1 i,B2 i,B3 i,B4 i,B5 i,B6 i,B7 i,X] [B0 j,B1 j,B2 j,B3 j,B4 j,B5 j,B6 j,B7 j]=[B0 j,B1 j,B2 j,B3 j,B4 j,B5 j,B6 j,B7 j,X])
  (hy:∀i,i<Z7 t→(∀j,j<i→stop j=false)→YC (fun _=>Tryz.prog) 7 [.agg (X2 (Zm t i))] [B0 i,B1 i,B2 i,B3 i,B4 i,B5 i,B6 i,B7 i] fun v h=>v= .bool (fun _=> !stop i)∧h=[B0 (i+1),B1 (i+1),B2 (i+1),B3 (i+1),B4 (i+1),B5 (i+1),B6 (i+1),B7 (i+1)])
  (hB:zOk [B0 0,B1 0,B2 0,B3 0,B4 0,B5 0,B6 0,B7 0]=true:=by rfl):
  SC (fun _=>Tryz.prog) 176 [.yld 7,X0 t] [B0 0,B1 0,B2 0,B3 0,B4 0,B5 0,B6 0,B7 0] fun v h=>∃m,EndAt stop (Z7 t) m∧h=[B0 m,B1 m,B2 m,B3 m,B4 m,B5 m,B6 m,B7 m]:=by
 obtain⟨nt,hnt⟩:=Zu
 have hfit:=Yj hf
 have hnext:=fun n=> @ZcL t hf n
 have hmany:=ZiM hf
 have hd6:=hf.dlen
 have hd0:=ZcK hf
 have hlen3:∀k,k<t.delays.length→lenAt t.delays k≤3:=fun k h=>by
  unfold lenAt
  rw[List.getD_eq_getElem?_getD,List.getElem?_eq_getElem h]
  exact(hf.d _ (List.getElem_mem h)).2.1
 have hnd:∀k:Nat,(nt Sp.Qj default t.delays (k:Int)).by_.length=lenAt t.delays k:=fun k=>by rw[hnt];rfl
 have hbd:∀n k,0≤(Zm t n).getD k 0∧(Zm t n).getD k 0≤3:=fun n k=>by
  by_cases h:k<t.delays.length
  ·have h1:=(hfit n).d k h
   have h2:=hlen3 k h
   unfold lenAt at h2
   omega
  ·have:=Zav (ds:=t.delays) t.delays.length n k (by omega)
   unfold Zm
   omega
 generalize Z7 t=N at*
 generalize Zm t=TA at*
 unfold X0 ZX
 simp only[Za hnt,Zb,ZB]
 refine Qv Tryz.func176 (body:=Zk Tryz.f176) rfl (by decide+kernel) ?_ hB
 refine wS ?_
 refine ZS false false [] [0,1,3] [] (fun(i:Nat)=>[]) (fun i=>[(0,B0 i),(1,B1 i),(2,B2 i),(3,B3 i),(4,B4 i),(5,B5 i),(6,B6 i),(7,B7 i),(8,.cells (X2 (TA i)))]) (fun i=>i<N∧∀j,j<i→stop j=false) (fun i=>N-i+0) 0 ⟨by omega,fun j h=>by omega⟩ ?_ ?_
 ·unfold X2
  rw[hd0]
  have hs':=hs6 0 (fun _=>0) (fun _=>0) (fun _=>0) (fun _=>0) (fun _=>0) (fun _=>0)
  cbv at hs'
  simp only[List.cons.injEq,and_true]at hs'
  obtain⟨e0,e1,e2,e3,e4,e5,e6,e7⟩:=hs'
  (refine To.of [] ?_;cbv;(try simp only[nc]);(repeat' (first|exact trivial|exact ZH.refl _|exact ZR.refl _|refine⟨?_,?_⟩|refine ZR.cells ?_|refine ZH.agg ?_|refine ZH.tup ?_));(all_goals (first|exact XZ|skip)))
  all_goals first|(rw[e0];exact ZR.refl _)|(rw[e1];exact ZR.refl _)|(rw[e2];exact ZR.refl _)|(rw[e3];exact ZR.refl _)|(rw[e4];exact ZR.refl _)|(rw[e5];exact ZR.refl _)|(rw[e6];exact ZR.refl _)|(rw[e7];exact ZR.refl _)
 intro i hh
 unfold X2 at*
 refine wS ?_
 have hi:=hh.1
 have hno:=hh.2
 have hni:=hnext i hi
 refine YC.frameB [0,1,2,3,4,5,6,7] (by decide) (by simp) rfl rfl (hfr i _) (hy i hi hno) (hbk i (i+1) _) ?_
 refine wS ?_
 refine⟨fun hst=>?_,fun hst=>?_⟩
 ·have hst:stop i=true:=by simpa using hst
  have hs':=fun X=>hs (i+1) X
  refine wS ?_
  refine⟨i+1,.inr ⟨i,rfl,hi,hst,hno⟩,?_⟩
  have hs':=hs' (.cells [.int .i64 fun _=>(TA i).getD 0 0,.int .i64 fun _=>(TA i).getD 1 0,.int .i64 fun _=>(TA i).getD 2 0,.int .i64 fun _=>(TA i).getD 3 0,.int .i64 fun _=>(TA i).getD 4 0,.int .i64 fun _=>(TA i).getD 5 0])
  cbv at hs'
  simp only[List.cons.injEq,and_true]at hs'⊢
  exact hs'
 have hst:stop i=false:=by simpa using hst
 refine wS ?_
 refine Zaq fun Q hQ=>?_
 refine ZS false false [] [0,1,3,4] [] (fun p:Nat×List Int=>[(4,.int .i64 fun _=>(p.1:Int)-1)]) (fun p=>[(8,.cells [.int .i64 fun _=>p.2.getD 0 0,.int .i64 fun _=>p.2.getD 1 0,.int .i64 fun _=>p.2.getD 2 0,.int .i64 fun _=>p.2.getD 3 0,.int .i64 fun _=>p.2.getD 4 0,.int .i64 fun _=>p.2.getD 5 0])])
  (fun p=>p.1≤t.delays.length∧p.2.length=6∧(∀k,0≤p.2.getD k 0∧p.2.getD k 0≤3)∧Sp.stepT t.delays t.delays.length (TA i)=Sp.stepT t.delays p.1 p.2) (fun p=>p.1+0) (t.delays.length,TA i) ⟨Nat.le_refl _,(hfit i).len,hbd i,rfl⟩ ?_ ?_
 ·exact ZK
 intro p hp
 refine vS ?_
 have hm:=hp.1
 have hyl:=hp.2.1
 have hyb:=hp.2.2.1
 have hst2:=hp.2.2.2
 clear hp
 by_cases h0:p.1=0
 ·rw[h0,Sp.stepT]at hst2
  rw[hst2]at hni
  have hend:¬i+1<N:=fun h=>by rw[if_pos h]at hni;cases hni
  refine Chk.mk (Qd) ?_
  refine Br.isF (by show(bif decide (0≤(p.1:Int)-1)then _ else false)=false;rw[decide_eq_false (by omega)];rfl) ?_
  refine wS ?_
  refine hQ _ _ _ ?_
  refine wS ?_
  refine Br.isT (decide_eq_true (by show(p.1:Int)-1<0;omega)) ?_
  refine wS ?_
  have hs':=hs (i+1) (.cells [.int .i64 fun _=>p.2.getD 0 0,.int .i64 fun _=>p.2.getD 1 0,.int .i64 fun _=>p.2.getD 2 0,.int .i64 fun _=>p.2.getD 3 0,.int .i64 fun _=>p.2.getD 4 0,.int .i64 fun _=>p.2.getD 5 0])
  cbv at hs'
  simp only[List.cons.injEq,and_true]at hs'
  refine⟨i+1,.inl ⟨by omega,fun j hj=>?_⟩,?_⟩
  ·by_cases h:j=i
   ·rw[h];exact hst
   ·exact hno j (by omega)
  ·simp only[List.cons.injEq,and_true]
   exact hs'
 obtain⟨k,hk⟩:∃k,p.1=k+1:=⟨p.1-1,by omega⟩
 have e1:=ZeF (x:=p.2) (e:=(p.1:Int)-1) (i:=k) (by omega) (by omega)
 have e2:(nt Sp.Qj default t.delays ((p.1:Int)-1)).by_.length=lenAt t.delays k:=by rw[show(p.1:Int)-1=(k:Int) by omega];exact hnd k
 have hl3:=hlen3 k (by omega)
 have hybk:=hyb k
 refine Chk.mk (Qd) ?_
 refine⟨fun h1=>?_,fun h1=>?_⟩
 ·have h1:p.2.getD k 0=(lenAt t.delays k:Int)-1:=by
   rw[decide_eq_true (by omega),e1,e2]at h1
   exact eq_of_beq h1
  rw[hk,Sp.stepT,if_pos h1]at hst2
  refine wS ?_
  refine⟨(k,p.2.set k 0),⟨by show k≤_;omega,by show(p.2.set k 0).length=6;rw[List.length_set];exact hyl,fun j=>?_,hst2⟩,by show k+0<p.1+0;omega,?_⟩
  ·show 0≤(p.2.set k 0).getD j 0∧(p.2.set k 0).getD j 0≤3
   rw[←Z2 (e:=(k:Int)) rfl (by omega)]
   have:=hyb j
   cases decide ((k:Int)=j)
   ·exact this
   ·exact⟨Int.le_refl _,by show(0:Int)≤3;decide⟩
  have g0:=Z2 (x:=p.2) (e:=(p.1:Int)-1) (k:=k) (j:=0) (v:=0) (by omega) (by omega)
  have g1:=Z2 (x:=p.2) (e:=(p.1:Int)-1) (k:=k) (j:=1) (v:=0) (by omega) (by omega)
  have g2:=Z2 (x:=p.2) (e:=(p.1:Int)-1) (k:=k) (j:=2) (v:=0) (by omega) (by omega)
  have g3:=Z2 (x:=p.2) (e:=(p.1:Int)-1) (k:=k) (j:=3) (v:=0) (by omega) (by omega)
  have g4:=Z2 (x:=p.2) (e:=(p.1:Int)-1) (k:=k) (j:=4) (v:=0) (by omega) (by omega)
  have g5:=Z2 (x:=p.2) (e:=(p.1:Int)-1) (k:=k) (j:=5) (v:=0) (by omega) (by omega)
  have hs':=hs6 (i+1) (fun _=>bif decide ((p.1:Int)-1=((0:Nat):Int))then 0 else p.2.getD 0 0) (fun _=>bif decide ((p.1:Int)-1=((1:Nat):Int))then 0 else p.2.getD 1 0) (fun _=>bif decide ((p.1:Int)-1=((2:Nat):Int))then 0 else p.2.getD 2 0) (fun _=>bif decide ((p.1:Int)-1=((3:Nat):Int))then 0 else p.2.getD 3 0) (fun _=>bif decide ((p.1:Int)-1=((4:Nat):Int))then 0 else p.2.getD 4 0) (fun _=>bif decide ((p.1:Int)-1=((5:Nat):Int))then 0 else p.2.getD 5 0)
  cbv at hs'
  simp only[List.cons.injEq,and_true]at hs'
  obtain⟨e3,e4,e5,e6,e7,e8,e9,e10⟩:=hs'
  (refine To.of [] ?_;cbv;(try simp only[nc]);(repeat' (first|exact trivial|exact ZH.refl _|exact ZR.refl _|refine⟨?_,?_⟩|refine ZR.cells ?_|refine ZH.agg ?_|refine ZH.tup ?_));(all_goals (first|exact XZ|skip)))
  all_goals first|(rw[e3];exact ZR.refl _)|(rw[e4];exact ZR.refl _)|(rw[e5];exact ZR.refl _)|(rw[e6];exact ZR.refl _)|(rw[e7];exact ZR.refl _)|(rw[e8];exact ZR.refl _)|(rw[e9];exact ZR.refl _)|(rw[e10];exact ZR.refl _)
 ·have h1:p.2.getD k 0≠(lenAt t.delays k:Int)-1:=by
   rw[decide_eq_true (by omega),e1,e2]at h1
   exact ne_of_beq_false h1
  rw[hk,Sp.stepT,if_neg h1]at hst2
  rw[hst2]at hni
  have hlt:i+1<N:=by
   by_cases h:i+1<N
   ·exact h
   ·rw[if_neg h]at hni;cases hni
  rw[if_pos hlt]at hni
  have hni:=Option.some.inj hni
  refine wS ?_
  refine hQ _ _ _ ?_
  refine wS ?_
  refine Br.isF (decide_eq_false (by show¬(p.1:Int)-1<0;omega)) ?_
  refine vS ?_
  simp only[e1]
  refine Chk.mk (Qd) ?_
  have hs':=hs6 (i+1) (fun _=>bif decide ((p.1:Int)-1=((0:Nat):Int))then p.2.getD k 0+1 else p.2.getD 0 0) (fun _=>bif decide ((p.1:Int)-1=((1:Nat):Int))then p.2.getD k 0+1 else p.2.getD 1 0) (fun _=>bif decide ((p.1:Int)-1=((2:Nat):Int))then p.2.getD k 0+1 else p.2.getD 2 0) (fun _=>bif decide ((p.1:Int)-1=((3:Nat):Int))then p.2.getD k 0+1 else p.2.getD 3 0) (fun _=>bif decide ((p.1:Int)-1=((4:Nat):Int))then p.2.getD k 0+1 else p.2.getD 4 0) (fun _=>bif decide ((p.1:Int)-1=((5:Nat):Int))then p.2.getD k 0+1 else p.2.getD 5 0)
  cbv at hs'
  simp only[List.cons.injEq,and_true]at hs'
  obtain⟨e3,e4,e5,e6,e7,e8,e9,e10⟩:=hs'
  refine⟨i+1,⟨hlt,fun j hj=>?_⟩,by show N-(i+1)+0<N-i+0;omega,?_⟩
  ·by_cases h:j=i
   ·rw[h];exact hst
   ·exact hno j (by omega)
  rw[←hni]
  have g0:=Z2 (x:=p.2) (e:=(p.1:Int)-1) (k:=k) (j:=0) (v:=p.2.getD k 0+1) (by omega) (by omega)
  have g1:=Z2 (x:=p.2) (e:=(p.1:Int)-1) (k:=k) (j:=1) (v:=p.2.getD k 0+1) (by omega) (by omega)
  have g2:=Z2 (x:=p.2) (e:=(p.1:Int)-1) (k:=k) (j:=2) (v:=p.2.getD k 0+1) (by omega) (by omega)
  have g3:=Z2 (x:=p.2) (e:=(p.1:Int)-1) (k:=k) (j:=3) (v:=p.2.getD k 0+1) (by omega) (by omega)
  have g4:=Z2 (x:=p.2) (e:=(p.1:Int)-1) (k:=k) (j:=4) (v:=p.2.getD k 0+1) (by omega) (by omega)
  have g5:=Z2 (x:=p.2) (e:=(p.1:Int)-1) (k:=k) (j:=5) (v:=p.2.getD k 0+1) (by omega) (by omega)
  (refine To.of [] ?_;cbv;(try simp only[nc]);(repeat' (first|exact trivial|exact ZH.refl _|exact ZR.refl _|refine⟨?_,?_⟩|refine ZR.cells ?_|refine ZH.agg ?_|refine ZH.tup ?_));(all_goals (first|exact XZ|skip)))
  all_goals first|(rw[e3];exact ZR.refl _)|(rw[e4];exact ZR.refl _)|(rw[e5];exact ZR.refl _)|(rw[e6];exact ZR.refl _)|(rw[e7];exact ZR.refl _)|(rw[e8];exact ZR.refl _)|(rw[e9];exact ZR.refl _)|(rw[e10];exact ZR.refl _)
def Zsw:Zi→Bool
 |_=>true
structure Qy (n:Nat) (B:Zi):Prop where
 s:∀fz ι h,(∀j,j<n→Qo j ι 0=some j)→ZQ fz ι h B=B
 r:∀φ:Nat→Nat,(∀j,j<n→φ j=j)→Xc φ B=B
 z:Zsw B=true
theorem Qy.mono {n m:Nat} {B:Zi} (h:Qy n B) (hn:n≤m):Qy m B:=⟨fun fz ι k hp=>h.s fz ι k fun j hj=>hp j (by omega),fun φ hp=>h.r φ fun j hj=>hp j (by omega),h.z⟩
theorem Qy.wk {n N k:Nat} {B:Zi} (h:Qy n B) {fz:Bool} {ι:List Nat} {H:List Zi} (hp:∀j,j<n→Qo j ι 0=some j):ZR N k (ZQ fz ι H B) B:=by
 rw[h.s _ _ _ hp]
 exact ZR.refl _
theorem Zdi {h:List Zi} (_:∀b∈h,Zsw b=true):zOk h=true:=rfl
theorem Zur (t:Ze) (hf:ZJ t) (B0 B1 B2 B3 B4 B5 B6 B7:Nat→Zi) (stop:Nat→Bool)
  (h0:∀i,Qy 8 (B0 i)) (h1:∀i,Qy 8 (B1 i)) (h2:∀i,Qy 8 (B2 i)) (h3:∀i,Qy 8 (B3 i)) (h4:∀i,Qy 8 (B4 i)) (h5:∀i,Qy 8 (B5 i)) (h6:∀i,Qy 8 (B6 i)) (h7:∀i,Qy 8 (B7 i))
  (hy:∀i,i<Z7 t→(∀j,j<i→stop j=false)→YC (fun _=>Tryz.prog) 7 [.agg (X2 (Zm t i))] [B0 i,B1 i,B2 i,B3 i,B4 i,B5 i,B6 i,B7 i] fun v h=>v= .bool (fun _=> !stop i)∧h=[B0 (i+1),B1 (i+1),B2 (i+1),B3 (i+1),B4 (i+1),B5 (i+1),B6 (i+1),B7 (i+1)]):
  SC (fun _=>Tryz.prog) 176 [.yld 7,X0 t] [B0 0,B1 0,B2 0,B3 0,B4 0,B5 0,B6 0,B7 0] fun v h=>∃m,EndAt stop (Z7 t) m∧h=[B0 m,B1 m,B2 m,B3 m,B4 m,B5 m,B6 m,B7 m]:=by
 have p6:∀j,j<8→Qo j [0,1,2,3,4,5,6,7] 0=some j:=by decide
 have p7:∀j,j<8→Qo j [0,1,2,3,4,5,6,7,8] 0=some j:=by decide
 have f7:∀j,j<8→YO [0,1,2,3,4,5,6,7] 9 j=j:=by decide
 refine Zvu t hf B0 B1 B2 B3 B4 B5 B6 B7 stop (fun i X=>?_) (fun i f0 f1 f2 f3 f4 f5=>?_) (fun i X=>?_) (fun i j X=>?_) hy (Zdi fun b hb=>?_)
 ·show [ZQ true _ _ (B0 i),ZQ true _ _ (B1 i),ZQ true _ _ (B2 i),ZQ true _ _ (B3 i),ZQ true _ _ (B4 i),ZQ true _ _ (B5 i),ZQ true _ _ (B6 i),ZQ true _ _ (B7 i)]=_
  rw[(h0 i).s _ _ _ p6,(h1 i).s _ _ _ p6,(h2 i).s _ _ _ p6,(h3 i).s _ _ _ p6,(h4 i).s _ _ _ p6,(h5 i).s _ _ _ p6,(h6 i).s _ _ _ p6,(h7 i).s _ _ _ p6]
 ·show [ZQ true _ _ (B0 i),ZQ true _ _ (B1 i),ZQ true _ _ (B2 i),ZQ true _ _ (B3 i),ZQ true _ _ (B4 i),ZQ true _ _ (B5 i),ZQ true _ _ (B6 i),ZQ true _ _ (B7 i),_]=_
  rw[(h0 i).s _ _ _ p7,(h1 i).s _ _ _ p7,(h2 i).s _ _ _ p7,(h3 i).s _ _ _ p7,(h4 i).s _ _ _ p7,(h5 i).s _ _ _ p7,(h6 i).s _ _ _ p7,(h7 i).s _ _ _ p7]
  rfl
 ·show [ZQ false _ _ (B0 i),ZQ false _ _ (B1 i),ZQ false _ _ (B2 i),ZQ false _ _ (B3 i),ZQ false _ _ (B4 i),ZQ false _ _ (B5 i),ZQ false _ _ (B6 i),ZQ false _ _ (B7 i)]=_
  rw[(h0 i).s _ _ _ p6,(h1 i).s _ _ _ p6,(h2 i).s _ _ _ p6,(h3 i).s _ _ _ p6,(h4 i).s _ _ _ p6,(h5 i).s _ _ _ p6,(h6 i).s _ _ _ p6,(h7 i).s _ _ _ p6]
 ·show [Xc (YO [0,1,2,3,4,5,6,7] 9) (B0 j),Xc (YO [0,1,2,3,4,5,6,7] 9) (B1 j),Xc (YO [0,1,2,3,4,5,6,7] 9) (B2 j),Xc (YO [0,1,2,3,4,5,6,7] 9) (B3 j),Xc (YO [0,1,2,3,4,5,6,7] 9) (B4 j),Xc (YO [0,1,2,3,4,5,6,7] 9) (B5 j),Xc (YO [0,1,2,3,4,5,6,7] 9) (B6 j),Xc (YO [0,1,2,3,4,5,6,7] 9) (B7 j),X]=_
  rw[(h0 j).r _ f7,(h1 j).r _ f7,(h2 j).r _ f7,(h3 j).r _ f7,(h4 j).r _ f7,(h5 j).r _ f7,(h6 j).r _ f7,(h7 j).r _ f7]
 ·simp only[List.mem_cons,List.not_mem_nil,or_false]at hb
  rcases hb with rfl|rfl|rfl|rfl|rfl|rfl|rfl|rfl
  ·exact(h0 0).z
  ·exact(h1 0).z
  ·exact(h2 0).z
  ·exact(h3 0).z
  ·exact(h4 0).z
  ·exact(h5 0).z
  ·exact(h6 0).z
  ·exact(h7 0).z
theorem ZuE (t:Ze):SC (fun _=>Tryz.prog) 136 [.iptr (ZX t) 0] [] fun v h=>v= .fn 176 [] [X0 t]∧h=[]:=by
 obtain⟨nt,hnt⟩:=Zu
 unfold X0 ZX
 simp only[Za hnt,Zb,ZB]
 refine SC.less (Qv Tryz.func136 (body:=Zk Tryz.f136) rfl (by decide+kernel) ?_)
 refine wS ?_
 refine⟨_,[],?_,rfl,rfl⟩
 exact ZK
theorem Zrp (t:Ze):SC (fun _=>Tryz.prog) 82 [.iptr (ZX t) 0] [] fun v h=>v= .fn 135 [] [X0 t]∧h=[]:=by
 obtain⟨nt,hnt⟩:=Zu
 unfold X0 ZX
 simp only[Za hnt,Zb,ZB]
 refine SC.less (Qv Tryz.func82 (body:=Zk Tryz.f82) rfl (by decide+kernel) ?_)
 refine wS ?_
 refine⟨_,[],?_,rfl,rfl⟩
 exact ZK
def QF (stop:Nat→Bool):Nat→Bool
 |0=>false
 |j+1=>stop j
theorem ZgM {Q:Ex→List AV→List Zi→Prop} {s s':List AV} {m:Nat} {h:List Zi} {d:Zhc} (hi:h[m]? =some (.loop s' d)) (hs:d.st= .ready) (hp:d.pe=none) {h':List Zi} (hsel:sel true (List.range m) (h.set m (.loop s' {d with st:=.exhausted}))=h') (H:Q .normal s h'):JU Q s m h:=by
 unfold JU
 rw[hi]
 subst hsel
 simp only[hs,hp]at H⊢
 exact H
theorem ZgL {Q:Ex→List AV→List Zi→Prop} {s s':List AV} {m:Nat} {h:List Zi} {d:Zhc} (hi:h[m]? =some (.loop s' d)) (hs:d.st= .done) (hp:d.pe=some .ret) {h':List Zi} (hsel:sel true (List.range m) (h.set m (.loop s' {d with st:=.exhausted}))=h') (H:Q .ret s h'):JU Q s m h:=by
 unfold JU
 rw[hi]
 subst hsel
 simp only[hs,hp]at H⊢
 exact H
theorem Zrn (t:Ze) (hf:ZJ t) (B0 B1 B2 B3 B4 B5:Nat→Zi) (stop:Nat→Bool)
  (h0:∀i,Qy 6 (B0 i)) (h1:∀i,Qy 6 (B1 i)) (h2:∀i,Qy 6 (B2 i)) (h3:∀i,Qy 6 (B3 i)) (h4:∀i,Qy 6 (B4 i)) (h5:∀i,Qy 6 (B5 i))
  (hy:∀i,i<Z7 t→(∀j,j<i→stop j=false)→YC (fun _=>Tryz.prog) 5 [.agg (X2 (Zm t i)),.imap 2 3 fun _=>Ql t (Zm t i)] [B0 i,B1 i,B2 i,B3 i,B4 i,B5 i] fun v h=>v= .bool (fun _=> !stop i)∧h=[B0 (i+1),B1 (i+1),B2 (i+1),B3 (i+1),B4 (i+1),B5 (i+1)]):
  SC (fun _=>Tryz.prog) 135 [.yld 5,X0 t] [B0 0,B1 0,B2 0,B3 0,B4 0,B5 0] fun v h=>∃m,EndAt stop (Z7 t) m∧h=[B0 m,B1 m,B2 m,B3 m,B4 m,B5 m]:=by
 obtain⟨nt,hnt⟩:=Zu
 have p4:∀j,j<6→Qo j [0,1,2,3,4,5] 0=some j:=by decide
 have p5:∀j,j<6→Qo j [0,1,2,3,4,5,6] 0=some j:=by decide
 have p6:∀j,j<6→Qo j [0,1,2,3,4,5,6,7] 0=some j:=by decide
 have f7:∀j,j<6→YO [0,1,2,3,4,5] 9 j=j:=by decide
 have hfr:∀i X4 X5 X6,sel false [0,1,2,3,4,5] [B0 i,B1 i,B2 i,B3 i,B4 i,B5 i,X4,X5,X6]=[B0 i,B1 i,B2 i,B3 i,B4 i,B5 i]:=fun i X4 X5 X6=>by
  show [ZQ false _ _ (B0 i),ZQ false _ _ (B1 i),ZQ false _ _ (B2 i),ZQ false _ _ (B3 i),ZQ false _ _ (B4 i),ZQ false _ _ (B5 i)]=_
  rw[(h0 i).s _ _ _ p4,(h1 i).s _ _ _ p4,(h2 i).s _ _ _ p4,(h3 i).s _ _ _ p4,(h4 i).s _ _ _ p4,(h5 i).s _ _ _ p4]
 have hbk:∀i j X4 X5 X6,back [0,1,2,3,4,5] [B0 i,B1 i,B2 i,B3 i,B4 i,B5 i,X4,X5,X6] [B0 j,B1 j,B2 j,B3 j,B4 j,B5 j]=[B0 j,B1 j,B2 j,B3 j,B4 j,B5 j,X4,X5,X6]:=fun i j X4 X5 X6=>by
  show [Xc (YO [0,1,2,3,4,5] 9) (B0 j),Xc (YO [0,1,2,3,4,5] 9) (B1 j),Xc (YO [0,1,2,3,4,5] 9) (B2 j),Xc (YO [0,1,2,3,4,5] 9) (B3 j),Xc (YO [0,1,2,3,4,5] 9) (B4 j),Xc (YO [0,1,2,3,4,5] 9) (B5 j),X4,X5,X6]=_
  rw[(h0 j).r _ f7,(h1 j).r _ f7,(h2 j).r _ f7,(h3 j).r _ f7,(h4 j).r _ f7,(h5 j).r _ f7]
 have e5:∀m L,sel true (List.range 7) [B0 m,B1 m,B2 m,B3 m,B4 m,B5 m,.cells [.yld 5],L]=[B0 m,B1 m,B2 m,B3 m,B4 m,B5 m,.cells [.yld 5]]:=fun m L=>by
  show [ZQ true [0,1,2,3,4,5,6] _ (B0 m),ZQ true [0,1,2,3,4,5,6] _ (B1 m),ZQ true [0,1,2,3,4,5,6] _ (B2 m),ZQ true [0,1,2,3,4,5,6] _ (B3 m),ZQ true [0,1,2,3,4,5,6] _ (B4 m),ZQ true [0,1,2,3,4,5,6] _ (B5 m),_]=_
  rw[(h0 m).s _ _ _ p5,(h1 m).s _ _ _ p5,(h2 m).s _ _ _ p5,(h3 m).s _ _ _ p5,(h4 m).s _ _ _ p5,(h5 m).s _ _ _ p5]
  rfl
 have hz:zOk [B0 0,B1 0,B2 0,B3 0,B4 0,B5 0]=true:=Zdi fun b hb=>by
  simp only[List.mem_cons,List.not_mem_nil,or_false]at hb
  rcases hb with rfl|rfl|rfl|rfl|rfl|rfl
  ·exact(h0 0).z
  ·exact(h1 0).z
  ·exact(h2 0).z
  ·exact(h3 0).z
  ·exact(h4 0).z
  ·exact(h5 0).z
 have hz6:∀i a s d,zOk [B0 i,B1 i,B2 i,B3 i,B4 i,B5 i,.cells a,.loop s d]=true:=fun i a s d=>Zdi fun b hb=>by
  simp only[List.mem_cons,List.not_mem_nil,or_false]at hb
  rcases hb with rfl|rfl|rfl|rfl|rfl|rfl|rfl|rfl
  ·exact(h0 i).z
  ·exact(h1 i).z
  ·exact(h2 i).z
  ·exact(h3 i).z
  ·exact(h4 i).z
  ·exact(h5 i).z
  ·rfl
  ·rfl
 have k436:=ZuE t
 have k476:=fun s ps a x g4 g5=>Zur t hf B0 B1 B2 B3 B4 B5 (fun _=>.cells [.yld 5]) (fun m=>.loop s ⟨ps,a,x,bif QF stop m then .done else .ready,bif QF stop m then some .ret else none⟩) stop (fun i=>(h0 i).mono (by decide)) (fun i=>(h1 i).mono (by decide)) (fun i=>(h2 i).mono (by decide)) (fun i=>(h3 i).mono (by decide)) (fun i=>(h4 i).mono (by decide)) (fun i=>(h5 i).mono (by decide)) g4 g5
 have k437:=fun i=>ZuD t (Zm t i) hf (Yj hf i)
 generalize Zm t=TA at*
 generalize Ql t=HL at*
 generalize Z7 t=N at*
 unfold X0 ZX X2 at*
 simp only[Za hnt,Zb,ZB]at*
 refine Qv Tryz.func135 (body:=Zk Tryz.f135) rfl (by decide+kernel) ?_ hz
 refine wS ?_
 refine ZY (k436) (by first|rfl|(simp only[Zd,Zc,Zf,Zb,Za hnt];rfl)) fun r h₂ hp=>?_
 (try simp only[Zd,Zc,Zf,Zb,Za hnt]at hp)
 obtain⟨rfl,rfl⟩:=hp
 refine wS ?_
 refine ZoA (fid:=176) (first:=[]) rfl XL ?_
 refine SC.mono (k476 _ _ _ _ ?_ ?_ ?_) ?_
 ·exact fun i=>⟨fun fz ι h hp=>by simp only[ZQ,Qx,List.map,hp 5 (by decide)],fun φ hp=>by simp only[Xc,ren,List.map,hp 5 (by decide)],rfl⟩
 ·exact fun i=>⟨fun fz ι h hp=>by simp only[ZQ,Qx,List.map,hp 5 (by decide),hp 6 (by decide)],fun φ hp=>by simp only[Xc,ren,List.map,hp 5 (by decide),hp 6 (by decide)],rfl⟩
 ·intro i hi hno
  have hst:QF stop i=false:=by
   cases i with
   |zero=>rfl
   |succ j=>exact hno j (by omega)
  simp only[hst,cond_false]
  refine YC.less (Zct false false [] rfl rfl ?_ (hz6 i _ _ _))
  refine wS ?_
  refine ZY (k437 i) (by first|rfl|(simp only[Zd,Zc,Zf,Zb,Za hnt];rfl)) fun r h₂ hp=>?_
  (try simp only[Zd,Zc,Zf,Zb,Za hnt]at hp)
  obtain⟨rfl,rfl⟩:=hp
  refine wS ?_
  refine YC.frameB [0,1,2,3,4,5] (by decide) (by simp) rfl rfl (hfr i _ _ _) (hy i hi hno) (hbk i (i+1) _ _ _) ?_
  refine wS ?_
  refine⟨fun hb=>?_,fun hb=>?_⟩
  ·have hb:stop i=true:=by simpa using hb
   have hb2:QF stop (i+1)=true:=hb
   refine wS ?_
   simp only[hb2,cond_true]
   refine⟨.bool fun _=> !stop i,_,?_,rfl,rfl⟩
   (refine To.of [] ?_;cbv;(try simp only[nc]);(repeat' (first|exact trivial|exact ZH.refl _|exact ZR.refl _|refine⟨?_,?_⟩|refine ZR.cells ?_|refine ZH.agg ?_|refine ZH.tup ?_));(all_goals (first|exact XZ|skip)))
   all_goals first|exact .bool (by rw[hb];rfl)|exact(h0 _).wk p6|exact(h1 _).wk p6|exact(h2 _).wk p6|exact(h3 _).wk p6|exact(h4 _).wk p6|exact(h5 _).wk p6
  ·have hb:stop i=false:=by simpa using hb
   have hb2:QF stop (i+1)=false:=hb
   refine wS ?_
   simp only[hb2,cond_false]
   refine⟨.bool fun _=> !stop i,_,?_,rfl,rfl⟩
   (refine To.of [] ?_;cbv;(try simp only[nc]);(repeat' (first|exact trivial|exact ZH.refl _|exact ZR.refl _|refine⟨?_,?_⟩|refine ZR.cells ?_|refine ZH.agg ?_|refine ZH.tup ?_));(all_goals (first|exact XZ|skip)))
   all_goals first|exact .bool (by rw[hb];rfl)|exact(h0 _).wk p6|exact(h1 _).wk p6|exact(h2 _).wk p6|exact(h3 _).wk p6|exact(h4 _).wk p6|exact(h5 _).wk p6
 ·intro v h hh
  obtain⟨m,hm,rfl⟩:=hh
  rcases hm with⟨hm,hno⟩|⟨j,hm,hj,hst,hno⟩
  ·have hst:QF stop m=false:=by
    cases m with
    |zero=>rfl
    |succ j=>exact hno j (by omega)
   simp only[hst,cond_false]
   refine ZgM rfl rfl rfl (e5 m _) ?_
   refine wS ?_
   refine⟨m,.inl ⟨hm,hno⟩,?_⟩
   show [ZQ true [0,1,2,3,4,5] _ (B0 m),ZQ true [0,1,2,3,4,5] _ (B1 m),ZQ true [0,1,2,3,4,5] _ (B2 m),ZQ true [0,1,2,3,4,5] _ (B3 m),ZQ true [0,1,2,3,4,5] _ (B4 m),ZQ true [0,1,2,3,4,5] _ (B5 m)]=_
   rw[(h0 m).s _ _ _ p4,(h1 m).s _ _ _ p4,(h2 m).s _ _ _ p4,(h3 m).s _ _ _ p4,(h4 m).s _ _ _ p4,(h5 m).s _ _ _ p4]
  ·have hst2:QF stop m=true:=by rw[hm];exact hst
   simp only[hst2,cond_true]
   refine ZgL rfl rfl rfl (e5 m _) ?_
   refine wS ?_
   refine⟨m,.inr ⟨j,hm,hj,hst,hno⟩,?_⟩
   show [ZQ true [0,1,2,3,4,5] _ (B0 m),ZQ true [0,1,2,3,4,5] _ (B1 m),ZQ true [0,1,2,3,4,5] _ (B2 m),ZQ true [0,1,2,3,4,5] _ (B3 m),ZQ true [0,1,2,3,4,5] _ (B4 m),ZQ true [0,1,2,3,4,5] _ (B5 m)]=_
   rw[(h0 m).s _ _ _ p4,(h1 m).s _ _ _ p4,(h2 m).s _ _ _ p4,(h3 m).s _ _ _ p4,(h4 m).s _ _ _ p4,(h5 m).s _ _ _ p4]
end Go.Proofs.YtjgpiclllehgmaaGreat.Vm
namespace Go.Proofs.YtjgpiclllehgmaaGreat.Vm
open Go Go.Proofs
def inA (n:Nat):Nat→AV→Bool
 |0,_=>false
 |k+1,a=>(match a with
  |.ptr id _=>ltN id n
  |.aptr id _ _ _=>ltN id n
  |.msl id _ _ _ _=>ltN id n
  |.gsl id _=>ltN id n
  |.gptr id _ _ _ _=>ltN id n
  |.map id=>ltN id n
  |.mit id=>ltN id n
  |.yld id=>ltN id n
  |.isl _ _ _ (.own id)=>ltN id n
  |.lit _ cs=>cs.all (inA n k)
  |.fn _ xs bs=>xs.all (inA n k)&&bs.all (inA n k)
  |.agg cs=>cs.all (inA n k)
  |.tup cs=>cs.all (inA n k)
  |.gd _ v=>inA n k v
  |_=>true)
theorem Zb2 {α:Type} {f:α→α} {l:List α} (h:∀a∈l,f a=a):l.map f=l:=by
 induction l with
 |nil=>rfl
 |cons a l ih=>rw[List.map_cons,h a (List.mem_cons_self ..),ih fun b hb=>h b (List.mem_cons_of_mem _ hb)]
theorem Zhl {n:Nat} {fz:Bool} {ι:List Nat} {h:List Zi} (hp:∀j,j<n→Qo j ι 0=some j):∀(k:Nat) (a:AV),inA n k a=true→Qx fz ι h k a=a
 |0,a,ha=>by cases ha
 |k+1,a,ha=>by
  have ih:=Zhl (fz:=fz) (h:=h) hp k
  have hl:∀cs:List AV,cs.all (inA n k)=true→cs.map (Qx fz ι h k)=cs:=fun cs hc=>Zb2 fun a ha=>ih a (List.all_eq_true.1 hc a ha)
  cases a with
  |isl s m f tk=>
   cases tk with
   |own id=>simp only[Qx,hp _ (J5 ha)]
   |_=>rfl
  |lit s cs=>simp only[Qx,hl cs ha]
  |fn f xs bs=>
   have ha:=(Bool.and_eq_true _ _).mp ha
   simp only[Qx,hl _ ha.1,hl _ ha.2]
  |agg cs=>simp only[Qx,hl cs ha]
  |tup cs=>simp only[Qx,hl cs ha]
  |gd g v=>simp only[Qx,ih v ha]
  |ptr|aptr|msl|gsl|gptr|map|mit|yld=>simp only[Qx,hp _ (J5 ha)]
  |_=>rfl
theorem Zj0 {n:Nat} {φ:Nat→Nat} (hp:∀j,j<n→φ j=j):∀(k:Nat) (a:AV),inA n k a=true→ren φ k a=a
 |0,a,ha=>by cases ha
 |k+1,a,ha=>by
  have ih:=Zj0 hp k
  have hl:∀cs:List AV,cs.all (inA n k)=true→cs.map (ren φ k)=cs:=fun cs hc=>Zb2 fun a ha=>ih a (List.all_eq_true.1 hc a ha)
  cases a with
  |isl s m f tk=>
   cases tk with
   |own id=>simp only[ren,hp _ (J5 ha)]
   |_=>rfl
  |lit s cs=>simp only[ren,hl cs ha]
  |fn f xs bs=>
   have ha:=(Bool.and_eq_true _ _).mp ha
   simp only[ren,hl _ ha.1,hl _ ha.2]
  |agg cs=>simp only[ren,hl cs ha]
  |tup cs=>simp only[ren,hl cs ha]
  |gd g v=>simp only[ren,ih v ha]
  |ptr|aptr|msl|gsl|gptr|map|mit|yld=>simp only[ren,hp _ (J5 ha)]
  |_=>rfl
def Zvh (n:Nat):Zi→Bool
 |.cells cs=>cs.all (inA n 5)
 |.loop s _=>s.all (inA n 5)
 |_=>true
theorem Qy.of {n:Nat} {B:Zi} (h:Zvh n B=true):Qy n B:=by
 cases B with
 |cells cs=>exact⟨fun fz ι k hp=>congrArg Zi.cells (Zb2 fun a ha=>Zhl hp 5 a (List.all_eq_true.1 h a ha)),fun φ hp=>congrArg Zi.cells (Zb2 fun a ha=>Zj0 hp 5 a (List.all_eq_true.1 h a ha)),rfl⟩
 |loop s d=>exact⟨fun fz ι k hp=>congrArg (fun s=>Zi.loop s d) (Zb2 fun a ha=>Zhl hp 5 a (List.all_eq_true.1 h a ha)),fun φ hp=>congrArg (fun s=>Zi.loop s d) (Zb2 fun a ha=>Zj0 hp 5 a (List.all_eq_true.1 h a ha)),rfl⟩
 |_=>exact⟨fun _ _ _ _=>rfl,fun _ _=>rfl,rfl⟩
attribute [local irreducible] Dn
open Go Go.Proofs Sp
set_option maxRecDepth 100000
set_option maxHeartbeats 1600000
structure Wd where
 fr:Int
 to_:Int
 some_:Bool
deriving Inhabited
def Wd.add (w:Wd) (n:Int):Wd:=if w.some_ then⟨min w.fr n,max w.to_ n,true⟩else⟨n,n,true⟩
def Yv (w:Wd):List AV:=[.int .i64 fun _=>w.fr,.int .i64 fun _=>w.to_,.bool fun _=>w.some_]
theorem ZuJ (w:Wd) (n:Int):SC (fun _=>Tryz.prog) 83 [.ptr 0 0,.int .i64 fun _=>n] [.cells (Yv w)] fun r h=>h=[.cells (Yv (w.add n))]:=by
 refine SC.less ?_
 refine Qv Tryz.func83 (body:=Zk Tryz.f83) rfl (by decide+kernel) ?_
 refine wS ?_
 unfold Wd.add
 refine⟨fun hb=>?_,fun hb=>?_⟩
 ·have hs:w.some_=false:=nb2 hb
  rw[if_neg (by rw[hs];exact Bool.false_ne_true)]
  refine wS ?_
  refine⟨.tup [],_,?_,rfl⟩
  (refine To.of [] ?_;cbv;(try simp only[nc]);(repeat' (first|exact trivial|exact ZH.refl _|exact ZR.refl _|refine⟨?_,?_⟩|refine ZR.cells ?_|refine ZH.agg ?_|refine ZH.tup ?_));(all_goals (first|exact XZ|skip)))
  all_goals (refine .int ?_;show(if n<n then n else n)=n;rw[if_neg (Int.lt_irrefl n)])
 ·have hs:w.some_=true:=nb4 hb
  rw[if_pos hs]
  have h1:(if n<w.fr then n else w.fr)=min w.fr n:=by split<;>omega
  have h2:(if w.to_<n then n else w.to_)=max w.to_ n:=by split<;>omega
  generalize min w.fr n=a at*
  generalize max w.to_ n=b at*
  refine vS ?_
  refine Chk.mk (Qd) ?_
  refine⟨.tup [],_,?_,rfl⟩
  (refine To.of [] ?_;cbv;(try simp only[nc]);(repeat' (first|exact trivial|exact ZH.refl _|exact ZR.refl _|refine⟨?_,?_⟩|refine ZR.cells ?_|refine ZH.agg ?_|refine ZH.tup ?_));(all_goals (first|exact XZ|skip)))
  all_goals first|exact .bool hs|exact .int h1|exact .int h2
theorem ZbD {α:Type} (l:List α) (i j:Nat) (x d:α) (h:j≠i):(l.set i x).getD j d=l.getD j d:=by
 rw[List.getD_eq_getElem?_getD,List.getD_eq_getElem?_getD,List.getElem?_set,if_neg (Ne.symm h)]
theorem Zek {α:Type} (l:List α) (i:Nat) (x d:α) (h:i<l.length):(l.set i x).getD i d=x:=by
 rw[List.getD_eq_getElem?_getD,List.getElem?_set,if_pos rfl,if_pos h]
 rfl
theorem ZuK (l:List Wd) (i:Nat) (n:Int) (hi:i<l.length) (hl:l.length≤1000000):SC (fun _=>Tryz.prog) 83 [.aptr 0 3 (fun _=>(i:Int)) 0,.int .i64 fun _=>n] [.arr 3 (fun _=>(l.length:Int)) (Zdv Yv default l)] fun r h=>h=[.arr 3 (fun _=>(l.length:Int)) (Zdv Yv default (l.set i ((l.getD i default).add n)))]:=by
 obtain⟨nt,hnt⟩:=Zu
 rw[ZaX hnt]
 refine SC.less ?_
 refine Qv Tryz.func83 (body:=Zk Tryz.f83) rfl (by decide+kernel) ?_
 have hw:l.getD i default=nt Wd default l i:=by rw[hnt];rfl
 rw[hw]
 refine wS ?_
 have hset:∀(x:Wd) (j:Nat),Zdv Yv default (l.set i x) (fun _=>(j:Int))=Yv (if j=i then x else nt Wd default l j):=fun x j=>by
  show Yv ((l.set i x).getD ((j:Int).toNat) default)=_
  rw[Int.toNat_natCast]
  by_cases h:j=i
  ·subst h
   rw[if_pos rfl,Zek l _ x default hi]
  ·rw[if_neg h,ZbD l i j x default h,hnt]
   rfl
 refine⟨fun hb=>?_,fun hb=>?_⟩
 ·have hs:(nt Wd default l i).some_=false:=nb2 hb
  refine wS ?_
  refine⟨.tup [],[.arr 3 (fun _=>(l.length:Int)) (Zdv Yv default (l.set i ((nt Wd default l i).add n)))],To.of [] ⟨⟨.refl _,trivial⟩,.arr rfl fun j hj=>?_,trivial⟩,rfl⟩
  rw[hset]
  unfold Wd.add
  rw[hs]
  by_cases h:j=i
  ·subst h
   simp[QZ,Zj5,putC,Yv,JD,AV.cellsOf,purify]
  ·have h2:¬((j:Int)=(i:Int)):=by omega
   simp[QZ,Zj5,putC,Yv,JD,AV.cellsOf,purify,h,h2]
 ·have hs:(nt Wd default l i).some_=true:=nb4 hb
  refine wS ?_
  refine⟨.tup [],[.arr 3 (fun _=>(l.length:Int)) (Zdv Yv default (l.set i ((nt Wd default l i).add n)))],To.of [] ⟨⟨.refl _,trivial⟩,.arr rfl fun j hj=>?_,trivial⟩,rfl⟩
  rw[hset]
  unfold Wd.add
  rw[hs]
  by_cases h:j=i
  ·subst h
   simp[QZ,Zj5,putC,Yv,JD,AV.cellsOf,purify,hs]
   exact⟨funext fun _=>by split<;>omega,funext fun _=>by split<;>omega⟩
  ·have h2:¬((j:Int)=(i:Int)):=by omega
   simp[QZ,Zj5,putC,Yv,JD,AV.cellsOf,purify,h,h2]
end Go.Proofs.YtjgpiclllehgmaaGreat.Vm
namespace Go.Proofs.YtjgpiclllehgmaaGreat.Sp
open Vm
def Jd (f:Nat→Int):Nat→Wd
 |0=>⟨0,0,false⟩
 |n+1=>(Jd f n).add (f n)
def JN (t:Ze) (run:Int) (k i:Nat):Int:=
 if k%2=0 then(ZU t (Zm t i) run ((k/2:Nat):Int)).comes else(ZU t (Zm t i) run ((k/2:Nat):Int)).goes
def Zan (t:Ze) (run:Int) (n i j:Nat):List Wd:=(List.range (2*n)).map fun k=>if k<2*j then Jd (JN t run k) (i+1)else Jd (JN t run k) i
def ZeZ (t:Ze) (run:Int) (k:Nat):Za5:=⟨(Jd (JN t run k) (Z7 t)).fr,(Jd (JN t run k) (Z7 t)).to_⟩
def ZcB (t:Ze) (run:Int):List Za5:=(List.range (Zj (callsOf t) run).length).map fun a=>ZeZ t run (2*a)
def Ya (t:Ze) (run:Int):List Za5:=(List.range (Zj (callsOf t) run).length).map fun a=>ZeZ t run (2*a+1)
def YA (t:Ze) (run:Int):Int:=if Zl t≠0 then Zl t else if Qs run 0 ((t.runs.length:Int)-1)then 3 else 0
theorem ZaU {t:Ze} {run:Int} {n i j:Nat}:(Zan t run n i j).length=2*n:=by unfold Zan;simp
theorem ZaV {t:Ze} {run:Int} {n i j k:Nat} (h:k<2*n):(Zan t run n i j).getD k default=if k<2*j then Jd (JN t run k) (i+1)else Jd (JN t run k) i:=by
 unfold Zan
 rw[List.getD_eq_getElem?_getD,List.getElem?_map,List.getElem?_range h]
 rfl
theorem ZqZ {t:Ze} {run:Int} {n i:Nat}:Zan t run n i n=Zan t run n (i+1) 0:=by
 unfold Zan
 refine List.map_congr_left fun k hk=>?_
 rw[if_pos (by have:=List.mem_range.1 hk;omega),if_neg (by omega)]
theorem ZoJ {t:Ze} {run:Int} {n i j:Nat} (hj:j<n) {l2:List Wd} (h2:l2=(Zan t run n i j).set (2*j) (((Zan t run n i j).getD (2*j) default).add (JN t run (2*j) i))):
  l2.set (2*j+1) ((l2.getD (2*j+1) default).add (JN t run (2*j+1) i))=Zan t run n i (j+1):=by
 subst h2
 rw[Vm.ZbD _ _ _ _ _ (by omega),ZaV (by omega),ZaV (by omega),if_neg (by omega),if_neg (by omega)]
 refine List.ext_getElem? fun k=>?_
 by_cases hk:k<2*n
 ·have e:(Zan t run n i (j+1))[k]? =some ((Zan t run n i (j+1)).getD k default):=by
   rw[List.getD_eq_getElem?_getD,List.getElem?_eq_getElem (by rw[ZaU];exact hk)];rfl
  rw[e,ZaV hk]
  by_cases h1:2*j+1=k
  ·subst h1
   rw[List.getElem?_set_self (by rw[List.length_set,ZaU];exact hk),if_pos (by omega)]
   rfl
  ·rw[List.getElem?_set_ne h1]
   by_cases h2:2*j=k
   ·subst h2
    rw[List.getElem?_set_self (by rw[ZaU];exact hk),if_pos (by omega)]
    rfl
   ·rw[List.getElem?_set_ne h2]
    have e2:(Zan t run n i j)[k]? =some ((Zan t run n i j).getD k default):=by
     rw[List.getD_eq_getElem?_getD,List.getElem?_eq_getElem (by rw[ZaU];exact hk)];rfl
    rw[e2,ZaV hk]
    by_cases h3:k<2*j
    ·rw[if_pos h3,if_pos (by omega)]
    ·rw[if_neg h3,if_neg (by omega)]
 ·rw[List.getElem?_eq_none (by rw[List.length_set,List.length_set,ZaU];omega),List.getElem?_eq_none (by rw[ZaU];omega)]
theorem Zar {t:Ze} {x:List Int} {r a:Int} (hs:StopIn (callsOf t) r a):(Ql t x).lookup [r,a]=some (Zcg (ZU t x r a)):=by
 refine Zb3 ?_ (List.mem_map.2 ⟨(r,a),Jt.2 hs,rfl⟩)
 unfold Ql
 rw[List.map_map]
 exact List.Pairwise.map _ (fun a b hab e=>by
  apply hab
  simp only[Function.comp,List.cons.injEq,and_true]at e
  exact Prod.ext e.1 e.2) Zbo
end Go.Proofs.YtjgpiclllehgmaaGreat.Sp
namespace Go.Proofs.YtjgpiclllehgmaaGreat.Vm
attribute [local irreducible] Dn
open Go Go.Proofs Sp
set_option maxRecDepth 100000
set_option maxHeartbeats 4000000
def YL (x:Sp.Za5):List AV:=[.int .i64 fun _=>x.fr,.int .i64 fun _=>x.to_]
theorem ZsB (l l2:List Wd) (i:Nat) (e n N:Int) (he:e=i) (hN:N=l.length) (hi:i<l.length) (hl:l.length≤1000000) (h2:l2=l.set i ((l.getD i default).add n)):SC (fun _=>Tryz.prog) 83 [.aptr 0 3 (fun _=>e) 0,.int .i64 fun _=>n] [.arr 3 (fun _=>N) (Zdv Yv default l)] fun r h=>h=[.arr 3 (fun _=>N) (Zdv Yv default l2)]:=by
 subst he hN h2
 exact ZuK l i n hi hl
theorem ZuQ (t:Ze) (run:Int) (hf:Xj t) (hw:Zl t=0→ZJ t):SC (fun _=>Tryz.prog) 22 [Zf t,.int .i64 fun _=>run] [] fun v h=>
  v= .tup [lst 2 YL default (if YA t run=0 then ZcB t run else []),lst 2 YL default (if YA t run=0 then Ya t run else []),.int .i64 fun _=>YA t run]∧h=[]:=by
 obtain⟨nt,hnt⟩:=Zu
 obtain⟨L2,hL2⟩:∃L2:Nat→Nat→Nat→List Wd,∀n i j,L2 n i j=(Zan t run n i j).set (2*j) (((Zan t run n i j).getD (2*j) default).add (JN t run (2*j) i)):=⟨_,fun _ _ _=>rfl⟩
 refine SC.less (Ztd false false [] Tryz.func22 (body:=Zk Tryz.f22) rfl (by decide+kernel) ?_)
 have k:=Zpr t hf
 have hr:=hf.runs
 have k1:=ZbL run 0 ((t.runs.length:Int)-1)
 generalize hE:YA t run=e
 unfold YA at hE
 unfold Zf at*
 simp only[Za hnt]at k⊢
 by_cases he:Zl t=0
 ·have hw:=hw he
  unfold QD at k
  rw[if_pos he]at k
  rw[if_neg (fun h=>h he)]at hE
  have k382:=Zrp t
  unfold X0 ZX at*
  simp only[Za hnt,Zb,ZB]at k k382⊢
  rw[he]at k
  refine wS ?_
  refine Zpt (k) ?_
  refine wS ?_
  refine Br.isF rfl ?_
  refine wS ?_
  refine Zpt (k1) ?_
  refine wS ?_
  refine⟨fun h=>?_,fun h=>?_⟩
  ·rw[if_pos h]at hE
   subst hE
   refine wS ?_
   refine⟨_,[],?_,rfl,rfl⟩
   exact ZK
  ·rw[if_neg (by rw[h];exact Bool.false_ne_true)]at hE
   subst hE
   have hb:=QO h
   have hlen:t.runs.length=(callsOf t).length:=by unfold callsOf;rw[List.length_map]
   have hrow:=hw.calls.row (Sp.Zj (callsOf t) run) (by
    unfold Sp.Zj
    rw[List.getD_eq_getElem?_getD,List.getElem?_eq_getElem (by omega)]
    exact List.getElem_mem _)
   have hlk:=fun x a h1 h2=> @Zar t x run a ⟨hb.1,by omega,h1,h2⟩
   have hvc:∀i j:Nat,(ZU t (Zm t i) run (j:Int)).comes=JN t run (2*j) i:=fun i j=>by unfold JN;rw[if_pos (by omega),show 2*j/2=j by omega]
   have hvg:∀i j:Nat,(ZU t (Zm t i) run (j:Int)).goes=JN t run (2*j+1) i:=fun i j=>by unfold JN;rw[if_neg (by omega),show(2*j+1)/2=j by omega]
   have hmst:=fun i j h l2 h2=> @ZoJ t run (Sp.Zj (callsOf t) run).length i j h l2 h2
   have hmlen:=fun i j=> @ZaU t run (Sp.Zj (callsOf t) run).length i j
   have hmend:=fun i=> @ZqZ t run (Sp.Zj (callsOf t) run).length i
   have hm0:∀k,k<2*(Sp.Zj (callsOf t) run).length→(Zan t run (Sp.Zj (callsOf t) run).length 0 0).getD k default=⟨0,0,false⟩:=fun k h=>by rw[ZaV h,if_neg (by omega)];rfl
   have hXe:∀m j,j<(Sp.Zj (callsOf t) run).length→nt Wd default (Zan t run (Sp.Zj (callsOf t) run).length m 0) (0+2*(j:Int))=Jd (JN t run (2*j)) m:=fun m j h=>by
    rw[hnt,show(0+2*(j:Int)).toNat=2*j by omega,ZaV (by omega),if_neg (by omega)]
   have hXo:∀m j,j<(Sp.Zj (callsOf t) run).length→nt Wd default (Zan t run (Sp.Zj (callsOf t) run).length m 0) (0+(2*(j:Int)+1))=Jd (JN t run (2*j+1)) m:=fun m j h=>by
    rw[hnt,show(0+(2*(j:Int)+1)).toNat=2*j+1 by omega,ZaV (by omega),if_neg (by omega)]
   have k435:=fun B0 B1 B2 B3 B4 B5 stop=>Zrn t hw B0 B1 B2 B3 B4 B5 stop
   rw[if_pos rfl,if_pos rfl]
   have hcl:ZcB t run=(List.range (Sp.Zj (callsOf t) run).length).map fun a=>ZeZ t run (2*a):=rfl
   have hgl:Ya t run=(List.range (Sp.Zj (callsOf t) run).length).map fun a=>ZeZ t run (2*a+1):=rfl
   generalize ZcB t run=CL at*
   generalize Ya t run=GL at*
   unfold X0 ZX at k435
   simp only[Xm hnt,Za hnt,Zb,ZB]at hrow hlk hXe hXo hmst hmlen hmend hm0 hcl hgl k435
   generalize Zan t run=MID at*
   generalize Zm t=TA at*
   generalize Ql t=HL at*
   generalize hcc:callsOf t=c at*
   refine wS ?_
   refine Zpt (k382) ?_
   refine wS ?_
   generalize hn:(nt (List Sp.Call) [] c run).length=n at*
   have hrows:∀k:Nat,(k:Int)<2*(n:Int)→[AV.int .i64 fun _=>0,AV.int .i64 fun _=>0,AV.bool fun _=>false]=Yv (nt Wd default (MID n 0 0) (k:Int)):=fun k h=>by
    rw[hnt,Int.toNat_natCast,hm0 k (by omega)]
    rfl
   refine Zfe [3,4,5,6,8,9,42] [] [(3,.arr 3 (fun _=>2*(n:Int)) (fun e=>Yv (nt Wd default (MID n 0 0) (e ()))))] (fid:=135) (first:=[]) ?_ rfl ?_ ?_
   ·refine JO ?_
    exact ZR.arr rfl hrows
   ·exact XL
   refine SC.mono (k435 (fun _=>_) (fun _=>_) (fun _=>_) (fun i=>.arr 3 (fun _=>2*(n:Int)) (fun e=>Yv (nt Wd default (MID n i 0) (e ())))) (fun _=>_) (fun _=>_) (fun _=>false) ?_ ?_ ?_ ?_ ?_ ?_ ?_) ?_
   iterate 6 exact fun i=>Qy.of rfl
   ·intro i hi hno
    refine YC.less (Zct false false [] rfl rfl ?_)
    refine wS ?_
    refine Zsy false false [] [3,4,5,8,9,11,44,45,46] [] (fun(j:Nat)=>[(46,.int .i64 fun _=>(j:Int))]) (fun j=>[(3,.arr 3 (fun _=>2*(n:Int)) (fun e=>Yv (nt Wd default (MID n i j) (e ()))))]) (fun j=>j≤n) (fun j=>n-j+0) 0 (by omega) ?_ ?_
    ·exact ZK
    intro j hj
    refine wS ?_
    refine⟨fun hb2=>?_,fun hb2=>?_⟩
    ·simp only[decide_eq_true_eq]at hb2
     have e1:(((HL (TA i)).lookup [run,(j:Int)]).getD []).headD 0=JN t run (2*j) i:=by rw[hlk _ _ (by omega) (by omega),←hvc];rfl
     have e2:(((HL (TA i)).lookup [run,(j:Int)]).getD []).tail.tail.headD 0=JN t run (2*j+1) i:=by rw[hlk _ _ (by omega) (by omega),←hvg];rfl
     have hl2:=hL2 n i j
     have h3:=hmst i j (by omega) (L2 n i j) hl2
     have hl2l:(L2 n i j).length=2*n:=by rw[hl2,List.length_set,hmlen]
     have k1:=ZsB (MID n i j) (L2 n i j) (2*j) (0+2*(j:Int)) (JN t run (2*j) i) (2*(n:Int)) (by omega) (by rw[hmlen];omega) (by rw[hmlen];omega) (by rw[hmlen];omega) hl2
     have k2:=ZsB (L2 n i j) (MID n i (j+1)) (2*j+1) (0+(2*(j:Int)+1)) (JN t run (2*j+1) i) (2*(n:Int)) (by omega) (by rw[hl2l];omega) (by rw[hl2l];omega) (by rw[hl2l];omega) h3.symm
     simp only[ZaX hnt]at k1 k2
     refine vS ?_
     refine Chk.mk (Qd) ?_
     simp only[e1]
     refine cL1 [3] (k1) fun r h₂ hp=>?_
     (try simp only[Zd,Zc,Zf,Zb,Za hnt]at hp)
     obtain rfl:=hp
     refine vS ?_
     try refine Chk.mk (Qd) ?_
     simp only[e2]
     refine cL1 [3] (k2) fun r h₂ hp=>?_
     (try simp only[Zd,Zc,Zf,Zb,Za hnt]at hp)
     obtain rfl:=hp
     refine wS ?_
     refine⟨j+1,by omega,by show n-(j+1)+0<n-j+0;omega,?_⟩
     exact ZK
    ·simp only[decide_eq_false_iff_not]at hb2
     have hjn:j=n:=by omega
     subst hjn
     refine wS ?_
     refine⟨.bool fun _=>true,_,?_,rfl,rfl⟩
     refine JO ?_
     rw[hmend i]
     exact ZR.refl _
   ·intro v h hh
    obtain⟨m,hm,rfl⟩:=hh
    have hmN:m=Z7 t:=by
     rcases hm with h|⟨_,_,_,h,_⟩
     ·exact h.1
     ·cases h
    refine wS ?_
    refine ZS false false [] [4,5,9,77,78] [.tok 2 fun _=>0,.tok 2 fun _=>0] (fun p:Nat×List Sp.Za5×List Sp.Za5=>[(78,.int .i64 fun _=>(p.1:Int)),(4,.isl 2 (fun _=>(p.2.1.length:Int)) (fun e=>YL (nt Sp.Za5 default p.2.1 (e ()))) (.own 5)),(5,.isl 2 (fun _=>(p.2.2.length:Int)) (fun e=>YL (nt Sp.Za5 default p.2.2 (e ()))) (.own 6))]) (fun p=>[(5,.tok 2 fun _=>(p.2.1.length:Int)),(6,.tok 2 fun _=>(p.2.2.length:Int))])
     (fun p=>p.1≤n∧p.2.1=(List.range p.1).map (fun a=>ZeZ t run (2*a))∧p.2.2=(List.range p.1).map (fun a=>ZeZ t run (2*a+1))) (fun p=>n-p.1+0) (0,[],[]) ⟨by omega,rfl,rfl⟩ ?_ ?_
    ·(refine To.of [(2,false),(2,false)] ?_;cbv;(try simp only[nc]);(repeat' (first|exact trivial|exact ZH.refl _|exact ZR.refl _|refine⟨?_,?_⟩|refine ZR.cells ?_|refine ZH.agg ?_|refine ZH.tup ?_));(all_goals (first|exact XZ|skip)))
    intro p hp
    refine wS ?_
    refine⟨fun hb3=>?_,fun hb3=>?_⟩
    ·simp only[decide_eq_true_eq]at hb3
     have x1:=hXe m p.1 (by omega)
     have x2:=hXo m p.1 (by omega)
     have a1:=congrArg List.length hp.2.1
     have a2:=congrArg List.length hp.2.2
     rw[List.length_map,List.length_range]at a1 a2
     refine vS ?_
     refine Chk.mk (Qd) ?_
     refine⟨(p.1+1,p.2.1++[⟨(nt Wd default (MID n m 0) (0+2*(p.1:Int))).fr,(nt Wd default (MID n m 0) (0+2*(p.1:Int))).to_⟩],p.2.2++[⟨(nt Wd default (MID n m 0) (0+(2*(p.1:Int)+1))).fr,(nt Wd default (MID n m 0) (0+(2*(p.1:Int)+1))).to_⟩]),⟨by show p.1+1≤n;omega,?_,?_⟩,by show n-(p.1+1)+0<n-p.1+0;omega,?_⟩
     ·show p.2.1++_=_
      rw[List.range_succ,List.map_append,←hp.2.1,x1,hmN]
      rfl
     ·show p.2.2++_=_
      rw[List.range_succ,List.map_append,←hp.2.2,x2,hmN]
      rfl
     exact ZK
    ·simp only[decide_eq_false_iff_not]at hb3
     have hpn:p.1=n:=by omega
     have r1:p.2.1=CL:=by rw[hp.2.1,hpn,hcl]
     have r2:p.2.2=GL:=by rw[hp.2.2,hpn,hgl]
     refine wS ?_
     rw[r1,r2]
     refine⟨_,[],?_,rfl,rfl⟩
     exact ZK
 ·unfold QD at k
  rw[if_neg he]at k
  rw[if_pos he]at hE
  rw[hE]at k he
  rw[if_neg he,if_neg he]
  refine wS ?_
  refine Zpt (k) ?_
  refine wS ?_
  refine⟨fun h=>?_,fun h=>?_⟩
  ·refine wS ?_
   refine⟨_,[],?_,rfl,rfl⟩
   exact ZK
  ·exact absurd (by simpa only[bne_eq_false_iff_eq]using h) he
end Go.Proofs.YtjgpiclllehgmaaGreat.Vm
namespace Go.Proofs.YtjgpiclllehgmaaGreat.Sp
def ZaD (c:List (List Call)) (n:Int) (s:Step):Int:=
 if Qs s.run 0 (n-1)then 3
 else if Zo (c.getD s.run.toNat []) 0 s.from_<0∨Zo (c.getD s.run.toNat []) (Zo (c.getD s.run.toNat []) 0 s.from_+1) s.to_<0 then 3 else 0
def YW (c:List (List Call)) (n:Int) (a:ZF):Int:=
 if Qs a.from_ 0 9||(Qs a.goal 0 9||Qs a.since 0 43200)then 1
 else if 6<a.steps.length then 6
 else Zv (fun i=>ZaD c n (a.steps.getD i default)) 0 a.steps.length
end Go.Proofs.YtjgpiclllehgmaaGreat.Sp
namespace Go.Proofs.YtjgpiclllehgmaaGreat.Vm
attribute [local irreducible] Dn
open Go Go.Proofs Sp
set_option maxRecDepth 100000
set_option maxHeartbeats 4000000
def XR (s:Sp.Step):List AV:=[.int .i64 fun _=>s.run,.int .i64 fun _=>s.from_,.int .i64 fun _=>s.to_]
def XV (a:ZF):AV:=.agg [.int .i64 fun _=>a.from_,.int .i64 fun _=>a.since,.int .i64 fun _=>a.goal,lst 3 XR default a.steps]
theorem Zvw (t:Ze) (a:ZF) (hc:ZaB (callsOf t)) (hr:t.runs.length≤1000000) (ha:a.steps.length≤1000000):SC (fun _=>Tryz.prog) 162 [.iptr (ZX t) 0,XV a] [] fun v h=>v= .int .i64 (fun _=>YW (callsOf t) t.runs.length a)∧h=[]:=by
 obtain⟨nt,hnt⟩:=Zu
 unfold ZX XV
 simp only[Za hnt,Zb]
 refine SC.less (Qv Tryz.func162 (body:=Zk Tryz.f162) rfl (by decide+kernel) ?_)
 generalize hE:YW (callsOf t) t.runs.length a=e
 have hlen:t.runs.length=(callsOf t).length:=by unfold callsOf;rw[List.length_map]
 generalize hcc:callsOf t=c at*
 have hmem:∀i:Int,0≤i→i≤(t.runs.length:Int)-1→nt (List Sp.Call) [] c i∈c:=fun i h0 h1=>by
  have:i.toNat<c.length:=by omega
  rw[hnt,List.getD_eq_getElem?_getD,List.getElem?_eq_getElem this]
  exact List.getElem_mem _
 unfold YW at hE
 have k1:=ZbL a.from_ 0 9
 have k2:=ZbL a.goal 0 9
 have k3:=ZbL a.since 0 43200
 generalize Qs a.from_ 0 9=b1 at*
 generalize Qs a.goal 0 9=b2 at*
 generalize Qs a.since 0 43200=b3 at*
 refine wS ?_
 refine Zpt (k1) ?_
 refine wS ?_
 cases b1
 case true=>
  rw[Bool.true_or,if_pos rfl]at hE
  subst hE
  refine Br.isF rfl ?_
  refine wS ?_
  refine Br.isF rfl ?_
  refine wS ?_
  refine Br.isT rfl ?_
  refine wS ?_
  refine⟨_,[],?_,rfl,rfl⟩
  exact ZK
 refine Br.isT rfl ?_
 refine wS ?_
 refine Zpt (k2) ?_
 refine wS ?_
 cases b2
 case true=>
  rw[Bool.true_or,Bool.or_true,if_pos rfl]at hE
  subst hE
  refine Br.isF rfl ?_
  refine wS ?_
  refine Br.isT rfl ?_
  refine wS ?_
  refine⟨_,[],?_,rfl,rfl⟩
  exact ZK
 refine Br.isT rfl ?_
 refine wS ?_
 refine Zpt (k3) ?_
 refine wS ?_
 cases b3
 case true=>
  rw[if_pos (show(false||(false||true))=true from rfl)]at hE
  subst hE
  refine Br.isT rfl ?_
  refine wS ?_
  refine⟨_,[],?_,rfl,rfl⟩
  exact ZK
 rw[if_neg (show¬(false||(false||false))=true by decide)]at hE
 refine Br.isF rfl ?_
 refine wS ?_
 refine⟨fun h4=>?_,fun h4=>?_⟩
 ·have h4:=of_decide_eq_true h4
  rw[if_pos (by omega)]at hE
  subst hE
  refine wS ?_
  refine⟨_,[],?_,rfl,rfl⟩
  exact ZK
 have h4:=of_decide_eq_false h4
 rw[if_neg (by omega)]at hE
 clear k1 k2 k3
 refine wS ?_
 refine ZS false false [] [0,29,30,31] [] (fun(i:Nat)=>[(31,.int .i64 fun _=>(i:Int))]) (fun _=>[]) (fun i=>i≤a.steps.length∧e=Zv (fun i=>ZaD c t.runs.length (a.steps.getD i default)) i (a.steps.length-i)) (fun i=>a.steps.length-i+0) 0 ⟨by omega,hE.symm⟩ ?_ ?_
 ·exact ZK
 rintro i ⟨hi,hp⟩
 refine wS ?_
 refine⟨fun hb=>?_,fun hb=>?_⟩
 case refine_2=>
  simp only[decide_eq_false_iff_not]at hb
  rw[Xx (by omega)]at hp
  subst hp
  refine wS ?_
  refine⟨_,[],?_,rfl,rfl⟩
  exact ZK
 simp only[decide_eq_true_eq]at hb
 rw[Xg (by omega)]at hp
 have hwe:ZaD c t.runs.length (a.steps.getD i default)=ZaD c t.runs.length (nt Step default a.steps i):=by rw[XX hnt]
 rw[hwe]at hp
 generalize hd:nt Step default a.steps i=d at*
 refine vS ?_
 simp only[hd]
 refine Chk.mk (Qd) ?_
 have k5:=ZbL d.run 0 ((t.runs.length:Int)-1)
 generalize hS:ZaD c t.runs.length d=e5 at hp
 unfold ZaD at hS
 rw[←hnt (List Sp.Call) [] c d.run]at hS
 refine Zpt (k5) ?_
 refine wS ?_
 refine⟨fun h5=>?_,fun h5=>?_⟩
 ·rw[if_pos h5]at hS
  subst hS
  rw[if_pos (by decide)]at hp
  subst hp
  refine wS ?_
  refine⟨_,[],?_,rfl,rfl⟩
  exact ZK
 rw[if_neg (by rw[h5];exact Bool.false_ne_true)]at hS
 have b1:=QO h5
 have m1:=hmem _ b1.1 b1.2
 refine vS ?_
 generalize hF:nt (List Sp.Call) [] c d.run=F at*
 have r1:=hc.row _ m1
 have q1:=Zmx F 0 d.from_ (by omega) (by omega)
 have s1:=XF F 0 d.from_
 have q2:=Zmx F (Zo F 0 d.from_+1) d.to_ (by omega) (by omega)
 simp only[Za hnt]at q1 q2
 try simp only[hF]
 try refine Chk.mk (Qd) ?_
 refine Zpt (q1) ?_
 generalize Zo F 0 d.from_=f at*
 refine vS ?_
 try simp only[hF]
 try refine Chk.mk (Qd) ?_
 refine⟨fun h6=>?_,fun h6=>?_⟩
 case refine_2=>
  have h6:f<0:=by simpa only[Bool.not_eq_false',decide_eq_true_eq]using h6
  rw[if_pos (.inl h6)]at hS
  subst hS
  rw[if_pos (by decide)]at hp
  subst hp
  refine wS ?_
  refine Br.isT (by simpa using h6) ?_
  refine wS ?_
  refine⟨_,[],?_,rfl,rfl⟩
  exact ZK
 have h6:¬f<0:=by simpa only[Bool.not_eq_true',decide_eq_false_iff_not]using h6
 refine vS ?_
 try simp only[hF]
 try refine Chk.mk (Qd) ?_
 refine Zpt (q2) ?_
 generalize Zo F (f+1) d.to_=g at*
 refine wS ?_
 refine⟨fun h7=>?_,fun h7=>?_⟩
 ·have h7:g<0:=by
   cases hf0:decide (f<0)with
   |true=>exact absurd (of_decide_eq_true hf0) h6
   |false=>rw[hf0]at h7;exact of_decide_eq_true h7
  rw[if_pos (.inr h7)]at hS
  subst hS
  rw[if_pos (by decide)]at hp
  subst hp
  refine wS ?_
  refine⟨_,[],?_,rfl,rfl⟩
  exact ZK
 have h7:¬g<0:=by
  cases hf0:decide (f<0)with
  |true=>exact absurd (of_decide_eq_true hf0) h6
  |false=>rw[hf0]at h7;exact of_decide_eq_false h7
 rw[if_neg (by omega)]at hS
 subst hS
 rw[if_neg (fun h=>h rfl)]at hp
 refine wS ?_
 refine⟨i+1,⟨by omega,hp⟩,by show a.steps.length-(i+1)+0<a.steps.length-i+0;omega,?_⟩
 exact ZK
end Go.Proofs.YtjgpiclllehgmaaGreat.Vm
namespace Go.Proofs.YtjgpiclllehgmaaGreat.Sp
open Vm
def QI (a:ZF) (i:Nat):Step:=a.steps.getD i default
def JG (t:Ze) (s:Step):Int:=Zo (Zj (callsOf t) s.run) 0 s.from_
def Zio (t:Ze) (s:Step):Int:=Zo (Zj (callsOf t) s.run) (JG t s+1) s.to_
def ZeO (t:Ze) (x:List Int) (a:ZF) (taken:List Int) (at_ now:Int) (i:Nat):Bool:=
 !taken.contains (i:Int)&&(decide ((QI a i).from_=at_)&&decide (now≤(ZU t x (QI a i).run (JG t (QI a i))).goes))
def YD (t:Ze) (x:List Int) (a:ZF) (taken:List Int) (at_ now:Int):Nat→Nat→Option Nat
 |_,0=>none
 |i,n+1=>if ZeO t x a taken at_ now i then some i else YD t x a taken at_ now (i+1) n
def Jv (t:Ze) (x:List Int) (a:ZF):Nat→List Int→Int→Int→List Int×Int×Bool
 |0,l,_,_=>(l,0,false)
 |f+1,l,at_,now=>if at_=a.goal then(l,now,true)else match YD t x a l at_ now 0 a.steps.length with
  |none=>(l,0,false)
  |some i=>Jv t x a f (l++[(i:Int)]) (QI a i).to_ (ZU t x (QI a i).run (Zio t (QI a i))).comes
def J0 (t:Ze) (x:List Int) (a:ZF):List Int×Int×Bool:=Jv t x a (a.steps.length+1) [] a.from_ a.since
def ZiW (a:ZF) (l:List Int):Nat:=((List.range a.steps.length).filter fun(i:Nat)=> !l.contains (i:Int)).length
theorem ZdI {α:Type} {p q:α→Bool} (hq:∀x,q x=true→p x=true):∀ {l:List α} {x:α},x∈l→p x=true→q x=false→(l.filter q).length<(l.filter p).length
 |a::l,x,hx,h1,h2=>by
  have hle:∀l:List α,(l.filter q).length≤(l.filter p).length:=fun l=>by
   induction l with
   |nil=>exact Nat.le_refl _
   |cons a l ih=>
    rw[List.filter_cons,List.filter_cons]
    cases h:q a with
    |true=>rw[hq a h];simpa using ih
    |false=>cases p a<;>simp<;>omega
  rw[List.filter_cons,List.filter_cons]
  rcases List.mem_cons.1 hx with rfl|hx
  ·rw[h1,h2]
   have:=hle l
   simp
   omega
  ·have ih:=ZdI hq hx h1 h2
   cases h:q a with
   |true=>rw[hq a h];simpa using ih
   |false=>cases p a<;>simp<;>omega
theorem Zq3 {a:ZF} {l:List Int} {i:Nat} (hi:i<a.steps.length) (h:l.contains (i:Int)=false):ZiW a (l++[(i:Int)])<ZiW a l:=by
 refine ZdI (x:=i) (fun j hj=>?_) (List.mem_range.2 hi) (by rw[h];rfl) (by simp)
 simp only[Bool.not_eq_true',List.contains_eq_mem,List.mem_append,decide_eq_false_iff_not]at hj⊢
 exact fun h=>hj (.inl h)
theorem ZoQ {a:ZF}:ZiW a []=a.steps.length:=by
 unfold ZiW
 rw[show(List.range a.steps.length).filter (fun(i:Nat)=> !([]:List Int).contains (i:Int))=List.range a.steps.length from List.filter_eq_self.2 fun _ _=>rfl,List.length_range]
theorem ZlH {t:Ze} {x:List Int} {a:ZF} {f:Nat} {l:List Int} {at_ now:Int} (hf:0<f) (h:at_=a.goal):Jv t x a f l at_ now=(l,now,true):=by
 cases f with
 |zero=>omega
 |succ f=>rw[Jv,if_pos h]
theorem ZlG {t:Ze} {x:List Int} {a:ZF} {f:Nat} {l:List Int} {at_ now:Int} (hf:0<f) (h:at_≠a.goal) (hn:YD t x a l at_ now 0 a.steps.length=none):Jv t x a f l at_ now=(l,0,false):=by
 cases f with
 |zero=>omega
 |succ f=>rw[Jv,if_neg h,hn]
theorem ZlF {t:Ze} {x:List Int} {a:ZF} {f:Nat} {l:List Int} {at_ now:Int} {i:Nat} (hf:0<f) (h:at_≠a.goal) (hn:YD t x a l at_ now 0 a.steps.length=some i):
  Jv t x a f l at_ now=Jv t x a (f-1) (l++[(i:Int)]) (QI a i).to_ (ZU t x (QI a i).run (Zio t (QI a i))).comes:=by
 cases f with
 |zero=>omega
 |succ f=>rw[Jv,if_neg h,hn];rfl
theorem ZqF {t:Ze} {a:ZF} (hf:ZJ t) (h:YW (callsOf t) t.runs.length a=0) {i:Nat} (hi:i<a.steps.length):
  a.steps.length≤6∧StopIn (callsOf t) (QI a i).run (JG t (QI a i))∧StopIn (callsOf t) (QI a i).run (Zio t (QI a i)):=by
 have hlen:t.runs.length=(callsOf t).length:=by unfold callsOf;rw[List.length_map]
 unfold YW at h
 split at h
 ·cases h
 split at h
 ·cases h
 have h1:=Z4 h i (by omega) (by omega)
 unfold ZaD at h1
 split at h1
 ·cases h1
 split at h1
 ·cases h1
 rename_i h2 h3
 have hb:0≤(QI a i).run∧(QI a i).run≤(t.runs.length:Int)-1:=QO (by cases hq:Qs (QI a i).run 0 ((t.runs.length:Int)-1)with|false=>rfl|true=>exact absurd hq h2)
 have f1:JG t (QI a i)<(Zj (callsOf t) (QI a i).run).length:=(XF _ _ _).1
 have f2:Zio t (QI a i)<(Zj (callsOf t) (QI a i).run).length:=(XF _ _ _).1
 change¬(JG t (QI a i)<0∨Zio t (QI a i)<0)at h3
 exact⟨by omega,⟨hb.1,by omega,by omega,f1⟩,hb.1,by omega,by omega,f2⟩
end Go.Proofs.YtjgpiclllehgmaaGreat.Sp
