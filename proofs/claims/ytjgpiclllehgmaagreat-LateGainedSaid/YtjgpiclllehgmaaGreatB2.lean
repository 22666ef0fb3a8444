/- When runs come and go in a truth, in plain Lean. -/
import Derived.Test.YtjgpiclllehgmaaGreatB1
import Derived.Test.YtjgpiclllehgmaaGreatB0
set_option linter.all false
namespace Go.Proofs.YtjgpiclllehgmaaGreat.Sp
open Vm
structure Zjh where
 comes:Int
 ready:Int
 goes:Int
deriving DecidableEq,Inhabited
def Zq (c:List (List Call)) (r:Int):List Call:=c.getD r.toNat []
def ZD (c:List (List Call)) (r a:Int):Call:=(Zq c r).getD a.toNat default
def ZhP (x:List Int) (run leg:Int):Nat→List Qh→Int
 |_,[]=>0
 |i,d::r=>if d.run=run∧d.leg=leg then d.by_.getD (x.getD i 0).toNat 0 else ZhP x run leg (i+1) r
def Zi0 (t:Zf) (x:List Int) (run leg:Int):Int:=ZhP x run leg 0 t.delays
def Yg (t:Zf) (x:List Int) (g:Int→Int→Int) (r a:Int):Int:=
 g r (a-1)+(ZD (callsOf t) r a).arrive-(ZD (callsOf t) r (a-1)).depart+Zi0 t x r (a-1)
def Zb8 (c:List (List Call)) (cm:Int→Int→Int) (r:Int) (call:Call) (g:Int) (w:Xt):Int:=
 if w.train≠r∨w.station≠call.station then g
 else if cm w.feeder (Z6 (Zq c w.feeder) w.station)≤call.depart+w.minutes then max g (cm w.feeder (Z6 (Zq c w.feeder) w.station))else g
def Zhd (c:List (List Call)) (r a comes:Int):Int:=
 if a=((Zq c r).length:Int)-1 then comes else max (ZD c r a).depart comes
def Zfw (t:Zf) (cm:Int→Int→Int) (r a ready:Int):Int:=
 if a=((Zq (callsOf t) r).length:Int)-1 then ready else t.waits.foldl (Zb8 (callsOf t) cm r (ZD (callsOf t) r a)) ready
def ZjY (t:Zf) (cm:Int→Int→Int) (r a comes:Int):Zjh:=
 let ready:=Zhd (callsOf t) r a comes
 let goes:=Zfw t cm r a ready
 ⟨if a=0 then goes else comes,ready,goes⟩
def Zbn (t:Zf) (x:List Int) (g:Int→Int→Int) (r a:Int):Zjh:=
 ZjY t (Yg t x g) r a (if 0<a then Yg t x g r a else 0)
def Zdl (t:Zf) (x:List Int):Nat→Int→Int→Zjh
 |0=>fun _ _=>default
 |n+1=>fun r a=>Zbn t x (fun r a=>(Zdl t x n r a).goes) r a
def ZY (t:Zf) (x:List Int) (r a:Int):Zjh:=Zdl t x ((ZD (callsOf t) r a).depart.toNat+1) r a
def goes (t:Zf) (x:List Int) (r a:Int):Int:=(ZY t x r a).goes
def comes (t:Zf) (x:List Int) (r a:Int):Int:=Yg t x (goes t x) r a
def StopIn (c:List (List Call)) (r a:Int):Prop:=0≤r∧r<c.length∧0≤a∧a<(Zq c r).length
structure ZH (t:Zf):Prop where
 calls:Zaq (callsOf t)
 nn:∀r a,StopIn (callsOf t) r a→0≤(ZD (callsOf t) r a).arrive∧(ZD (callsOf t) r a).arrive≤(ZD (callsOf t) r a).depart∧(ZD (callsOf t) r a).depart≤1099511627776
 asc:∀r a,StopIn (callsOf t) r a→0<a→(ZD (callsOf t) r (a-1)).depart<(ZD (callsOf t) r a).arrive
 wlen:t.waits.length≤4
 dlen:t.delays.length≤6
 w:∀w∈t.waits,0≤w.feeder∧w.feeder<(callsOf t).length∧1≤Z6 (Zq (callsOf t) w.feeder) w.station∧0≤w.minutes∧w.minutes≤60
  ∧∀a,StopIn (callsOf t) w.train a→a≠((Zq (callsOf t) w.train).length:Int)-1→(ZD (callsOf t) w.train a).station=w.station→
   (ZD (callsOf t) w.feeder (Z6 (Zq (callsOf t) w.feeder) w.station)).arrive≤(ZD (callsOf t) w.train a).depart
 d:∀d∈t.delays,1≤d.by_.length∧d.by_.length≤3∧∀n∈d.by_,0≤n∧n≤240
structure Y5 (t:Zf) (x:List Int):Prop where
 len:x.length=6
 d:∀i,i<t.delays.length→0≤x.getD i 0∧x.getD i 0<(t.delays.getD i default).by_.length
theorem JD {t:Zf} (hf:ZH t) {w:Xt} (hw:w∈t.waits):StopIn (callsOf t) w.feeder (Z6 (Zq (callsOf t) w.feeder) w.station):=by
 have h:=hf.w w hw
 have:=JK (Zq (callsOf t) w.feeder) 1 w.station
 exact⟨h.1,h.2.1,by unfold Z6 at*;omega,by unfold Z6;omega⟩
theorem StopIn.prev {c:List (List Call)} {r a:Int} (h:StopIn c r a) (ha:0<a):StopIn c r (a-1):=⟨h.1,h.2.1,by have:=h.2.2.2;omega,by have:=h.2.2.2;omega⟩
theorem Zk2 {x:List Int} {run leg:Int}:∀(l:List Qh) (i:Nat),(∀d∈l,∀n∈d.by_,0≤n∧n≤240)→0≤ZhP x run leg i l∧ZhP x run leg i l≤240
 |[],i,_=>by unfold ZhP;omega
 |d::r,i,h=>by
  unfold ZhP
  split
  ·rw[List.getD_eq_getElem?_getD]
   cases hq:d.by_[(x.getD i 0).toNat]? with
   |none=>simp
   |some n=>exact h d (List.mem_cons_self ..) n (List.mem_of_getElem? hq)
  ·exact Zk2 r (i+1) fun d hd=>h d (List.mem_cons_of_mem _ hd)
theorem ZhO {t:Zf} (hf:ZH t) (x:List Int) (run leg:Int):0≤Zi0 t x run leg∧Zi0 t x run leg≤240:=Zk2 _ _ fun d hd=>(hf.d d hd).2.2
theorem Zbr {α β:Type} {f g:α→β→α}:∀(l:List β) (a:α),(∀b∈l,∀a,f a b=g a b)→l.foldl f a=l.foldl g a
 |[],_,_=>rfl
 |b::r,a,h=>by
  rw[List.foldl_cons,List.foldl_cons,h b (List.mem_cons_self ..) a]
  exact Zbr r _ fun b hb=>h b (List.mem_cons_of_mem _ hb)
theorem ZcN {t:Zf} (hf:ZH t) (x:List Int) {g g':Int→Int→Int} {r a:Int} (hs:StopIn (callsOf t) r a)
  (h:∀r' a',StopIn (callsOf t) r' a'→(ZD (callsOf t) r' a').depart<(ZD (callsOf t) r a).depart→g r' a'=g' r' a'):Zbn t x g r a=Zbn t x g' r a:=by
 have hc:∀r' a',StopIn (callsOf t) r' a'→0<a'→(ZD (callsOf t) r' a').arrive≤(ZD (callsOf t) r a).depart→Yg t x g r' a'=Yg t x g' r' a':=fun r' a' hs' ha' hle=>by
  unfold Yg
  rw[h r' (a'-1) (hs'.prev ha') (by have:=hf.asc r' a' hs' ha';omega)]
 have h1:(if 0<a then Yg t x g r a else 0)=(if 0<a then Yg t x g' r a else 0):=by
  split
  ·exact hc r a hs (by assumption) (hf.nn r a hs).2.1
  ·rfl
 have h2:∀q,Zfw t (Yg t x g) r a q=Zfw t (Yg t x g') r a q:=fun q=>by
  unfold Zfw
  split
  ·rfl
  rename_i hl
  refine Zbr _ _ fun w hw b=>?_
  unfold Zb8
  split
  ·rfl
  rename_i hq
  have hw2:=hf.w w hw
  have hq1:w.train=r:=by
   by_cases he:w.train=r
   ·exact he
   ·exact absurd (.inl he) hq
  have hq2:w.station=(ZD (callsOf t) r a).station:=by
   by_cases he:w.station=(ZD (callsOf t) r a).station
   ·exact he
   ·exact absurd (.inr he) hq
  rw[hc _ _ (JD hf hw) (by omega) (by subst hq1;exact hw2.2.2.2.2.2 a hs hl hq2.symm)]
 unfold Zbn ZjY
 rw[h1]
 simp only[h2]
theorem Zd3 {t:Zf} (hf:ZH t) (x:List Int):∀(n m:Nat) (r a:Int),StopIn (callsOf t) r a→(ZD (callsOf t) r a).depart<n→(ZD (callsOf t) r a).depart<m→Zdl t x n r a=Zdl t x m r a
 |0,_,r,a,hs,h,_=>by have:=hf.nn r a hs;omega
 |_+1,0,r,a,hs,_,h=>by have:=hf.nn r a hs;omega
 |n+1,m+1,r,a,hs,h1,h2=>ZcN hf x hs fun r' a' hs' hlt=>by
  show(Zdl t x n r' a').goes=(Zdl t x m r' a').goes
  rw[Zd3 hf x n m r' a' hs' (by omega) (by omega)]
theorem ZiE {t:Zf} (hf:ZH t) (x:List Int) {r a:Int} (hs:StopIn (callsOf t) r a):ZY t x r a=Zbn t x (goes t x) r a:=by
 show Zbn t x _ r a=_
 refine ZcN hf x hs fun r' a' hs' hlt=>?_
 have:=hf.nn r' a' hs'
 have:=hf.nn r a hs
 unfold goes ZY
 rw[Zd3 hf x _ ((ZD (callsOf t) r' a').depart.toNat+1) r' a' hs' (by omega) (by omega)]
theorem ZeI {t:Zf} (hf:ZH t) {cm:Int→Int→Int} {r:Int} {call:Call} {M:Int} (hM:call.depart+60≤M):∀(l:List Xt) (g:Int),(∀w∈l,w∈t.waits)→g≤M→g≤l.foldl (Zb8 (callsOf t) cm r call) g∧l.foldl (Zb8 (callsOf t) cm r call) g≤M
 |[],g,_,h=>⟨Int.le_refl _,h⟩
 |w::l,g,hl,h=>by
  rw[List.foldl_cons]
  have hw:=hf.w w (hl w (List.mem_cons_self ..))
  have h1:g≤Zb8 (callsOf t) cm r call g w∧Zb8 (callsOf t) cm r call g w≤M:=by
   unfold Zb8
   split
   ·omega
   split<;>omega
  have h2:=ZeI hf (cm:=cm) (r:=r) hM l (Zb8 (callsOf t) cm r call g w) (fun w hw=>hl w (List.mem_cons_of_mem _ hw)) h1.2
  omega
theorem Zqs {t:Zf} (hf:ZH t) (x:List Int) {r a:Int} (hs:StopIn (callsOf t) r a):goes t x r a=(Zbn t x (goes t x) r a).goes:=by
 show(ZY t x r a).goes=_
 rw[ZiE hf x hs]
theorem Zfu {t:Zf} (hf:ZH t) (x:List Int):∀(n:Nat) (r a:Int),StopIn (callsOf t) r a→(ZD (callsOf t) r a).depart<n→
  (ZD (callsOf t) r a).arrive≤goes t x r a∧goes t x r a≤(ZD (callsOf t) r a).depart+60+240*a∧(a≠((Zq (callsOf t) r).length:Int)-1→(ZD (callsOf t) r a).depart≤goes t x r a)
 |0,r,a,hs,h=>by have:=hf.nn r a hs;omega
 |n+1,r,a,hs,h=>by
  have hn:=hf.nn r a hs
  have hcm:0<a→(ZD (callsOf t) r a).arrive≤Yg t x (goes t x) r a∧Yg t x (goes t x) r a≤(ZD (callsOf t) r a).arrive+60+240*a:=fun ha=>by
   have h1:=hf.asc r a hs ha
   have h2:=Zfu hf x n r (a-1) (hs.prev ha) (by omega)
   have h3:=h2.2.2 (by have:=hs.2.2.2;omega)
   have h4:=ZhO hf x r (a-1)
   show _≤goes t x r (a-1)+_-_+_∧goes t x r (a-1)+_-_+_≤_
   omega
  rw[Zqs hf x hs]
  generalize hG:goes t x=G at*
  unfold Zbn ZjY Zhd Zfw
  have ha:=hs.2.2.1
  by_cases hl:a=((Zq (callsOf t) r).length:Int)-1
  ·have h2:0<a:=by
    have hr:=hf.calls.row (Zq (callsOf t) r) (by
     unfold Zq
     have:r.toNat<(callsOf t).length:=by have:=hs.2.1;have:=hs.1;omega
     rw[List.getD_eq_getElem?_getD,List.getElem?_eq_getElem this]
     exact List.getElem_mem _)
    omega
   simp only[if_pos hl,if_pos h2]
   have:=hcm h2
   omega
  ·simp only[if_neg hl]
   by_cases h0:0<a
   ·simp only[if_pos h0]
    have:=hcm h0
    have hw:=ZeI hf (cm:=Yg t x G) (r:=r) (call:=ZD (callsOf t) r a) (M:=(ZD (callsOf t) r a).depart+60+240*a) (by omega) t.waits (max (ZD (callsOf t) r a).depart (Yg t x G r a)) (fun w hw=>hw) (by omega)
    omega
   ·simp only[if_neg h0]
    have hw:=ZeI hf (cm:=Yg t x G) (r:=r) (call:=ZD (callsOf t) r a) (M:=(ZD (callsOf t) r a).depart+60+240*a) (by omega) t.waits (max (ZD (callsOf t) r a).depart 0) (fun w hw=>hw) (by omega)
    omega
theorem ZhA {t:Zf} (hf:ZH t) (x:List Int) {r a:Int} (hs:StopIn (callsOf t) r a):0≤goes t x r a∧goes t x r a≤1099511640000∧(a≠((Zq (callsOf t) r).length:Int)-1→(ZD (callsOf t) r a).depart≤goes t x r a):=by
 have h:=Zfu hf x ((ZD (callsOf t) r a).depart.toNat+1) r a hs (by have:=hf.nn r a hs;omega)
 have hn:=hf.nn r a hs
 have hr:=hf.calls.row (Zq (callsOf t) r) (by
  unfold Zq
  have:r.toNat<(callsOf t).length:=by have:=hs.2.1;have:=hs.1;omega
  rw[List.getD_eq_getElem?_getD,List.getElem?_eq_getElem this]
  exact List.getElem_mem _)
 have:=hs.2.2.2
 exact⟨by omega,by omega,h.2.2⟩
theorem ZoF {t:Zf} (hf:ZH t) (x:List Int) {r a:Int} (hs:StopIn (callsOf t) r a) (ha:0<a):(ZD (callsOf t) r a).arrive≤comes t x r a∧comes t x r a≤1099511650000:=by
 have h1:=hf.asc r a hs ha
 have h2:=ZhA hf x (hs.prev ha)
 have h3:=h2.2.2 (by have:=hs.2.2.2;omega)
 have h4:=ZhO hf x r (a-1)
 have h5:=hf.nn r a hs
 have h6:=hf.nn r (a-1) (hs.prev ha)
 have h7:=(Zfu hf x ((ZD (callsOf t) r (a-1)).depart.toNat+1) r (a-1) (hs.prev ha) (by omega)).2.1
 have h8:=hf.calls.row (Zq (callsOf t) r) (by
  unfold Zq
  have:r.toNat<(callsOf t).length:=by have:=hs.2.1;have:=hs.1;omega
  rw[List.getD_eq_getElem?_getD,List.getElem?_eq_getElem this]
  exact List.getElem_mem _)
 have h9:=hs.2.2.2
 show _≤goes t x r (a-1)+_-_+_∧goes t x r (a-1)+_-_+_≤_
 omega
def lenAt (ds:List Qh) (m:Nat):Nat:=(ds.getD m default).by_.length
def stepT (ds:List Qh):Nat→List Int→Option (List Int)
 |0,_=>none
 |m+1,x=>if x.getD m 0=(lenAt ds m:Int)-1 then stepT ds m (x.set m 0)else some (x.set m (x.getD m 0+1))
def Zkz:List Int:=[0,0,0,0,0,0]
def X8 (ds:List Qh):Nat→Nat→List Int
 |0,_=>Zkz
 |m+1,n=>(X8 ds m (n/lenAt ds m)).set m ((n%lenAt ds m:Nat):Int)
def Yx (ds:List Qh):Nat→Nat
 |0=>1
 |m+1=>Yx ds m*lenAt ds m
def Qe (t:Zf):Nat:=Yx t.delays t.delays.length
def Zk (t:Zf) (n:Nat):List Int:=X8 t.delays t.delays.length n
theorem XV {ds:List Qh}:∀(m n:Nat),(X8 ds m n).length=6
 |0,_=>rfl
 |m+1,n=>by unfold X8;rw[List.length_set];exact XV m _
theorem Zal {ds:List Qh}:∀(m n k:Nat),m≤k→(X8 ds m n).getD k 0=0
 |0,_,k,_=>by
  unfold X8 Zkz
  match k with
  |0|1|2|3|4|5=>rfl
  |k+6=>rfl
 |m+1,n,k,h=>by
  unfold X8
  rw[List.getD_eq_getElem?_getD,List.getElem?_set_ne (by omega),←List.getD_eq_getElem?_getD]
  exact Zal m _ k (by omega)
theorem ZhF {ds:List Qh} (m n:Nat) (hm:m<6):(X8 ds m n).set m 0=X8 ds m n:=by
 refine List.ext_getElem? fun i=>?_
 by_cases h:m=i
 ·subst h
  rw[List.getElem?_set_self (by rw[XV];exact hm)]
  have h0:=Zal (ds:=ds) m n m (Nat.le_refl _)
  rw[List.getD_eq_getElem?_getD,List.getElem?_eq_getElem (by rw[XV];exact hm)]at h0
  rw[List.getElem?_eq_getElem (by rw[XV];exact hm)]
  exact congrArg some h0.symm
 ·rw[List.getElem?_set_ne h]
theorem ZiT {ds:List Qh} (hd:∀m,m<ds.length→1≤lenAt ds m) (h6:ds.length≤6):∀(m n:Nat),m≤ds.length→n<Yx ds m→stepT ds m (X8 ds m n)=if n+1<Yx ds m then some (X8 ds m (n+1))else none
 |0,n,_,h=>by
  unfold Yx at*
  rw[if_neg (by omega)]
  rfl
 |m+1,n,hm,h=>by
  have hl:=hd m (by omega)
  unfold Yx at h⊢
  have hq:n/lenAt ds m<Yx ds m:=Nat.div_lt_of_lt_mul (by rw[Nat.mul_comm];exact h)
  have ih:=ZiT hd h6 m (n/lenAt ds m) (by omega) hq
  have hx:(X8 ds (m+1) n).getD m 0=((n%lenAt ds m:Nat):Int):=by
   show((X8 ds m (n/lenAt ds m)).set m _).getD m 0=_
   rw[List.getD_eq_getElem?_getD,List.getElem?_set_self (by rw[XV];omega)]
   rfl
  have hdm:=Nat.div_add_mod n (lenAt ds m)
  have hml:=Nat.mod_lt n (show lenAt ds m>0 by omega)
  unfold stepT
  rw[hx]
  by_cases he:n%lenAt ds m+1=lenAt ds m
  ·rw[if_pos (by omega)]
   have e0:(X8 ds (m+1) n).set m 0=X8 ds m (n/lenAt ds m):=by
    show((X8 ds m (n/lenAt ds m)).set m _).set m 0=_
    rw[List.set_set,ZhF m _ (by omega)]
   have e1:n+1=lenAt ds m*(n/lenAt ds m+1):=by rw[Nat.mul_add];omega
   rw[e0,ih]
   by_cases hlt:n/lenAt ds m+1<Yx ds m
   ·have h2:n+1<Yx ds m*lenAt ds m:=by rw[e1,Nat.mul_comm (lenAt ds m)];exact Nat.mul_lt_mul_of_pos_right hlt (by omega)
    rw[if_pos hlt,if_pos h2]
    congr 1
    show _=(X8 ds m ((n+1)/lenAt ds m)).set m (((n+1)%lenAt ds m:Nat):Int)
    rw[e1,Nat.mul_div_cancel_left _ (by omega),Nat.mul_mod_right]
    exact(ZhF m _ (by omega)).symm
   ·rw[if_neg hlt,if_neg]
    rw[e1,Nat.mul_comm (lenAt ds m)]
    have:=Nat.mul_le_mul_right (lenAt ds m) (show Yx ds m≤n/lenAt ds m+1 by omega)
    omega
  ·rw[if_neg (by omega)]
   have hlt:n%lenAt ds m+1<lenAt ds m:=by omega
   have e1:n+1=lenAt ds m*(n/lenAt ds m)+(n%lenAt ds m+1):=by omega
   have hdv:(n+1)/lenAt ds m=n/lenAt ds m:=by
    rw[e1,Nat.mul_add_div (by omega),Nat.div_eq_of_lt hlt]
    omega
   have hmd:(n+1)%lenAt ds m=n%lenAt ds m+1:=by
    rw[e1,Nat.mul_add_mod,Nat.mod_eq_of_lt hlt]
   have h2:n+1<Yx ds m*lenAt ds m:=by
    have h3:=Nat.mul_le_mul_right (lenAt ds m) (show n/lenAt ds m+1≤Yx ds m by omega)
    rw[Nat.add_mul,Nat.one_mul,Nat.mul_comm (n/lenAt ds m)]at h3
    omega
   rw[if_pos h2]
   congr 1
   show((X8 ds m (n/lenAt ds m)).set m _).set m _=(X8 ds m ((n+1)/lenAt ds m)).set m (((n+1)%lenAt ds m:Nat):Int)
   rw[List.set_set,hdv,hmd]
   rfl
theorem Zoy {ds:List Qh} (hd:∀m,m<ds.length→1≤lenAt ds m) (h6:ds.length≤6):∀(m n:Nat),m≤ds.length→∀k,k<m→0≤(X8 ds m n).getD k 0∧(X8 ds m n).getD k 0<lenAt ds k
 |0,_,_,k,h=>by omega
 |m+1,n,hm,k,h=>by
  by_cases he:m=k
  ·subst he
   have hl:=hd m (by omega)
   have:(X8 ds (m+1) n).getD m 0=((n%lenAt ds m:Nat):Int):=by
    show((X8 ds m (n/lenAt ds m)).set m _).getD m 0=_
    rw[List.getD_eq_getElem?_getD,List.getElem?_set_self (by rw[XV];omega)]
    rfl
   rw[this]
   have:=Nat.mod_lt n (show lenAt ds m>0 by omega)
   omega
  ·have:(X8 ds (m+1) n).getD k 0=(X8 ds m (n/lenAt ds m)).getD k 0:=by
    show((X8 ds m (n/lenAt ds m)).set m _).getD k 0=_
    rw[List.getD_eq_getElem?_getD,List.getElem?_set_ne he,←List.getD_eq_getElem?_getD]
   rw[this]
   exact Zoy hd h6 m _ (by omega) k (by omega)
theorem Zss {t:Zf} (hf:ZH t):∀m,m<t.delays.length→1≤lenAt t.delays m:=fun m h=>by
 unfold lenAt
 rw[List.getD_eq_getElem?_getD,List.getElem?_eq_getElem h]
 exact(hf.d _ (List.getElem_mem h)).1
theorem Yh {t:Zf} (hf:ZH t) (n:Nat):Y5 t (Zk t n):=⟨XV _ _,fun i hi=>Zoy (Zss hf) hf.dlen _ n (Nat.le_refl _) i hi⟩
theorem Zcy {t:Zf} (hf:ZH t) {n:Nat} (hn:n<Qe t):stepT t.delays t.delays.length (Zk t n)=if n+1<Qe t then some (Zk t (n+1))else none:=ZiT (Zss hf) hf.dlen _ n (Nat.le_refl _) hn
theorem Zim {ds:List Qh} (hd:∀m,m<ds.length→1≤lenAt ds m):∀m,m≤ds.length→1≤Yx ds m
 |0,_=>Nat.le_refl _
 |m+1,h=>Nat.mul_le_mul (Zim hd m (by omega)) (hd m (by omega))
theorem Zis {t:Zf} (hf:ZH t):1≤Qe t:=Zim (Zss hf) _ (Nat.le_refl _)
theorem ZgF {ds:List Qh}:∀m,m≤6→X8 ds m 0=Zkz
 |0,_=>rfl
 |m+1,h=>by
  unfold X8
  rw[Nat.zero_div,Nat.zero_mod]
  show(X8 ds m 0).set m 0=_
  rw[ZhF m 0 (by omega)]
  exact ZgF m (by omega)
theorem Zcx {t:Zf} (hf:ZH t):Zk t 0=Zkz:=ZgF _ hf.dlen
def EndAt (stop:Nat→Bool) (n m:Nat):Prop:=(m=n∧∀j,j<n→stop j=false)∨∃j,m=j+1∧j<n∧stop j=true∧∀i,i<j→stop i=false
end Go.Proofs.YtjgpiclllehgmaaGreat.Sp
namespace Go.Proofs.YtjgpiclllehgmaaGreat.Vm
attribute [local irreducible] Dn
open Go Go.Proofs Sp
set_option maxRecDepth 100000
set_option maxHeartbeats 4000000
theorem ZuO (c:List (List Sp.Call)) (d:Sp.Qh) (bf:List Sp.Qh) (hc:Zaq c) (hb:bf.length≤1000000) (hd:d.by_.length≤1000000):SC (fun _=>Tryz.prog) 134 [lst 1 Zb [] c,.agg (Zx d),lst 3 Zx default bf] [] fun v h=>v= .int .i64 (fun _=>QX c d bf)∧h=[]:=by
 obtain⟨nt,hnt⟩:=Zp
 rw[ZnR hnt,Za hnt (enc:=Zx),show AV.agg (Zx d)= .agg [.int .i64 fun _=>d.run,.int .i64 fun _=>d.leg,.isl 1 (fun _=>(d.by_.length:Int)) (fun e=>XN (nt Int 0 d.by_ (e ()))) .none] by unfold Zx;rw[Za hnt]]
 refine Qu Tryz.func134 (body:=Zj Tryz.f134) rfl (by decide+kernel) ?_
 have hlen:=hc.len
 have k1:=Zb3 d.run 0 (c.length-1)
 have hmem:∀i:Int,0≤i→i≤(c.length:Int)-1→nt (List Sp.Call) [] c i∈c:=fun i h0 h1=>by
  have:i.toNat<c.length:=by omega
  rw[hnt,List.getD_eq_getElem?_getD,List.getElem?_eq_getElem this]
  exact List.getElem_mem _
 generalize hE:QX c d bf=e
 unfold QX at hE
 rw[←hnt (List Sp.Call) [] c d.run]at hE
 refine wS ?_
 refine ZoO (k1) ?_
 refine wS ?_
 have hin:(!QQ d.run 0 ((c.length:Int)-1))=true→(0≤d.run∧d.run<c.length)∧((nt (List Sp.Call) [] c d.run).length:Int)≤4:=fun h=>by
  have b:=Xn (nb2 h)
  have:=(hc.row _ (hmem _ b.1 b.2)).2
  omega
 refine Chk.mk ?_ ?_
 ·simp only[nc,Q0,QZ,Xd,QY,Cn.p,and_true,true_and]
  (repeat' (first|apply And.intro|intro _))<;>first|assumption|(have:=hin (by assumption);omega)
 refine⟨fun h1=>?_,fun h1=>?_⟩
 case refine_2=>
  have h1:=nb4 h1
  rw[h1,Bool.true_or,if_pos rfl]at hE
  subst hE
  refine wS ?_
  refine Br.isT rfl ?_
  (cbv;(try simp only[nc]at*);(try refine Chk.mk (Qc) ?_))
  (try first|exact⟨rfl,trivial⟩|exact⟨trivial,trivial⟩)
 have h1:=nb2 h1
 rw[h1,Bool.false_or]at hE
 have b1:=Xn h1
 have m1:=hmem _ b1.1 b1.2
 have r1:=hc.row _ m1
 clear hin
 have k2:=Zb3 d.leg 0 ((nt (List Sp.Call) [] c d.run).length-2)
 refine wS ?_
 refine ZoO (k2) ?_
 refine wS ?_
 refine⟨fun h2=>?_,fun h2=>?_⟩
 ·rw[h1]at h2
  have h2:QQ d.leg 0 ((nt (List Sp.Call) [] c d.run).length-2)=true:=h2
  rw[if_pos h2]at hE
  subst hE
  (cbv;(try simp only[nc]at*);(try refine Chk.mk (Qc) ?_))
  (try first|exact⟨rfl,trivial⟩|exact⟨trivial,trivial⟩)
 rw[h1]at h2
 have h2:QQ d.leg 0 ((nt (List Sp.Call) [] c d.run).length-2)=false:=h2
 rw[if_neg (by rw[h2];exact Bool.false_ne_true)]at hE
 refine wS ?_
 refine⟨fun h3=>?_,fun h3=>?_⟩
 ·have h3:=eq_of_beq h3
  rw[if_pos (by omega)]at hE
  subst hE
  (cbv;(try simp only[nc]at*);(try refine Chk.mk (Qc) ?_))
  (try first|exact⟨rfl,trivial⟩|exact⟨trivial,trivial⟩)
 have h3:=ne_of_beq_false h3
 rw[if_neg (by omega)]at hE
 refine wS ?_
 refine⟨fun h4=>?_,fun h4=>?_⟩
 ·have h4:=of_decide_eq_true h4
  rw[if_pos (by omega)]at hE
  subst hE
  (cbv;(try simp only[nc]at*);(try refine Chk.mk (Qc) ?_))
  (try first|exact⟨rfl,trivial⟩|exact⟨trivial,trivial⟩)
 have h4:=of_decide_eq_false h4
 rw[if_neg (by omega)]at hE
 clear h1 h2 k1 k2
 refine wS ?_
 refine ZT false false [] [2,4,41,42,43] [] (fun(i:Nat)=>[(43,.int .i64 fun _=>i)]) (fun _=>[]) (fun i=>i≤d.by_.length∧Zr (ZhQ d.by_) 0 d.by_.length=Zr (ZhQ d.by_) i (d.by_.length-i)) (fun i=>d.by_.length-i+0) 0 ⟨Nat.zero_le _,by simp⟩ ?_ ?_
 ·exact ZJ
 rintro i ⟨hi,hp⟩
 refine wS ?_
 refine⟨fun hb=>?_,fun hb=>?_⟩
 ·have hb:=of_decide_eq_true hb
  rw[Xk (by omega)]at hp
  have hby:ZhQ d.by_ i=if QQ (nt Int 0 d.by_ i) 0 240 then 1 else if 0<i∧nt Int 0 d.by_ i≤nt Int 0 d.by_ ((i:Int)-1)then 5 else 0:=by
   unfold ZhQ
   rw[Jd hnt]
   by_cases h0:0<i
   ·rw[Jd hnt,show((i-1:Nat):Int)=(i:Int)-1 by omega]
   ·simp[h0]
  have k3:=Zb3 (nt Int 0 d.by_ i) 0 240
  refine wS ?_
  refine ZoO (k3) ?_
  refine wS ?_
  refine⟨fun h5=>?_,fun h5=>?_⟩
  ·rw[if_pos h5]at hby
   rw[hby,if_pos (by decide)]at hp
   rw[hp,if_pos (by decide)]at hE
   subst hE
   (cbv;(try simp only[nc]at*);(try refine Chk.mk (Qc) ?_))
   (try first|exact⟨rfl,trivial⟩|exact⟨trivial,trivial⟩)
  rw[if_neg (by rw[h5];exact Bool.false_ne_true)]at hby
  refine vS ?_
  refine Chk.mk ?_ ?_
  ·simp only[nc,Q0,QZ,Xd,QY,Cn.p,and_true,true_and,decide_eq_true_eq]
   (repeat' (first|apply And.intro|intro _))<;>first|assumption|omega
  have he:(bif decide (0<(i:Int))then decide (nt Int 0 d.by_ i≤nt Int 0 d.by_ ((i:Int)-1))else false)=decide (0<i∧nt Int 0 d.by_ i≤nt Int 0 d.by_ ((i:Int)-1)):=by
   by_cases e1:0<i
   ·have:(0:Int)<i:=by omega
    simp[e1,this]
   ·have:¬(0:Int)<i:=by omega
    simp[e1,this]
  refine⟨fun h6=>?_,fun h6=>?_⟩
  ·rw[he]at h6
   rw[if_pos (of_decide_eq_true h6)]at hby
   rw[hby,if_pos (by decide)]at hp
   rw[hp,if_pos (by decide)]at hE
   subst hE
   (cbv;(try simp only[nc]at*);(try refine Chk.mk (Qc) ?_))
   (try first|exact⟨rfl,trivial⟩|exact⟨trivial,trivial⟩)
  ·rw[he]at h6
   rw[if_neg (of_decide_eq_false h6)]at hby
   rw[hby,if_neg (fun h=>h rfl)]at hp
   refine wS ?_
   refine⟨i+1,⟨by omega,hp⟩,by show d.by_.length-(i+1)+0<d.by_.length-i+0;omega,?_⟩
   exact ZJ
 ·have hb:=of_decide_eq_false hb
  rw[XD (by omega)]at hp
  rw[hp,if_neg (fun h=>h rfl)]at hE
  refine wS ?_
  refine ZT false false [] [4,65,66,67] [] (fun(i:Nat)=>[(67,.int .i64 fun _=>i)]) (fun _=>[]) (fun i=>i≤bf.length∧bf.any (fun x=>decide (x.run=d.run∧x.leg=d.leg))=(bf.drop i).any (fun x=>decide (x.run=d.run∧x.leg=d.leg))) (fun i=>bf.length-i+0) 0 ⟨Nat.zero_le _,by simp⟩ ?_ ?_
  ·exact ZJ
  rintro i ⟨hi,hp⟩
  refine wS ?_
  refine⟨fun hb=>?_,fun hb=>?_⟩
  ·have hb:=of_decide_eq_true hb
   have hdd:=Qy (d:=default) hnt (l:=bf) (i:=i) (by omega)
   rw[hdd,List.any_cons]at hp
   generalize hx:nt Sp.Qh default bf i=x at*
   refine vS ?_
   try simp only[hx]
   try refine Chk.mk (Qc) ?_
   have he:(bif x.run==d.run then x.leg==d.leg else false)=decide (x.run=d.run∧x.leg=d.leg):=by
    by_cases e1:x.run=d.run<;>by_cases e2:x.leg=d.leg<;>simp[e1,e2]
   refine⟨fun h9=>?_,fun h9=>?_⟩
   ·rw[he]at h9
    rw[h9,Bool.true_or]at hp
    rw[hp,if_pos rfl]at hE
    subst hE
    (cbv;(try simp only[nc]at*);(try refine Chk.mk (Qc) ?_))
    (try first|exact⟨rfl,trivial⟩|exact⟨trivial,trivial⟩)
   ·rw[he]at h9
    rw[h9,Bool.false_or]at hp
    refine wS ?_
    refine⟨i+1,⟨by omega,hp⟩,by show bf.length-(i+1)+0<bf.length-i+0;omega,?_⟩
    exact ZJ
  ·have hb:=of_decide_eq_false hb
   rw[List.drop_eq_nil_of_le (by omega)]at hp
   rw[hp,List.any_nil,if_neg Bool.false_ne_true]at hE
   subst hE
   (cbv;(try simp only[nc]at*);(try refine Chk.mk (Qc) ?_))
   (try first|exact⟨rfl,trivial⟩|exact⟨trivial,trivial⟩)
set_option maxHeartbeats 8000000
structure Xe (t:Zf):Prop where
 book:YG t.book
 runs:t.runs.length≤1000000
 waits:t.waits.length≤1000000
 delays:t.delays.length≤1000000
 bys:∀d∈t.delays,d.by_.length≤1000000
def ZR (t:Zf):List AV:=[lst 2 encZone default t.book.zones,lst 3 encTrain default t.book.old,lst 3 encTrain default t.book.new,.int .i64 fun _=>t.book.night,.int .i64 fun _=>t.book.last,
 lst 2 Zg default t.runs,lst 4 Q2 default t.waits,lst 3 Zx default t.delays,lst 1 Zb [] (callsOf t)]
def QA (e:Int) (t:Zf):AV:=if e=0 then .iptr (ZR t) 0 else .nilptr
theorem Zdw {t:Zf} (h:QP t=0):Zaq (callsOf t):=by
 unfold QP at h
 split at h
 ·cases h
 split at h
 ·cases h
 have h2:=Qd h
 refine⟨by unfold callsOf;rw[List.length_map];omega,fun l hl=>?_⟩
 obtain⟨r,hr,rfl⟩:=List.mem_map.1 hl
 obtain⟨j,hj,hrj⟩:=Jx (d:=default) hr
 have h3:=h2 j (by omega) (by omega)
 have hl:=Zg9 t.book r.number r.day
 unfold JT at h3
 rw[show t.runs.getD j default=r from hrj]at h3
 split at h3
 ·exact absurd h3 (by assumption)
 ·rename_i h4
  exact⟨hl.2 (Decidable.of_not_not h4),hl.1⟩
theorem ZqL (t:Zf) (hf:Xe t):SC (fun _=>Tryz.prog) 80 [Ze t] [] fun v h=>v= .tup [QA (Zn t) t,.int .i64 fun _=>Zn t]∧h=[]:=by
 obtain⟨nt,hnt⟩:=Zp
 refine SC.less (Qu Tryz.func80 (body:=Zj Tryz.f80) rfl (by decide+kernel) ?_)
 have k28:=c28 t.book hf.book
 have k432:=ZuQ t hf.book hf.runs
 obtain⟨P,hP⟩:∃P,P=QA (Zn t) t:=⟨_,rfl⟩
 rw[←hP]
 generalize hE:Zn t=e at*
 unfold Zn at hE
 unfold Ze at*
 unfold Zc at k28
 simp only[Za hnt]at k28 k432⊢
 refine wS ?_
 refine ZV (k28) (by first|rfl|(simp only[Zd,Zc,Ze,Zb,Za hnt];rfl)) fun r h₂ hp=>?_
 (try simp only[Zd,Zc,Ze,Zb,Za hnt]at hp)
 obtain⟨rfl,rfl⟩:=hp
 generalize Sp.XX t.book=e1 at*
 refine wS ?_
 refine⟨fun h1=>?_,fun h1=>?_⟩
 ·have h1:e1≠0:=by simpa only[bne_iff_ne]using h1
  rw[if_pos h1]at hE
  subst hE
  unfold QA at hP
  rw[if_neg h1]at hP
  subst hP
  refine wS ?_
  refine⟨_,[],?_,rfl,rfl⟩
  exact ZJ
 case refine_2=>
  have h1:e1=0:=by simpa only[bne_eq_false_iff_eq]using h1
  rw[if_neg (by omega)]at hE
  have hfit:= @Zdw t
  refine wS ?_
  refine ZV (k432) (by first|rfl|(simp only[Zd,Zc,Ze,Zb,Za hnt];rfl)) fun r h₂ hp=>?_
  (try simp only[Zd,Zc,Ze,Zb,Za hnt]at hp)
  obtain⟨rfl,rfl⟩:=hp
  generalize QP t=e2 at*
  refine wS ?_
  refine⟨fun h2=>?_,fun h2=>?_⟩
  ·have h2:e2≠0:=by simpa only[bne_iff_ne]using h2
   rw[if_pos h2]at hE
   subst hE
   unfold QA at hP
   rw[if_neg h2]at hP
   subst hP
   refine wS ?_
   refine⟨_,[],?_,rfl,rfl⟩
   exact ZJ
  have h2:e2=0:=by simpa only[bne_eq_false_iff_eq]using h2
  subst h2
  rw[if_neg (fun h=>h rfl)]at hE
  have hfc:=hfit rfl
  clear k28 k432 hfit
  simp only[if_true]
  generalize hcc:callsOf t=c at*
  refine wS ?_
  refine⟨fun h3=>?_,fun h3=>?_⟩
  ·simp only[decide_eq_true_eq]at h3
   rw[if_pos (by omega)]at hE
   subst hE
   unfold QA at hP
   rw[if_neg (by decide)]at hP
   subst hP
   refine wS ?_
   refine⟨_,[],?_,rfl,rfl⟩
   exact ZJ
  simp only[decide_eq_false_iff_not]at h3
  rw[if_neg (by omega)]at hE
  refine wS ?_
  refine ZT false false [] [1,5,32,33,34] [] (fun(i:Nat)=>[(34,.int .i64 fun _=>(i:Int))]) (fun _=>[]) (fun i=>i≤t.waits.length∧Zr (fun i=>Qx c (t.waits.getD i default) (t.waits.take i)) 0 t.waits.length=Zr (fun i=>Qx c (t.waits.getD i default) (t.waits.take i)) i (t.waits.length-i)) (fun i=>t.waits.length-i+0) 0 ⟨by omega,rfl⟩ ?_ ?_
  ·exact ZJ
  rintro i ⟨hi,hp⟩
  refine wS ?_
  refine⟨fun hb=>?_,fun hb=>?_⟩
  ·simp only[decide_eq_true_eq]at hb
   rw[Xk (by omega)]at hp
   have hwe:Qx c (t.waits.getD i default) (t.waits.take i)=Qx c (nt Xt default t.waits i) (t.waits.take i):=by rw[Jd hnt]
   generalize hd:nt Xt default t.waits i=d at*
   refine vS ?_
   simp only[hd]
   refine Chk.mk (Qc) ?_
   refine Zby (ZuP c d (t.waits.take i) hfc (by have:=hf.waits;simp;omega)) (by(try simp only[Zd,Zc,Ze,Zb,Za hnt]);exact ZJ) (by first|rfl|(simp only[Zd,Zc,Ze,Zb,Za hnt];rfl)) fun r h₂ hp=>?_
   (try simp only[Zd,Zc,Ze,Zb,Za hnt]at hp)
   obtain⟨rfl,rfl⟩:=hp
   refine wS ?_
   refine⟨fun h5=>?_,fun h5=>?_⟩
   ·simp only[bne_iff_ne,ne_eq]at h5
    rw[hwe,if_pos h5]at hp
    rw[hp,if_pos h5]at hE
    rw[←hE]at hP
    unfold QA at hP
    rw[if_neg h5]at hP
    subst hP
    subst hE
    refine wS ?_
    refine⟨_,[],?_,rfl,rfl⟩
    exact ZJ
   ·simp only[bne_eq_false_iff_eq]at h5
    rw[hwe,if_neg (fun h=>h h5)]at hp
    refine wS ?_
    refine⟨i+1,⟨by omega,hp⟩,by show t.waits.length-(i+1)+0<t.waits.length-i+0;omega,?_⟩
    exact ZJ
  simp only[decide_eq_false_iff_not]at hb
  rw[XD (by omega)]at hp
  rw[hp,if_neg (fun h=>h rfl)]at hE
  clear hp hb
  refine wS ?_
  refine⟨fun h6=>?_,fun h6=>?_⟩
  ·simp only[decide_eq_true_eq]at h6
   rw[if_pos (by omega)]at hE
   subst hE
   unfold QA at hP
   rw[if_neg (by decide)]at hP
   subst hP
   refine wS ?_
   refine⟨_,[],?_,rfl,rfl⟩
   exact ZJ
  simp only[decide_eq_false_iff_not]at h6
  rw[if_neg (by omega)]at hE
  refine wS ?_
  refine ZT false false [] [1,5,55,56,57] [] (fun(i:Nat)=>[(57,.int .i64 fun _=>(i:Int))]) (fun _=>[]) (fun i=>i≤t.delays.length∧e=Zr (fun i=>QX c (t.delays.getD i default) (t.delays.take i)) i (t.delays.length-i)) (fun i=>t.delays.length-i+0) 0 ⟨by omega,hE.symm⟩ ?_ ?_
  ·exact ZJ
  rintro i ⟨hi,hp⟩
  refine wS ?_
  refine⟨fun hb=>?_,fun hb=>?_⟩
  ·simp only[decide_eq_true_eq]at hb
   rw[Xk (by omega)]at hp
   have hwe:QX c (t.delays.getD i default) (t.delays.take i)=QX c (nt Qh default t.delays i) (t.delays.take i):=by rw[Jd hnt]
   have hby:(nt Qh default t.delays i).by_.length≤1000000:=by
    rw[hnt,List.getD_eq_getElem?_getD,List.getElem?_eq_getElem (by omega)]
    exact hf.bys _ (List.getElem_mem _)
   generalize hd:nt Qh default t.delays i=d at*
   refine vS ?_
   simp only[hd]
   refine Chk.mk (Qc) ?_
   refine Zby (ZuO c d (t.delays.take i) hfc (by have:=hf.delays;simp;omega) hby) (by(try simp only[Zd,Zc,Ze,Zb,Za hnt]);exact ZJ) (by first|rfl|(simp only[Zd,Zc,Ze,Zb,Za hnt];rfl)) fun r h₂ hp=>?_
   (try simp only[Zd,Zc,Ze,Zb,Za hnt]at hp)
   obtain⟨rfl,rfl⟩:=hp
   refine wS ?_
   refine⟨fun h5=>?_,fun h5=>?_⟩
   ·simp only[bne_iff_ne,ne_eq]at h5
    rw[hwe,if_pos h5]at hp
    rw[hp]at hP
    unfold QA at hP
    rw[if_neg h5]at hP
    subst hP
    subst hp
    refine wS ?_
    refine⟨_,[],?_,rfl,rfl⟩
    exact ZJ
   ·simp only[bne_eq_false_iff_eq]at h5
    rw[hwe,if_neg (fun h=>h h5)]at hp
    refine wS ?_
    refine⟨i+1,⟨by omega,hp⟩,by show t.delays.length-(i+1)+0<t.delays.length-i+0;omega,?_⟩
    exact ZJ
  simp only[decide_eq_false_iff_not]at hb
  rw[XD (by omega)]at hp
  subst hp
  unfold QA at hP
  rw[if_pos rfl]at hP
  subst hP
  refine wS ?_
  unfold ZR
  simp only[hcc,Za hnt,Zb]
  refine⟨_,[],?_,rfl,rfl⟩
  exact ZJ
set_option maxHeartbeats 4000000
def Qi (t:Zf) (w:Int):Int:=if Zn t=0 then(if QQ w 0 ((t.waits.length:Int)-1)then 3 else 0)else Zn t
theorem Zt1 (t:Zf) (w:Int) (hf:Xe t):SC (fun _=>Tryz.prog) 106 [Ze t,.int .i64 fun _=>w] [] fun v h=>v= .tup [QA (Zn t) t,.int .i64 fun _=>Qi t w]∧h=[]:=by
 obtain⟨nt,hnt⟩:=Zp
 refine SC.less (Qu Tryz.func106 (body:=Zj Tryz.f106) rfl (by decide+kernel) ?_)
 have k:=ZqL t hf
 have hw:=hf.waits
 have k1:=Zb3 w 0 ((t.waits.length:Int)-1)
 generalize hE:Qi t w=e
 unfold Qi at hE
 unfold Ze at*
 simp only[Za hnt]at k⊢
 by_cases he:Zn t=0
 ·unfold QA at k⊢
  rw[if_pos he]at k⊢
  rw[if_pos he]at hE
  unfold ZR at k⊢
  simp only[Za hnt,Zb]at k⊢
  rw[he]at k
  refine wS ?_
  refine ZoO (k) ?_
  refine wS ?_
  refine Br.isT rfl ?_
  refine wS ?_
  refine ZoO (k1) ?_
  refine wS ?_
  refine⟨fun h=>?_,fun h=>?_⟩
  ·have h:QQ w 0 ((t.waits.length:Int)-1)=true:=h
   rw[if_pos h]at hE
   subst hE
   refine wS ?_
   refine⟨_,[],?_,rfl,rfl⟩
   exact ZJ
  ·have h:QQ w 0 ((t.waits.length:Int)-1)=false:=h
   rw[if_neg (by rw[h];exact Bool.false_ne_true)]at hE
   subst hE
   refine wS ?_
   refine⟨_,[],?_,rfl,rfl⟩
   exact ZJ
 ·unfold QA at k⊢
  rw[if_neg he]at k⊢
  rw[if_neg he]at hE
  rw[hE]at k he
  refine wS ?_
  refine ZoO (k) ?_
  refine wS ?_
  refine⟨fun h=>?_,fun h=>?_⟩
  ·exact absurd (eq_of_beq h) he
  refine wS ?_
  refine Br.isF rfl ?_
  refine wS ?_
  refine⟨_,[],?_,rfl,rfl⟩
  exact ZJ
def X0 (x:List Int):List AV:=[.int .i64 fun _=>x.getD 0 0,.int .i64 fun _=>x.getD 1 0,.int .i64 fun _=>x.getD 2 0,.int .i64 fun _=>x.getD 3 0,.int .i64 fun _=>x.getD 4 0,.int .i64 fun _=>x.getD 5 0]
theorem Zeq {x:List Int} {e:Int} {i:Nat} (he:e=i) (hi:i<6):Zjw [fun _=>x.getD 0 0,fun _=>x.getD 1 0,fun _=>x.getD 2 0,fun _=>x.getD 3 0,fun _=>x.getD 4 0,fun _=>x.getD 5 0] e=x.getD i 0:=by
 subst he
 match i,hi with
 |0,_=>rfl
 |1,_=>rfl
 |2,_=>rfl
 |3,_=>rfl
 |4,_=>rfl
 |5,_=>rfl
theorem ZuJ (t:Zf) (x:List Int) (run leg:Int) (hx:Y5 t x) (hl:t.delays.length≤6):SC (fun _=>Tryz.prog) 178 [.iptr (ZR t) 0,.agg (X0 x),.int .i64 fun _=>run,.int .i64 fun _=>leg] [] fun v h=>v= .int .i64 (fun _=>Zi0 t x run leg)∧h=[]:=by
 obtain⟨nt,hnt⟩:=Zp
 unfold ZR
 simp only[Za hnt,Zb,Zx]
 refine SC.less (Qu Tryz.func178 (body:=Zj Tryz.f178) rfl (by decide+kernel) ?_)
 generalize hE:Zi0 t x run leg=e
 unfold Zi0 at hE
 refine wS ?_
 refine ZT false false [] [2,3,5,15,16,17] [] (fun(i:Nat)=>[(17,.int .i64 fun _=>(i:Int))]) (fun _=>[]) (fun i=>i≤t.delays.length∧e=ZhP x run leg i (t.delays.drop i)) (fun i=>t.delays.length-i+0) 0 ⟨by omega,by rw[List.drop_zero];exact hE.symm⟩ ?_ ?_
 ·exact ZJ
 rintro i ⟨hi,hp⟩
 refine wS ?_
 refine⟨fun hb=>?_,fun hb=>?_⟩
 case refine_2=>
  simp only[decide_eq_false_iff_not]at hb
  rw[List.drop_eq_nil_of_le (by omega),ZhP]at hp
  subst hp
  refine wS ?_
  refine⟨_,[],?_,rfl,rfl⟩
  exact ZJ
 simp only[decide_eq_true_eq]at hb
 have hdr:=Qy (d:=default) hnt (l:=t.delays) (i:=i) (by omega)
 rw[hdr,ZhP]at hp
 have hxi:=hx.d i (by omega)
 rw[show t.delays.getD i default=nt Qh default t.delays i by rw[Jd hnt]]at hxi
 have hs:= @Zeq x i i rfl (by omega)
 generalize hd:nt Qh default t.delays i=d at*
 refine vS ?_
 simp only[hd]
 refine Chk.mk (Qc) ?_
 have he:(bif d.run==run then d.leg==leg else false)=decide (d.run=run∧d.leg=leg):=by
  by_cases e1:d.run=run<;>by_cases e2:d.leg=leg<;>simp[e1,e2]
 refine⟨fun h9=>?_,fun h9=>?_⟩
 ·rw[he]at h9
  rw[if_pos (of_decide_eq_true h9),←hnt Int 0 d.by_ (x.getD i 0)]at hp
  subst hp
  refine vS ?_
  try simp only[hd,hs]
  generalize x.getD i 0=y at*
  have hy:=hxi.1
  have hy2:=hxi.2
  refine Chk.mk (Qc) ?_
  refine⟨_,[],?_,rfl,rfl⟩
  exact ZJ
 ·rw[he]at h9
  rw[if_neg (of_decide_eq_false h9)]at hp
  refine wS ?_
  refine⟨i+1,⟨by omega,hp⟩,by show t.delays.length-(i+1)+0<t.delays.length-i+0;omega,?_⟩
  exact ZJ
end Go.Proofs.YtjgpiclllehgmaaGreat.Vm
namespace Go.Proofs.YtjgpiclllehgmaaGreat.Vm
open Go Go.Proofs
set_option maxRecDepth 100000
section
variable {n k:Nat}
end
section
variable {n k:Nat} {nt:(α:Type)→α→List α→Int→α} (hnt:∀(α:Type) (d:α) (l:List α) (i:Int),nt α d l i=l.getD i.toNat d)
include hnt
end
end Go.Proofs.YtjgpiclllehgmaaGreat.Vm
namespace Go.Proofs.YtjgpiclllehgmaaGreat.Vm
open Go Go.Proofs
theorem ZdE.perm {α:Type} {ka:Nat} {V:α→Value→Prop} {es:Array MapEntry} {clk:Nat} {L L':List (List Int×α)} (h:ZdE ka V es clk L) (hp:L.Perm L'):ZdE ka V es clk L':=by
 obtain⟨l,h⟩:=h
 exact⟨l,{h with L:=h.L.trans hp}⟩
theorem ZE.imap {n k ka m:Nat} {L L':Unit→List (List Int×List Int)} (h:(L ()).Perm (L' ())):ZE n k (.imap ka m L) (.imap ka m L'):=⟨fun R v _ hv=>by
 cases hv with
 |pure _ _ hp=>
  cases hp with
  |imap _ _ _ b es clk h1 h2 h3=>exact .pure _ _ (.imap ka m L' b es clk h1 (h2.perm h) h3)
  |imap0 _ _ _ h0=>exact .pure _ _ (.imap0 ka m L' (by rw[h0]at h;exact h.nil_eq.symm▸rfl))⟩
theorem YC.frame {p:Unit→Program} {id j:Nat} {xs:List AV} {h:List Zi} {Post Q:AV→List Zi→Prop} (l:List Nat) (hnd:l.Nodup) (hlt:∀i∈l,i<h.length) (hj:l[j]? =some id) (H:YC p j (xs.map (Qv false l h 5)) (sel false l h) Q)
  (hq:∀r h₂,Q r h₂→Post (ren (YJ l h.length) 5 r) (back l h h₂)):YC p id xs h Post:=
 ⟨fun G R vs hr ha=>by
  obtain⟨R₂,acx,a0,a1,a2,a3,a4,a5,a6,a7,a8⟩:=hr.sel (fz:=false) (ι:=l) (ZqW R h l) (fun b o n k=>.inl k) (fun b o n o' n' k h1 h2=>by
    rcases k with k|k|k
    ·exact .inl (hr.sub k h1 h2)
    ·exact .inr (.inl k)
    ·exact .inr (.inr k)) (fun b o n hb=>.inr (.inl hb)) (fun i blk b hi hb hk hp o n=>.inr (.inr ⟨i,blk,hi,hb,hk,hp⟩)) hnd hlt (fun hf=>by cases hf) l.length (Nat.le_refl _) (fun hf=>by cases hf)
  have hrow:XY R₂ (xs.map (Qv false l h 5)) vs:=⟨by rw[List.length_map];exact ha.1,fun j c hj=>by
   rw[List.getElem?_map,Option.map_eq_some_iff]at hj
   obtain⟨x,hx,rfl⟩:=hj
   exact a8 5 x _ (ha.2 j x hx)⟩
  obtain⟨f,tmps,a,x,h1,h2⟩:=H.run _ R₂ vs a6 hrow
  rw[a1,a3 j id hj]at h1
  refine⟨f,tmps,a,x,h1,fun c cs=>?_⟩
  obtain⟨v,R',r,h',b1,b3,b4,b5,b6,b7⟩:=h2 c cs
  rw[a1,acx,a3 j id hj]at b1
  obtain⟨R'',c1,c2,c3,c4,c5⟩:=Zfy hr hnd hlt acx a0 a1 a2 a3 a4 a5 a7 b3 b4 b5
  exact⟨v,R'',_,_,by rw[c1];exact b1,c2,c3,c4,c5 5 r v b6,hq r h' b7⟩⟩
theorem YC.frameB {p:Unit→Program} {id j:Nat} {xs ys:List AV} {h hc h₂ h':List Zi} {b:Bool} {Post:AV→List Zi→Prop} (l:List Nat) (hnd:l.Nodup) (hlt:∀i∈l,i<h.length) (hj:l[j]? =some id) (hx:xs.map (Qv false l h 5)=ys) (hsel:sel false l h=hc)
  (H:YC p j ys hc fun v h=>v= .bool (fun _=>b)∧h=h₂) (hbk:back l h h₂=h') (hP:Post (.bool fun _=>b) h'):YC p id xs h Post:=
 YC.frame l hnd hlt hj (by rw[hx,hsel];exact H) fun r h₃ hp=>by
  obtain⟨rfl,rfl⟩:=hp
  rw[hbk]
  exact hP
end Go.Proofs.YtjgpiclllehgmaaGreat.Vm
namespace Go.Proofs.YtjgpiclllehgmaaGreat.Sp
open Vm
def Zb2 (h:Zjh):List Int:=[h.comes,h.ready,h.goes]
theorem ZaL {α β:Type} [BEq α] [LawfulBEq α] {k:α} {v:β}:∀ {L:List (α×β)},L.lookup k=some v→(k,v)∈L
 |[],h=>by cases h
 |(a,b)::r,h=>by
  rw[List.lookup_cons]at h
  split at h
  ·rename_i he
   have he:=eq_of_beq he
   subst he
   cases h
   exact List.mem_cons_self ..
  ·exact List.mem_cons_of_mem _ (ZaL h)
theorem Ze2 {α:Type} {L:List (List Int×α)} {k:List Int} {d:α} {p:List Int×α} (h:p∈YZ L k d):p=(k,d)∨p∈L:=by
 unfold YZ at h
 split at h
 ·obtain⟨q,hq,rfl⟩:=List.mem_map.1 h
  split
  ·exact .inl rfl
  ·exact .inr hq
 ·rcases List.mem_append.1 h with h|h
  ·exact .inr h
  ·exact .inl (List.mem_singleton.1 h)
theorem Zc7 {α:Type} {L:List (List Int×α)} {k:List Int} {d:α}:(k,d)∈YZ L k d:=by
 unfold YZ
 split
 ·rename_i h
  obtain⟨p,hp,he⟩:=List.any_eq_true.1 h
  exact List.mem_map.2 ⟨p,hp,if_pos he⟩
 ·exact List.mem_append.2 (.inr (List.mem_singleton.2 rfl))
theorem Zgn {α:Type} {L:List (List Int×α)} {k:List Int} {d:α} {p:List Int×α} (h:p∈L) (hk:p.1=k→p.2=d):p∈YZ L k d:=by
 unfold YZ
 split
 ·refine List.mem_map.2 ⟨p,h,?_⟩
  split
  ·rename_i he
   have he:=eq_of_beq he
   rw[←he,←hk he]
  ·rfl
 ·exact List.mem_append.2 (.inl h)
theorem Zc8 {α:Type} {L:List (List Int×α)} {k:List Int} {d:α} (h:(L.map (·.1)).Nodup):((YZ L k d).map (·.1)).Nodup:=by
 unfold YZ
 split
 ·rw[List.map_map]
  have:((fun p:List Int×α=>p.1)∘fun p=>if p.1==k then(k,d)else p)=fun p=>p.1:=by
   funext p
   simp only[Function.comp]
   split
   ·rename_i he
    exact(eq_of_beq he).symm
   ·rfl
  rw[this]
  exact h
 ·rename_i hn
  rw[List.map_append,List.nodup_append]
  refine⟨h,by simp,fun a ha b hb=>?_⟩
  rintro rfl
  obtain⟨p,hp,rfl⟩:=List.mem_map.1 ha
  have hb:=List.mem_singleton.1 hb
  exact hn (List.any_eq_true.2 ⟨p,hp,by simpa using hb⟩)
structure TmInv (t:Zf) (x:List Int) (C K:List (List Int×List Int)):Prop where
 c:∀p∈C,∃r a,StopIn (callsOf t) r a∧0<a∧p=([r,a],[comes t x r a])
 k:∀p∈K,∃r a,StopIn (callsOf t) r a∧p=([r,a],Zb2 (ZY t x r a))
 nd:(K.map (·.1)).Nodup
 ndc:(C.map (·.1)).Nodup
theorem TmInv.cv {t:Zf} {x:List Int} {C K:List (List Int×List Int)} (h:TmInv t x C K) {r a:Int} {v:List Int} (hl:C.lookup [r,a]=some v):v=[comes t x r a]:=by
 obtain⟨r',a',_,_,e⟩:=h.c _ (ZaL hl)
 cases e
 rfl
theorem TmInv.kv {t:Zf} {x:List Int} {C K:List (List Int×List Int)} (h:TmInv t x C K) {r a:Int} {v:List Int} (hl:K.lookup [r,a]=some v):v=Zb2 (ZY t x r a):=by
 obtain⟨r',a',_,e⟩:=h.k _ (ZaL hl)
 cases e
 rfl
theorem TmInv.putC {t:Zf} {x:List Int} {C K:List (List Int×List Int)} (h:TmInv t x C K) {r a:Int} (hs:StopIn (callsOf t) r a) (ha:0<a) {v:Int} (hv:comes t x r a=v):TmInv t x (YZ C [r,a] [v]) K∧(YZ C [r,a] [v]).lookup [r,a]=some [v]:=by
 have hn:=Zc8 (k:=[r,a]) (d:=[v]) h.ndc
 refine⟨⟨fun p hp=>?_,h.k,h.nd,hn⟩,ZbQ hn Zc7⟩
 rcases Ze2 hp with rfl|hp
 ·exact⟨r,a,hs,ha,by rw[hv]⟩
 ·exact h.c p hp
theorem TmInv.putK {t:Zf} {x:List Int} {C K:List (List Int×List Int)} (h:TmInv t x C K) {r a:Int} (hs:StopIn (callsOf t) r a) {v:List Int} (hv:Zb2 (ZY t x r a)=v):TmInv t x C (YZ K [r,a] v)∧(∀p∈K,p∈YZ K [r,a] v)∧([r,a],v)∈YZ K [r,a] v:=by
 have hn:=Zc8 (k:=[r,a]) (d:=v) h.nd
 refine⟨⟨h.c,fun p hp=>?_,hn,h.ndc⟩,fun p hp=>Zgn hp fun e=>?_,Zc7⟩
 ·rcases Ze2 hp with rfl|hp
  ·exact⟨r,a,hs,by rw[hv]⟩
  ·exact h.k p hp
 ·obtain⟨r',a',_,rfl⟩:=h.k p hp
  cases e
  exact hv
def Zcz (c:List (List Call)):List (Int×Int):=(List.range c.length).flatMap fun(r:Nat)=>(List.range (Zq c r).length).map fun(a:Nat)=>((r:Int),(a:Int))
def Qj (t:Zf) (x:List Int):List (List Int×List Int):=(Zcz (callsOf t)).map fun s=>([s.1,s.2],Zb2 (ZY t x s.1 s.2))
theorem Jm {c:List (List Call)} {r a:Int}:(r,a)∈Zcz c↔StopIn c r a:=by
 unfold Zcz StopIn
 simp only[List.mem_flatMap,List.mem_map,List.mem_range,Prod.mk.injEq]
 constructor
 ·rintro⟨r',h1,a',h2,rfl,rfl⟩
  omega
 ·rintro⟨h1,h2,h3,h4⟩
  refine⟨r.toNat,by omega,a.toNat,?_,by omega,by omega⟩
  rw[show((r.toNat:Nat):Int)=r by omega]
  omega
theorem Za9 {c:List (List Call)}:(Zcz c).Nodup:=by
 unfold Zcz
 refine List.pairwise_flatMap.2 ?_
 refine⟨fun r _=>List.Pairwise.map _ (fun a b h e=>?_) List.nodup_range,List.nodup_range.imp fun h=>?_⟩
 ·cases e
  exact h rfl
 ·intro a ha b hb e
  obtain⟨_,_,rfl⟩:=List.mem_map.1 ha
  obtain⟨_,_,rfl⟩:=List.mem_map.1 hb
  cases e
  exact h rfl
theorem TmInv.perm {t:Zf} {x:List Int} {C K:List (List Int×List Int)} (h:TmInv t x C K) (hall:∀r a,StopIn (callsOf t) r a→([r,a],Zb2 (ZY t x r a))∈K):K.Perm (Qj t x):=by
 have hk:K.Nodup:=List.Pairwise.of_map (fun p:List Int×List Int=>p.1) (fun a b h e=>h (by rw[e])) h.nd
 have hl:(Qj t x).Nodup:=List.Pairwise.map _ (fun a b hab e=>by
  apply hab
  simp only[Prod.mk.injEq,List.cons.injEq,and_true]at e
  exact Prod.ext e.1.1 e.1.2) Za9
 rw[List.perm_iff_count]
 intro p
 rw[hk.count,hl.count]
 have:p∈K↔p∈Qj t x:=by
  unfold Qj
  rw[List.mem_map]
  constructor
  ·intro hp
   obtain⟨r,a,hs,rfl⟩:=h.k p hp
   exact⟨(r,a),Jm.2 hs,rfl⟩
  ·rintro⟨⟨r,a⟩,hs,rfl⟩
   exact hall r a (Jm.1 hs)
 simp only[this]
end Go.Proofs.YtjgpiclllehgmaaGreat.Sp
namespace Go.Proofs.YtjgpiclllehgmaaGreat.Vm
attribute [local irreducible] Dn
open Go Go.Proofs Sp
set_option maxRecDepth 100000
set_option maxHeartbeats 4000000
def tmH (W:List AV) (X:List AV) (C K:List (List Int×List Int)):List Zi:=[.cells [.iptr W 0],.cells X,.gob (.mapL 2 0 fun _=>C),.gob (.mapL 2 3 fun _=>K),.cells [.map 2],.cells [.map 3],
 .cells [.fn 179 [] [.ptr 5 0,.ptr 0 0,.ptr 7 0]],.cells [.fn 177 [] [.ptr 4 0,.ptr 0 0,.ptr 6 0,.ptr 1 0]]]
def ZhS (a b:Int):AV:=.agg [.int .i64 fun _=>a,.int .i64 fun _=>b]
def Zl6 (a b c:Int):AV:=.agg [.int .i64 fun _=>a,.int .i64 fun _=>b,.int .i64 fun _=>c]
theorem JU {nt:(α:Type)→α→List α→Int→α} (hnt:∀(α:Type) (d:α) (l:List α) (i:Int),nt α d l i=l.getD i.toNat d) (c:List (List Sp.Call)) (r:Int):Sp.Zq c r=nt (List Sp.Call) [] c r:=by rw[hnt];rfl
theorem ZhL {nt:(α:Type)→α→List α→Int→α} (hnt:∀(α:Type) (d:α) (l:List α) (i:Int),nt α d l i=l.getD i.toNat d) (c:List (List Sp.Call)) (r a:Int):ZD c r a=nt Sp.Call default (nt (List Sp.Call) [] c r) a:=by rw[hnt,hnt];rfl
theorem Jp {c:List (List Sp.Call)} (hc:Zaq c) {r a:Int} (hs:StopIn c r a):c.length≤4∧2≤(Sp.Zq c r).length∧(Sp.Zq c r).length≤4:=by
 have:=hc.row (Sp.Zq c r) (by
  unfold Sp.Zq
  have:r.toNat<c.length:=by have:=hs.2.1;have:=hs.1;omega
  rw[List.getD_eq_getElem?_getD,List.getElem?_eq_getElem this]
  exact List.getElem_mem _)
 exact⟨hc.len,this⟩
theorem cL1 (l:List Nat) {f:FuncId} {xs ys:List AV} {h hc:List Zi} {Post Q:AV→List Zi→Prop} (H:SC (fun _=>Tryz.prog) f ys hc Q) (hq:∀ r h₂,Q r h₂→Post (ren (YJ l h.length) 5 r) (back l h h₂)) (hn:l.Nodup:=by decide) (hl:∀ i∈l,i<h.length:=by simp) (hx:xs.map (Qv false l h 5)=ys:=by first|rfl|(simp only[Zd,Zc,Ze,Zb,Za hnt];rfl)) (hh:sel false l h=hc:=by first|rfl|(simp only[Zd,Zc,Ze,Zb,Za hnt];rfl)):SC (fun _=>Tryz.prog) f xs h Post:=ZF l H hn hl hx hh hq
theorem Zs0 (t:Zf) (x:List Int) (hf:ZH t) (hx:Y5 t x) (n:Int)
  (ih:∀r a C K,StopIn (callsOf t) r a→2*(ZD (callsOf t) r a).depart+1<n→TmInv t x C K→SC (fun _=>Tryz.prog) 179 [ZhS r a,.ptr 5 0,.ptr 0 0,.ptr 7 0] (tmH (ZR t) (X0 x) C K) fun v h=>v=Zl6 (ZY t x r a).comes (ZY t x r a).ready (ZY t x r a).goes∧∃C' K',TmInv t x C' K'∧(∀p∈K,p∈K')∧([r,a],Zb2 (ZY t x r a))∈K'∧h=tmH (ZR t) (X0 x) C' K')
  (r a:Int) (C K:List (List Int×List Int)) (hs:StopIn (callsOf t) r a) (ha:0<a) (hn:2*(ZD (callsOf t) r a).arrive<n+1) (hi:TmInv t x C K):
  SC (fun _=>Tryz.prog) 177 [ZhS r a,.ptr 4 0,.ptr 0 0,.ptr 6 0,.ptr 1 0] (tmH (ZR t) (X0 x) C K) fun v h=>v= .int .i64 (fun _=>comes t x r a)∧∃C' K',TmInv t x C' K'∧(∀p∈K,p∈K')∧h=tmH (ZR t) (X0 x) C' K':=by
 obtain⟨nt,hnt⟩:=Zp
 have hasc:=hf.asc r a hs ha
 have k:=ih r (a-1) C K (hs.prev ha) (by omega) hi
 have k2:=ZuJ t x r (a-1) hx hf.dlen
 have hb1:=ZoF hf x hs ha
 have hb2:=ZhA hf x (hs.prev ha)
 have hb3:=hf.nn r a hs
 have hb4:=hf.nn r (a-1) (hs.prev ha)
 have hb5:=ZhO hf x r (a-1)
 have hcv:=fun v=> @TmInv.cv t x C K hi r a v
 have hput:=fun C' K' (h:TmInv t x C' K') v (e:comes t x r a=v)=>h.putC hs ha e
 have hin:=hs
 unfold StopIn at hin
 have hr4:=Jp hf.calls hs
 have hE:comes t x r a=(ZY t x r (a-1)).goes+(ZD (callsOf t) r a).arrive-(ZD (callsOf t) r (a-1)).depart+Zi0 t x r (a-1):=rfl
 unfold goes at hb2
 rw[JU hnt]at hb2 hin hr4
 rw[ZhL hnt]at*
 rw[ZhL hnt]at*
 unfold tmH ZhS Zl6 X0 at*
 unfold ZR at*
 simp only[Za hnt,Zb]at*
 generalize comes t x r a=e at*
 generalize ZY t x r (a-1)=H at*
 generalize Zi0 t x r (a-1)=y at*
 generalize hcc:callsOf t=c at*
 refine SC.less (Qu Tryz.func177 (body:=Zj Tryz.f177) rfl (by decide+kernel) ?_)
 refine wS ?_
 refine⟨fun h0=>?_,fun h0=>?_⟩
 ·refine wS ?_
  have hval:((C.lookup [r,a]).getD []).headD 0=e:=by
   obtain⟨v,hv⟩:=Option.isSome_iff_exists.1 h0
   rw[hv,hcv v hv]
   rfl
  refine⟨_,_,?_,rfl,C,K,hi,fun p hp=>hp,rfl⟩
  exact ZJ
 ·refine wS ?_
  refine cL1 [0,1,2,3,4,5,6,7] (k) fun r h₂ hp=>?_
  (try simp only[Zd,Zc,Ze,Zb,Za hnt]at hp)
  obtain⟨rfl,C2,K2,hi2,hm2,_,rfl⟩:=hp
  refine wS ?_
  refine ZV (k2) (by first|rfl|(simp only[Zd,Zc,Ze,Zb,Za hnt];rfl)) fun r h₂ hp=>?_
  (try simp only[Zd,Zc,Ze,Zb,Za hnt]at hp)
  obtain⟨rfl,rfl⟩:=hp
  refine wS ?_
  rw[←hE]
  have q:=hput C2 K2 hi2 e rfl
  have hval:((List.lookup [r,a] (YZ C2 [r,a] [e])).getD []).headD 0=e:=by rw[q.2];rfl
  refine⟨_,_,?_,rfl,YZ C2 [r,a] [e],K2,q.1,hm2,rfl⟩
  exact ZJ
theorem ZsZ (t:Zf) (x:List Int) (hf:ZH t) (hx:Y5 t x) (n:Int)
  (ih:∀r a C K,StopIn (callsOf t) r a→0<a→2*(ZD (callsOf t) r a).arrive<n→TmInv t x C K→SC (fun _=>Tryz.prog) 177 [ZhS r a,.ptr 4 0,.ptr 0 0,.ptr 6 0,.ptr 1 0] (tmH (ZR t) (X0 x) C K) fun v h=>v= .int .i64 (fun _=>comes t x r a)∧∃C' K',TmInv t x C' K'∧(∀p∈K,p∈K')∧h=tmH (ZR t) (X0 x) C' K')
  (r a:Int) (C K:List (List Int×List Int)) (hs:StopIn (callsOf t) r a) (hn:2*(ZD (callsOf t) r a).depart+1<n+1) (hi:TmInv t x C K):
  SC (fun _=>Tryz.prog) 179 [ZhS r a,.ptr 5 0,.ptr 0 0,.ptr 7 0] (tmH (ZR t) (X0 x) C K) fun v h=>v=Zl6 (ZY t x r a).comes (ZY t x r a).ready (ZY t x r a).goes∧∃C' K',TmInv t x C' K'∧(∀p∈K,p∈K')∧([r,a],Zb2 (ZY t x r a))∈K'∧h=tmH (ZR t) (X0 x) C' K':=by
 obtain⟨nt,hnt⟩:=Zp
 have hin:=hs
 unfold StopIn at hin
 have hr4:=Jp hf.calls hs
 have hkv:=fun v=> @TmInv.kv t x C K hi r a v
 have hkm:∀v,K.lookup [r,a]=some v→([r,a],v)∈K:=fun v h=>ZaL h
 have hputK:=fun C' K' (h:TmInv t x C' K') v (e:Zb2 (ZY t x r a)=v)=>h.putK hs e
 have hb3:=hf.nn r a hs
 have hk1:=fun h:0<a=>ih r a C K hs h (by have:=hf.nn r a hs;omega) hi
 obtain⟨cm0,hcm0⟩:∃m,m=if 0<a then comes t x r a else 0:=⟨_,rfl⟩
 obtain⟨rd,hrd⟩:∃m,m=Zhd (callsOf t) r a cm0:=⟨_,rfl⟩
 obtain⟨gf,hgf⟩:∃m,m=Zfw t (comes t x) r a rd:=⟨_,rfl⟩
 obtain⟨cs,hcs⟩:∃m,m=if a=0 then gf else cm0:=⟨_,rfl⟩
 have hHeq:ZY t x r a=⟨cs,rd,gf⟩:=by
  rw[ZiE hf x hs,hcs,hgf,hrd,hcm0]
  rfl
 obtain⟨W,hW⟩:∃W:Int→Sp.Xt→Int,∀g w,W g w=if a=((Sp.Zq (callsOf t) r).length:Int)-1 then g else Zb8 (callsOf t) (comes t x) r (ZD (callsOf t) r a) g w:=⟨_,fun _ _=>rfl⟩
 have hgf:gf=t.waits.foldl W rd:=by
  rw[hgf]
  unfold Zfw
  split
  ·rename_i hl
   have h1:∀g w,W g w=g:=fun g w=>by rw[hW,if_pos hl]
   generalize t.waits=l
   induction l with
   |nil=>rfl
   |cons w l ih=>rw[List.foldl_cons,h1];exact ih
  ·rename_i hl
   exact Zbr _ _ fun w _ g=>by rw[hW,if_neg hl]
 have hwl:=hf.wlen
 have hwf:=fun w (hw:w∈t.waits)=>And.intro (JD hf hw) (And.intro (hf.w w hw).2.2.1 (And.intro (hf.w w hw).2.2.2.1 (hf.w w hw).2.2.2.2.1))
 have hwr:=fun w (hw:w∈t.waits)=>Jp hf.calls (JD hf hw)
 have hk3:=fun w (hw:w∈t.waits) (h1:w.train=r) (h2:w.station=(ZD (callsOf t) r a).station) (h3:a≠((Sp.Zq (callsOf t) r).length:Int)-1) C' K' (h:TmInv t x C' K')=>
  ih w.feeder (Z6 (Sp.Zq (callsOf t) w.feeder) w.station) C' K' (JD hf hw) (by have:=(hf.w w hw).2.2.1;omega) (by have:=(hf.w w hw).2.2.2.2.2 a (by rw[h1];exact hs) (by rw[h1];exact h3) (by rw[h1];exact h2.symm);rw[h1]at this;omega) h
 unfold Zhd at hrd
 unfold Zb8 at hW
 unfold StopIn at hwf
 rw[hHeq]at hkv hputK⊢
 unfold Zb2 at hkv hputK⊢
 dsimp only at hkv hputK⊢
 simp only[JU hnt,ZhL hnt]at hin hr4 hb3 hrd hW hwf hwr hk3
 unfold tmH ZhS Zl6 X0 at*
 unfold ZR at*
 simp only[Za hnt,Zb]at*
 generalize hcc:callsOf t=c at*
 refine SC.less (ZsA false false [8,11] Tryz.func179 (body:=Zj Tryz.f179) rfl (by decide+kernel) ?_)
 refine wS ?_
 refine⟨fun h0=>?_,fun h0=>?_⟩
 ·refine wS ?_
  obtain⟨v,hv⟩:=Option.isSome_iff_exists.1 h0
  have hv2:=hkv v hv
  have hmem:=hkm v hv
  subst hv2
  simp only[hv]
  refine⟨_,_,?_,rfl,C,K,hi,fun p hp=>hp,hmem,rfl⟩
  exact ZJ
 ·refine wS ?_
  refine Zsz false false [] 50 [1,2,3,4,5,8,9] (fun _=>[]) (fun p:List (List Int×List Int)×List (List Int×List Int)=>[(2,.gob (.mapL 2 0 fun _=>p.1)),(3,.gob (.mapL 2 3 fun _=>p.2)),(12,.cells [.int .i64 fun _=>cm0,.int .i64 fun _=>0,.int .i64 fun _=>0])]) (fun p=>TmInv t x p.1 p.2∧∀q∈K,q∈p.2) (fun _ _ h=>h) (by decide) ?_ ?_
  ·refine wS ?_
   refine⟨fun h1=>?_,fun h1=>?_⟩
   ·have h1:=of_decide_eq_true h1
    have k:=hk1 h1
    rw[if_pos h1]at hcm0
    rw[←hcm0]at k
    refine wS ?_
    refine cL1 [0,1,2,3,4,5,6,7] (k) fun r h₂ hp=>?_
    (try simp only[Zd,Zc,Ze,Zb,Za hnt]at hp)
    obtain⟨rfl,C2,K2,hi2,hm2,rfl⟩:=hp
    refine wS ?_
    refine⟨(C2,K2),⟨hi2,hm2⟩,?_⟩
    exact ZJ
   ·have h1:=of_decide_eq_false h1
    rw[if_neg h1]at hcm0
    subst hcm0
    refine wS ?_
    refine⟨(C,K),⟨hi,fun _ h=>h⟩,?_⟩
    exact ZJ
  intro p hh
  refine wS ?_
  obtain⟨C1,K1⟩:=p
  obtain⟨hi1,hm1⟩:=hh
  refine Zsz false false [] 40 [1,2,3,4,5,8,9] (fun _:Unit=>[]) (fun _=>[(12,.cells [.int .i64 fun _=>cm0,.int .i64 fun _=>rd,.int .i64 fun _=>0])]) (fun _=>True) (fun _ _ h=>h) (by decide) ?_ ?_
  ·refine wS ?_
   refine⟨fun h2=>?_,fun h2=>?_⟩
   ·have h2:=eq_of_beq h2
    rw[if_pos h2]at hrd
    subst hrd
    refine wS ?_
    refine⟨(),trivial,?_⟩
    exact ZJ
   ·have h2:=ne_of_beq_false h2
    rw[if_neg h2,Int.max_def]at hrd
    refine wS ?_
    refine⟨(),trivial,?_⟩
    exact ZJ
  intro _ _
  refine wS ?_
  refine Zah fun Q hQ=>?_
  refine ZT false false [] [1,2,3,4,5,8,9,69,70,71] [] (fun p:Nat×(List (List Int×List Int)×List (List Int×List Int))×Int=>[(71,.int .i64 fun _=>(p.1:Int))]) (fun p=>[(2,.gob (.mapL 2 0 fun _=>p.2.1.1)),(3,.gob (.mapL 2 3 fun _=>p.2.1.2)),(12,.cells [.int .i64 fun _=>cm0,.int .i64 fun _=>rd,.int .i64 fun _=>p.2.2])])
   (fun p=>p.1≤t.waits.length∧TmInv t x p.2.1.1 p.2.1.2∧(∀q∈K,q∈p.2.1.2)∧gf=(t.waits.drop p.1).foldl W p.2.2) (fun p=>t.waits.length-p.1+0) (0,(C1,K1),rd) ⟨by omega,hi1,hm1,hgf⟩ ?_ ?_
  ·exact ZJ
  intro p hh
  refine wS ?_
  have hil:=hh.1
  have hi2:=hh.2.1
  have hm2:=hh.2.2.1
  have hp:=hh.2.2.2
  clear hh
  refine⟨fun hb=>?_,fun hb=>?_⟩
  case refine_2=>
   simp only[decide_eq_false_iff_not]at hb
   rw[List.drop_eq_nil_of_le (by omega),List.foldl_nil]at hp
   subst hp
   refine wS ?_
   refine hQ _ _ _ ?_
   refine wS ?_
   refine⟨fun h5=>?_,fun h5=>?_⟩
   ·have h5:a=0:=eq_of_beq h5
    rw[if_pos h5]at hcs
    have q:=hputK p.2.1.1 p.2.1.2 hi2 _ rfl
    refine wS ?_
    refine⟨_,_,?_,rfl,p.2.1.1,YZ p.2.1.2 [r,a] [cs,rd,p.2.2],q.1,fun z hz=>q.2.1 z (hm2 z hz),q.2.2,rfl⟩
    refine toR ?_
    rw[hcs]
    exact ZM.refl _
   ·have h5:a≠0:=ne_of_beq_false h5
    rw[if_neg h5]at hcs
    have q:=hputK p.2.1.1 p.2.1.2 hi2 _ rfl
    refine wS ?_
    refine⟨_,_,?_,rfl,p.2.1.1,YZ p.2.1.2 [r,a] [cs,rd,p.2.2],q.1,fun z hz=>q.2.1 z (hm2 z hz),q.2.2,rfl⟩
    refine toR ?_
    rw[hcs]
    exact ZM.refl _
  simp only[decide_eq_true_eq]at hb
  have hdr:=Qy (d:=default) hnt (l:=t.waits) (i:=p.1) (by omega)
  rw[hdr,List.foldl_cons]at hp
  have hmem:nt Sp.Xt default t.waits p.1∈t.waits:=Xg hnt (by omega)
  have hw1:=hwf _ hmem
  have hw2:=hwr _ hmem
  have hw3:=hk3 _ hmem
  have hw4:=hW p.2.2 (nt Sp.Xt default t.waits p.1)
  generalize hd:nt Sp.Xt default t.waits p.1=w at*
  refine vS ?_
  simp only[hd]
  refine Chk.mk (Qc) ?_
  generalize hL:((nt (List Sp.Call) [] c r).length:Int)-1=L at*
  generalize hX:(nt Sp.Call default (nt (List Sp.Call) [] c r) a).station=X at*
  refine⟨fun h3=>?_,fun h3=>?_⟩
  ·have hk:W p.2.2 w=p.2.2:=by
    rw[hw4]
    by_cases e3:a=L
    ·rw[if_pos e3]
    ·rw[if_neg e3]
     by_cases e1:w.train=r
     ·by_cases e2:w.station=X
      ·simp[e1,e2,e3]at h3
      ·rw[if_pos (.inr e2)]
     ·rw[if_pos (.inl e1)]
   rw[hk]at hp
   refine wS ?_
   refine⟨(p.1+1,p.2),⟨by show p.1+1≤_;omega,hi2,hm2,hp⟩,by show t.waits.length-(p.1+1)+0<t.waits.length-p.1+0;omega,?_⟩
   exact ZJ
  have q:w.train=r∧w.station=X∧a≠L:=by
   by_cases e1:w.train=r
   ·by_cases e2:w.station=X
    ·by_cases e3:a=L
     ·simp[e1,e2,e3]at h3
     ·exact⟨e1,e2,e3⟩
    ·simp[e1,e2]at h3
   ·simp[e1]at h3
  have k3:=hw3 q.1 q.2.1 q.2.2 _ _ hi2
  rw[if_neg q.2.2,if_neg (by omega)]at hw4
  clear hw3
  generalize hF:nt (List Sp.Call) [] c w.feeder=F at*
  have k395:=ZsG F w.station (by omega)
  simp only[Za hnt]at k395
  generalize Z6 F w.station=f at*
  generalize comes t x w.feeder f=cmv at*
  refine vS ?_
  try simp only[hd,hF]
  try refine Chk.mk (Qc) ?_
  refine ZV (k395) (by first|rfl|(simp only[Zd,Zc,Ze,Zb,Za hnt];rfl)) fun r h₂ hp=>?_
  (try simp only[Zd,Zc,Ze,Zb,Za hnt]at hp)
  obtain⟨rfl,rfl⟩:=hp
  refine vS ?_
  try simp only[hd,hF]
  try refine Chk.mk (Qc) ?_
  refine cL1 [0,1,2,3,4,5,6,7] (k3) fun r h₂ hp=>?_
  (try simp only[Zd,Zc,Ze,Zb,Za hnt]at hp)
  obtain⟨rfl,C3,K3,hi3,hm3,rfl⟩:=hp
  refine vS ?_
  try simp only[hd,hF]
  try refine Chk.mk (Qc) ?_
  refine⟨fun h4=>?_,fun h4=>?_⟩
  ·have h4:=of_decide_eq_true h4
   rw[if_pos h4,Int.max_def]at hw4
   rw[hw4]at hp
   generalize hg2:(if p.2.2≤cmv then cmv else p.2.2)=g2 at*
   have hg3:(if p.2.2<cmv then cmv else p.2.2)=g2:=by rw[←hg2];split<;>split<;>omega
   refine wS ?_
   refine⟨(p.1+1,(C3,K3),g2),⟨by show p.1+1≤_;omega,hi3,fun z hz=>hm3 z (hm2 z hz),hp⟩,by show t.waits.length-(p.1+1)+0<t.waits.length-p.1+0;omega,?_⟩
   exact ZJ
  ·have h4:=of_decide_eq_false h4
   rw[if_neg h4]at hw4
   rw[hw4]at hp
   refine wS ?_
   refine⟨(p.1+1,(C3,K3),p.2.2),⟨by show p.1+1≤_;omega,hi3,fun z hz=>hm3 z (hm2 z hz),hp⟩,by show t.waits.length-(p.1+1)+0<t.waits.length-p.1+0;omega,?_⟩
   exact ZJ
theorem ZqZ (t:Zf) (x:List Int) (hf:ZH t) (hx:Y5 t x):∀n:Nat,
  (∀r a C K,StopIn (callsOf t) r a→0<a→2*(ZD (callsOf t) r a).arrive<n→TmInv t x C K→SC (fun _=>Tryz.prog) 177 [ZhS r a,.ptr 4 0,.ptr 0 0,.ptr 6 0,.ptr 1 0] (tmH (ZR t) (X0 x) C K) fun v h=>v= .int .i64 (fun _=>comes t x r a)∧∃C' K',TmInv t x C' K'∧(∀p∈K,p∈K')∧h=tmH (ZR t) (X0 x) C' K')∧
  (∀r a C K,StopIn (callsOf t) r a→2*(ZD (callsOf t) r a).depart+1<n→TmInv t x C K→SC (fun _=>Tryz.prog) 179 [ZhS r a,.ptr 5 0,.ptr 0 0,.ptr 7 0] (tmH (ZR t) (X0 x) C K) fun v h=>v=Zl6 (ZY t x r a).comes (ZY t x r a).ready (ZY t x r a).goes∧∃C' K',TmInv t x C' K'∧(∀p∈K,p∈K')∧([r,a],Zb2 (ZY t x r a))∈K'∧h=tmH (ZR t) (X0 x) C' K')
 |0=>⟨fun r a C K hs _ hn=>by have:=hf.nn r a hs;omega,fun r a C K hs hn=>by have:=hf.nn r a hs;omega⟩
 |n+1=>by
  have ih:=ZqZ t x hf hx n
  exact⟨fun r a C K hs ha hn hi=>Zs0 t x hf hx n ih.2 r a C K hs ha (by omega) hi,fun r a C K hs hn hi=>ZsZ t x hf hx n ih.1 r a C K hs (by omega) hi⟩
theorem ZtY (t:Zf) (x:List Int) (hf:ZH t) (hx:Y5 t x):SC (fun _=>Tryz.prog) 137 [.iptr (ZR t) 0,.agg (X0 x)] [] fun v h=>v= .imap 2 3 (fun _=>Qj t x)∧h=[]:=by
 obtain⟨nt,hnt⟩:=Zp
 have k:=fun r a C K (hs:StopIn (callsOf t) r a) (hi:TmInv t x C K)=>(ZqZ t x hf hx (2*(ZD (callsOf t) r a).depart+2).toNat).2 r a C K hs (by have:=hf.nn r a hs;omega) hi
 have hperm:=fun C K (h:TmInv t x C K)=>h.perm
 have h0:TmInv t x [] []:=⟨fun p h=>(by cases h),fun p h=>(by cases h),.nil,.nil⟩
 have hlen:=hf.calls.len
 have hrow:=fun r a (hs:StopIn (callsOf t) r a)=>Jp hf.calls hs
 have hrl:∀r,0≤r→r<(callsOf t).length→2≤(Sp.Zq (callsOf t) r).length∧(Sp.Zq (callsOf t) r).length≤4:=fun r h1 h2=>hf.calls.row _ (by
  unfold Sp.Zq
  rw[List.getD_eq_getElem?_getD,List.getElem?_eq_getElem (by omega)]
  exact List.getElem_mem _)
 unfold StopIn at*
 simp only[JU hnt]at*
 generalize hG:Qj t x=G at*
 generalize hHH:ZY t x=HH at*
 unfold tmH ZhS Zl6 X0 at*
 unfold ZR at*
 simp only[Za hnt,Zb]at*
 generalize hcc:callsOf t=c at*
 refine SC.less (Qu Tryz.func137 (body:=Zj Tryz.f137) rfl (by decide+kernel) ?_)
 refine wS ?_
 refine ZT false false [] [6,7,19,20,21] [] (fun p:Nat×List (List Int×List Int)×List (List Int×List Int)=>[(21,.int .i64 fun _=>(p.1:Int))]) (fun p=>[(2,.gob (.mapL 2 0 fun _=>p.2.1)),(3,.gob (.mapL 2 3 fun _=>p.2.2))])
  (fun p=>p.1≤c.length∧TmInv t x p.2.1 p.2.2∧∀r a:Int,0≤r→r<p.1→0≤a→a<(nt (List Sp.Call) [] c r).length→([r,a],Zb2 (HH r a))∈p.2.2) (fun p=>c.length-p.1+0) (0,[],[]) ⟨by omega,h0,fun r a h1 h2=>by simp at h2;omega⟩ ?_ ?_
 ·exact ZJ
 intro p hh
 refine wS ?_
 have hil:=hh.1
 have hi1:=hh.2.1
 have hm1:=hh.2.2
 clear hh
 refine⟨fun hb=>?_,fun hb=>?_⟩
 case refine_2=>
  simp only[decide_eq_false_iff_not]at hb
  refine wS ?_
  have hp:=hperm p.2.1 p.2.2 hi1 fun r a h=>hm1 r a h.1 (by omega) h.2.2.1 h.2.2.2
  refine⟨_,[],?_,rfl,rfl⟩
  refine toR ?_
  exact ZE.imap hp
 simp only[decide_eq_true_eq]at hb
 have hlr:=hrl p.1 (by omega) (by omega)
 refine wS ?_
 refine Zah fun Q hQ=>?_
 refine ZT false false [] [6,7,9,19,20,21,27,28] [] (fun q:Nat×List (List Int×List Int)×List (List Int×List Int)=>[(28,.int .i64 fun _=>(q.1:Int))]) (fun q=>[(2,.gob (.mapL 2 0 fun _=>q.2.1)),(3,.gob (.mapL 2 3 fun _=>q.2.2))])
  (fun q=>q.1≤(nt (List Sp.Call) [] c p.1).length∧TmInv t x q.2.1 q.2.2∧(∀z∈p.2.2,z∈q.2.2)∧∀a:Int,0≤a→a<q.1→([(p.1:Int),a],Zb2 (HH p.1 a))∈q.2.2) (fun q=>(nt (List Sp.Call) [] c p.1).length-q.1+0) (0,p.2) ⟨by omega,hi1,fun _ h=>h,fun a h1 h2=>by simp at h2;omega⟩ ?_ ?_
 ·exact ZJ
 intro q hh
 refine wS ?_
 have hjl:=hh.1
 have hi2:=hh.2.1
 have hm2:=hh.2.2.1
 have hn2:=hh.2.2.2
 clear hh
 refine⟨fun hb2=>?_,fun hb2=>?_⟩
 case refine_2=>
  simp only[decide_eq_false_iff_not]at hb2
  refine wS ?_
  refine hQ _ _ _ ?_
  refine wS ?_
  refine⟨(p.1+1,q.2),⟨by show p.1+1≤_;omega,hi2,fun r a h1 h2 h3 h4=>?_⟩,by show c.length-(p.1+1)+0<c.length-p.1+0;omega,?_⟩
  ·by_cases he:r=p.1
   ·subst he
    exact hn2 a h3 (by omega)
   ·exact hm2 _ (hm1 r a h1 (by have:r<((p.1+1:Nat):Int):=h2;omega) h3 h4)
  exact ZJ
 simp only[decide_eq_true_eq]at hb2
 have k2:=k p.1 q.1 _ _ ⟨by omega,by omega,by omega,by omega⟩ hi2
 refine wS ?_
 refine cL1 [0,1,2,3,4,5,6,7] (k2) fun r h₂ hp=>?_
 (try simp only[Zd,Zc,Ze,Zb,Za hnt]at hp)
 obtain⟨rfl,C3,K3,hi3,hm3,hn3,rfl⟩:=hp
 refine wS ?_
 refine⟨(q.1+1,C3,K3),⟨by show q.1+1≤_;omega,hi3,fun z hz=>hm3 z (hm2 z hz),fun a h1 h2=>?_⟩,by show(nt (List Sp.Call) [] c p.1).length-(q.1+1)+0<(nt (List Sp.Call) [] c p.1).length-q.1+0;omega,?_⟩
 ·by_cases he:a=q.1
  ·subst he
   exact hn3
  ·exact hm3 _ (hn2 a h1 (by have:a<((q.1+1:Nat):Int):=h2;omega))
 exact ZJ
def XZ (t:Zf):AV:=.iptr [.iptr (ZR t) 0] 0
theorem Z2 {x:List Int} {e v:Int} {k j:Nat} (he:e=k) (hk:k<x.length):(bif decide (e=(j:Int))then v else x.getD j 0)=(x.set k v).getD j 0:=by
 subst he
 by_cases h:k=j
 ·subst h
  rw[List.getD_eq_getElem?_getD (l:=x.set k v),List.getElem?_set_self hk]
  simp
 ·rw[List.getD_eq_getElem?_getD (l:=x.set k v),List.getElem?_set_ne h,←List.getD_eq_getElem?_getD,decide_eq_false (by omega)]
  rfl
theorem ZuK (t:Zf) (hf:ZH t) (B0 B1 B2 B3 B4 B5 B6 B7:Nat→Zi) (stop:Nat→Bool)
  (hs:∀i X,sel true [0,1,2,3,4,5,6,7] [B0 i,B1 i,B2 i,B3 i,B4 i,B5 i,B6 i,B7 i,X]=[B0 i,B1 i,B2 i,B3 i,B4 i,B5 i,B6 i,B7 i])
  (hs6:∀i (f0 f1 f2 f3 f4 f5:Unit→Int),sel true [0,1,2,3,4,5,6,7,8] [B0 i,B1 i,B2 i,B3 i,B4 i,B5 i,B6 i,B7 i,.cells [.int .i64 f0,.int .i64 f1,.int .i64 f2,.int .i64 f3,.int .i64 f4,.int .i64 f5]]=[B0 i,B1 i,B2 i,B3 i,B4 i,B5 i,B6 i,B7 i,.cells [.int .i64 f0,.int .i64 f1,.int .i64 f2,.int .i64 f3,.int .i64 f4,.int .i64 f5]])
  (hfr:∀i X,sel false [0,1,2,3,4,5,6,7] [B0 i,B1 i,B2 i,B3 i,B4 i,B5 i,B6 i,B7 i,X]=[B0 i,B1 i,B2 i,B3 i,B4 i,B5 i,B6 i,B7 i])
  (hbk:∀i j X,back [0,1,2,3,4,5,6,7] [B0 i,B1 i,B2 i,B3 i,B4 i,B5 i,B6 i,B7 i,X] [B0 j,B1 j,B2 j,B3 j,B4 j,B5 j,B6 j,B7 j]=[B0 j,B1 j,B2 j,B3 j,B4 j,B5 j,B6 j,B7 j,X])
  (hy:∀i,i<Qe t→(∀j,j<i→stop j=false)→YC (fun _=>Tryz.prog) 7 [.agg (X0 (Zk t i))] [B0 i,B1 i,B2 i,B3 i,B4 i,B5 i,B6 i,B7 i] fun v h=>v= .bool (fun _=> !stop i)∧h=[B0 (i+1),B1 (i+1),B2 (i+1),B3 (i+1),B4 (i+1),B5 (i+1),B6 (i+1),B7 (i+1)])
  (hB:zOk [B0 0,B1 0,B2 0,B3 0,B4 0,B5 0,B6 0,B7 0]=true:=by rfl):
  SC (fun _=>Tryz.prog) 176 [.yld 7,XZ t] [B0 0,B1 0,B2 0,B3 0,B4 0,B5 0,B6 0,B7 0] fun v h=>∃m,EndAt stop (Qe t) m∧h=[B0 m,B1 m,B2 m,B3 m,B4 m,B5 m,B6 m,B7 m]:=by
 obtain⟨nt,hnt⟩:=Zp
 have hfit:=Yh hf
 have hnext:=fun n=> @Zcy t hf n
 have hmany:=Zis hf
 have hd6:=hf.dlen
 have hd0:=Zcx hf
 have hlen3:∀k,k<t.delays.length→lenAt t.delays k≤3:=fun k h=>by
  unfold lenAt
  rw[List.getD_eq_getElem?_getD,List.getElem?_eq_getElem h]
  exact(hf.d _ (List.getElem_mem h)).2.1
 have hnd:∀k:Nat,(nt Sp.Qh default t.delays (k:Int)).by_.length=lenAt t.delays k:=fun k=>by rw[hnt];rfl
 have hbd:∀n k,0≤(Zk t n).getD k 0∧(Zk t n).getD k 0≤3:=fun n k=>by
  by_cases h:k<t.delays.length
  ·have h1:=(hfit n).d k h
   have h2:=hlen3 k h
   unfold lenAt at h2
   omega
  ·have:=Zal (ds:=t.delays) t.delays.length n k (by omega)
   unfold Zk
   omega
 generalize Qe t=N at*
 generalize Zk t=TA at*
 unfold XZ ZR
 simp only[Za hnt,Zb,Zx]
 refine Qu Tryz.func176 (body:=Zj Tryz.f176) rfl (by decide+kernel) ?_ hB
 refine wS ?_
 refine ZT false false [] [0,1,3] [] (fun(i:Nat)=>[]) (fun i=>[(0,B0 i),(1,B1 i),(2,B2 i),(3,B3 i),(4,B4 i),(5,B5 i),(6,B6 i),(7,B7 i),(8,.cells (X0 (TA i)))]) (fun i=>i<N∧∀j,j<i→stop j=false) (fun i=>N-i+0) 0 ⟨by omega,fun j h=>by omega⟩ ?_ ?_
 ·unfold X0
  rw[hd0]
  have hs':=hs6 0 (fun _=>0) (fun _=>0) (fun _=>0) (fun _=>0) (fun _=>0) (fun _=>0)
  cbv at hs'
  simp only[List.cons.injEq,and_true]at hs'
  obtain⟨e0,e1,e2,e3,e4,e5,e6,e7⟩:=hs'
  (refine To.of [] ?_;cbv;(try simp only[nc]);(repeat' (first|exact trivial|exact ZE.refl _|exact ZM.refl _|refine⟨?_,?_⟩|refine ZM.cells ?_|refine ZE.agg ?_|refine ZE.tup ?_));(all_goals (first|exact X3|skip)))
  all_goals first|(rw[e0];exact ZM.refl _)|(rw[e1];exact ZM.refl _)|(rw[e2];exact ZM.refl _)|(rw[e3];exact ZM.refl _)|(rw[e4];exact ZM.refl _)|(rw[e5];exact ZM.refl _)|(rw[e6];exact ZM.refl _)|(rw[e7];exact ZM.refl _)
 intro i hh
 unfold X0 at*
 refine wS ?_
 have hi:=hh.1
 have hno:=hh.2
 have hni:=hnext i hi
 refine YC.frameB [0,1,2,3,4,5,6,7] (by decide) (by simp) rfl rfl (hfr i _) (hy i hi hno) (hbk i (i+1) _) ?_
 refine wS ?_
 refine⟨fun hst=>?_,fun hst=>?_⟩
 ·have hst:stop i=true:=by simpa using hst
  have hs':=fun X=>hs (i+1) X
  refine wS ?_
  refine⟨i+1,.inr ⟨i,rfl,hi,hst,hno⟩,?_⟩
  have hs':=hs' (.cells [.int .i64 fun _=>(TA i).getD 0 0,.int .i64 fun _=>(TA i).getD 1 0,.int .i64 fun _=>(TA i).getD 2 0,.int .i64 fun _=>(TA i).getD 3 0,.int .i64 fun _=>(TA i).getD 4 0,.int .i64 fun _=>(TA i).getD 5 0])
  cbv at hs'
  simp only[List.cons.injEq,and_true]at hs'⊢
  exact hs'
 have hst:stop i=false:=by simpa using hst
 refine wS ?_
 refine Zah fun Q hQ=>?_
 refine ZT false false [] [0,1,3,4] [] (fun p:Nat×List Int=>[(4,.int .i64 fun _=>(p.1:Int)-1)]) (fun p=>[(8,.cells [.int .i64 fun _=>p.2.getD 0 0,.int .i64 fun _=>p.2.getD 1 0,.int .i64 fun _=>p.2.getD 2 0,.int .i64 fun _=>p.2.getD 3 0,.int .i64 fun _=>p.2.getD 4 0,.int .i64 fun _=>p.2.getD 5 0])])
  (fun p=>p.1≤t.delays.length∧p.2.length=6∧(∀k,0≤p.2.getD k 0∧p.2.getD k 0≤3)∧Sp.stepT t.delays t.delays.length (TA i)=Sp.stepT t.delays p.1 p.2) (fun p=>p.1+0) (t.delays.length,TA i) ⟨Nat.le_refl _,(hfit i).len,hbd i,rfl⟩ ?_ ?_
 ·exact ZJ
 intro p hp
 refine vS ?_
 have hm:=hp.1
 have hyl:=hp.2.1
 have hyb:=hp.2.2.1
 have hst2:=hp.2.2.2
 clear hp
 by_cases h0:p.1=0
 ·rw[h0,Sp.stepT]at hst2
  rw[hst2]at hni
  have hend:¬i+1<N:=fun h=>by rw[if_pos h]at hni;cases hni
  refine Chk.mk (Qc) ?_
  refine Br.isF (by show(bif decide (0≤(p.1:Int)-1)then _ else false)=false;rw[decide_eq_false (by omega)];rfl) ?_
  refine wS ?_
  refine hQ _ _ _ ?_
  refine wS ?_
  refine Br.isT (decide_eq_true (by show(p.1:Int)-1<0;omega)) ?_
  refine wS ?_
  have hs':=hs (i+1) (.cells [.int .i64 fun _=>p.2.getD 0 0,.int .i64 fun _=>p.2.getD 1 0,.int .i64 fun _=>p.2.getD 2 0,.int .i64 fun _=>p.2.getD 3 0,.int .i64 fun _=>p.2.getD 4 0,.int .i64 fun _=>p.2.getD 5 0])
  cbv at hs'
  simp only[List.cons.injEq,and_true]at hs'
  refine⟨i+1,.inl ⟨by omega,fun j hj=>?_⟩,?_⟩
  ·by_cases h:j=i
   ·rw[h];exact hst
   ·exact hno j (by omega)
  ·simp only[List.cons.injEq,and_true]
   exact hs'
 obtain⟨k,hk⟩:∃k,p.1=k+1:=⟨p.1-1,by omega⟩
 have e1:=Zeq (x:=p.2) (e:=(p.1:Int)-1) (i:=k) (by omega) (by omega)
 have e2:(nt Sp.Qh default t.delays ((p.1:Int)-1)).by_.length=lenAt t.delays k:=by rw[show(p.1:Int)-1=(k:Int) by omega];exact hnd k
 have hl3:=hlen3 k (by omega)
 have hybk:=hyb k
 refine Chk.mk (Qc) ?_
 refine⟨fun h1=>?_,fun h1=>?_⟩
 ·have h1:p.2.getD k 0=(lenAt t.delays k:Int)-1:=by
   rw[decide_eq_true (by omega),e1,e2]at h1
   exact eq_of_beq h1
  rw[hk,Sp.stepT,if_pos h1]at hst2
  refine wS ?_
  refine⟨(k,p.2.set k 0),⟨by show k≤_;omega,by show(p.2.set k 0).length=6;rw[List.length_set];exact hyl,fun j=>?_,hst2⟩,by show k+0<p.1+0;omega,?_⟩
  ·show 0≤(p.2.set k 0).getD j 0∧(p.2.set k 0).getD j 0≤3
   rw[←Z2 (e:=(k:Int)) rfl (by omega)]
   have:=hyb j
   cases decide ((k:Int)=j)
   ·exact this
   ·exact⟨Int.le_refl _,by show(0:Int)≤3;decide⟩
  have g0:=Z2 (x:=p.2) (e:=(p.1:Int)-1) (k:=k) (j:=0) (v:=0) (by omega) (by omega)
  have g1:=Z2 (x:=p.2) (e:=(p.1:Int)-1) (k:=k) (j:=1) (v:=0) (by omega) (by omega)
  have g2:=Z2 (x:=p.2) (e:=(p.1:Int)-1) (k:=k) (j:=2) (v:=0) (by omega) (by omega)
  have g3:=Z2 (x:=p.2) (e:=(p.1:Int)-1) (k:=k) (j:=3) (v:=0) (by omega) (by omega)
  have g4:=Z2 (x:=p.2) (e:=(p.1:Int)-1) (k:=k) (j:=4) (v:=0) (by omega) (by omega)
  have g5:=Z2 (x:=p.2) (e:=(p.1:Int)-1) (k:=k) (j:=5) (v:=0) (by omega) (by omega)
  have hs':=hs6 (i+1) (fun _=>bif decide ((p.1:Int)-1=((0:Nat):Int))then 0 else p.2.getD 0 0) (fun _=>bif decide ((p.1:Int)-1=((1:Nat):Int))then 0 else p.2.getD 1 0) (fun _=>bif decide ((p.1:Int)-1=((2:Nat):Int))then 0 else p.2.getD 2 0) (fun _=>bif decide ((p.1:Int)-1=((3:Nat):Int))then 0 else p.2.getD 3 0) (fun _=>bif decide ((p.1:Int)-1=((4:Nat):Int))then 0 else p.2.getD 4 0) (fun _=>bif decide ((p.1:Int)-1=((5:Nat):Int))then 0 else p.2.getD 5 0)
  cbv at hs'
  simp only[List.cons.injEq,and_true]at hs'
  obtain⟨e3,e4,e5,e6,e7,e8,e9,e10⟩:=hs'
  (refine To.of [] ?_;cbv;(try simp only[nc]);(repeat' (first|exact trivial|exact ZE.refl _|exact ZM.refl _|refine⟨?_,?_⟩|refine ZM.cells ?_|refine ZE.agg ?_|refine ZE.tup ?_));(all_goals (first|exact X3|skip)))
  all_goals first|(rw[e3];exact ZM.refl _)|(rw[e4];exact ZM.refl _)|(rw[e5];exact ZM.refl _)|(rw[e6];exact ZM.refl _)|(rw[e7];exact ZM.refl _)|(rw[e8];exact ZM.refl _)|(rw[e9];exact ZM.refl _)|(rw[e10];exact ZM.refl _)
 ·have h1:p.2.getD k 0≠(lenAt t.delays k:Int)-1:=by
   rw[decide_eq_true (by omega),e1,e2]at h1
   exact ne_of_beq_false h1
  rw[hk,Sp.stepT,if_neg h1]at hst2
  rw[hst2]at hni
  have hlt:i+1<N:=by
   by_cases h:i+1<N
   ·exact h
   ·rw[if_neg h]at hni;cases hni
  rw[if_pos hlt]at hni
  have hni:=Option.some.inj hni
  refine wS ?_
  refine hQ _ _ _ ?_
  refine wS ?_
  refine Br.isF (decide_eq_false (by show¬(p.1:Int)-1<0;omega)) ?_
  refine vS ?_
  simp only[e1]
  refine Chk.mk (Qc) ?_
  have hs':=hs6 (i+1) (fun _=>bif decide ((p.1:Int)-1=((0:Nat):Int))then p.2.getD k 0+1 else p.2.getD 0 0) (fun _=>bif decide ((p.1:Int)-1=((1:Nat):Int))then p.2.getD k 0+1 else p.2.getD 1 0) (fun _=>bif decide ((p.1:Int)-1=((2:Nat):Int))then p.2.getD k 0+1 else p.2.getD 2 0) (fun _=>bif decide ((p.1:Int)-1=((3:Nat):Int))then p.2.getD k 0+1 else p.2.getD 3 0) (fun _=>bif decide ((p.1:Int)-1=((4:Nat):Int))then p.2.getD k 0+1 else p.2.getD 4 0) (fun _=>bif decide ((p.1:Int)-1=((5:Nat):Int))then p.2.getD k 0+1 else p.2.getD 5 0)
  cbv at hs'
  simp only[List.cons.injEq,and_true]at hs'
  obtain⟨e3,e4,e5,e6,e7,e8,e9,e10⟩:=hs'
  refine⟨i+1,⟨hlt,fun j hj=>?_⟩,by show N-(i+1)+0<N-i+0;omega,?_⟩
  ·by_cases h:j=i
   ·rw[h];exact hst
   ·exact hno j (by omega)
  rw[←hni]
  have g0:=Z2 (x:=p.2) (e:=(p.1:Int)-1) (k:=k) (j:=0) (v:=p.2.getD k 0+1) (by omega) (by omega)
  have g1:=Z2 (x:=p.2) (e:=(p.1:Int)-1) (k:=k) (j:=1) (v:=p.2.getD k 0+1) (by omega) (by omega)
  have g2:=Z2 (x:=p.2) (e:=(p.1:Int)-1) (k:=k) (j:=2) (v:=p.2.getD k 0+1) (by omega) (by omega)
  have g3:=Z2 (x:=p.2) (e:=(p.1:Int)-1) (k:=k) (j:=3) (v:=p.2.getD k 0+1) (by omega) (by omega)
  have g4:=Z2 (x:=p.2) (e:=(p.1:Int)-1) (k:=k) (j:=4) (v:=p.2.getD k 0+1) (by omega) (by omega)
  have g5:=Z2 (x:=p.2) (e:=(p.1:Int)-1) (k:=k) (j:=5) (v:=p.2.getD k 0+1) (by omega) (by omega)
  (refine To.of [] ?_;cbv;(try simp only[nc]);(repeat' (first|exact trivial|exact ZE.refl _|exact ZM.refl _|refine⟨?_,?_⟩|refine ZM.cells ?_|refine ZE.agg ?_|refine ZE.tup ?_));(all_goals (first|exact X3|skip)))
  all_goals first|(rw[e3];exact ZM.refl _)|(rw[e4];exact ZM.refl _)|(rw[e5];exact ZM.refl _)|(rw[e6];exact ZM.refl _)|(rw[e7];exact ZM.refl _)|(rw[e8];exact ZM.refl _)|(rw[e9];exact ZM.refl _)|(rw[e10];exact ZM.refl _)
def ZrS:Zi→Bool
 |_=>true
structure Qw (n:Nat) (B:Zi):Prop where
 s:∀fz ι h,(∀j,j<n→Qn j ι 0=some j)→ZL fz ι h B=B
 r:∀φ:Nat→Nat,(∀j,j<n→φ j=j)→Xf φ B=B
 z:ZrS B=true
theorem Qw.mono {n m:Nat} {B:Zi} (h:Qw n B) (hn:n≤m):Qw m B:=⟨fun fz ι k hp=>h.s fz ι k fun j hj=>hp j (by omega),fun φ hp=>h.r φ fun j hj=>hp j (by omega),h.z⟩
theorem Qw.wk {n N k:Nat} {B:Zi} (h:Qw n B) {fz:Bool} {ι:List Nat} {H:List Zi} (hp:∀j,j<n→Qn j ι 0=some j):ZM N k (ZL fz ι H B) B:=by
 rw[h.s _ _ _ hp]
 exact ZM.refl _
theorem Zc2 {h:List Zi} (_:∀b∈h,ZrS b=true):zOk h=true:=rfl
theorem ZtM (t:Zf) (hf:ZH t) (B0 B1 B2 B3 B4 B5 B6 B7:Nat→Zi) (stop:Nat→Bool)
  (h0:∀i,Qw 8 (B0 i)) (h1:∀i,Qw 8 (B1 i)) (h2:∀i,Qw 8 (B2 i)) (h3:∀i,Qw 8 (B3 i)) (h4:∀i,Qw 8 (B4 i)) (h5:∀i,Qw 8 (B5 i)) (h6:∀i,Qw 8 (B6 i)) (h7:∀i,Qw 8 (B7 i))
  (hy:∀i,i<Qe t→(∀j,j<i→stop j=false)→YC (fun _=>Tryz.prog) 7 [.agg (X0 (Zk t i))] [B0 i,B1 i,B2 i,B3 i,B4 i,B5 i,B6 i,B7 i] fun v h=>v= .bool (fun _=> !stop i)∧h=[B0 (i+1),B1 (i+1),B2 (i+1),B3 (i+1),B4 (i+1),B5 (i+1),B6 (i+1),B7 (i+1)]):
  SC (fun _=>Tryz.prog) 176 [.yld 7,XZ t] [B0 0,B1 0,B2 0,B3 0,B4 0,B5 0,B6 0,B7 0] fun v h=>∃m,EndAt stop (Qe t) m∧h=[B0 m,B1 m,B2 m,B3 m,B4 m,B5 m,B6 m,B7 m]:=by
 have p6:∀j,j<8→Qn j [0,1,2,3,4,5,6,7] 0=some j:=by decide
 have p7:∀j,j<8→Qn j [0,1,2,3,4,5,6,7,8] 0=some j:=by decide
 have f7:∀j,j<8→YJ [0,1,2,3,4,5,6,7] 9 j=j:=by decide
 refine ZuK t hf B0 B1 B2 B3 B4 B5 B6 B7 stop (fun i X=>?_) (fun i f0 f1 f2 f3 f4 f5=>?_) (fun i X=>?_) (fun i j X=>?_) hy (Zc2 fun b hb=>?_)
 ·show [ZL true _ _ (B0 i),ZL true _ _ (B1 i),ZL true _ _ (B2 i),ZL true _ _ (B3 i),ZL true _ _ (B4 i),ZL true _ _ (B5 i),ZL true _ _ (B6 i),ZL true _ _ (B7 i)]=_
  rw[(h0 i).s _ _ _ p6,(h1 i).s _ _ _ p6,(h2 i).s _ _ _ p6,(h3 i).s _ _ _ p6,(h4 i).s _ _ _ p6,(h5 i).s _ _ _ p6,(h6 i).s _ _ _ p6,(h7 i).s _ _ _ p6]
 ·show [ZL true _ _ (B0 i),ZL true _ _ (B1 i),ZL true _ _ (B2 i),ZL true _ _ (B3 i),ZL true _ _ (B4 i),ZL true _ _ (B5 i),ZL true _ _ (B6 i),ZL true _ _ (B7 i),_]=_
  rw[(h0 i).s _ _ _ p7,(h1 i).s _ _ _ p7,(h2 i).s _ _ _ p7,(h3 i).s _ _ _ p7,(h4 i).s _ _ _ p7,(h5 i).s _ _ _ p7,(h6 i).s _ _ _ p7,(h7 i).s _ _ _ p7]
  rfl
 ·show [ZL false _ _ (B0 i),ZL false _ _ (B1 i),ZL false _ _ (B2 i),ZL false _ _ (B3 i),ZL false _ _ (B4 i),ZL false _ _ (B5 i),ZL false _ _ (B6 i),ZL false _ _ (B7 i)]=_
  rw[(h0 i).s _ _ _ p6,(h1 i).s _ _ _ p6,(h2 i).s _ _ _ p6,(h3 i).s _ _ _ p6,(h4 i).s _ _ _ p6,(h5 i).s _ _ _ p6,(h6 i).s _ _ _ p6,(h7 i).s _ _ _ p6]
 ·show [Xf (YJ [0,1,2,3,4,5,6,7] 9) (B0 j),Xf (YJ [0,1,2,3,4,5,6,7] 9) (B1 j),Xf (YJ [0,1,2,3,4,5,6,7] 9) (B2 j),Xf (YJ [0,1,2,3,4,5,6,7] 9) (B3 j),Xf (YJ [0,1,2,3,4,5,6,7] 9) (B4 j),Xf (YJ [0,1,2,3,4,5,6,7] 9) (B5 j),Xf (YJ [0,1,2,3,4,5,6,7] 9) (B6 j),Xf (YJ [0,1,2,3,4,5,6,7] 9) (B7 j),X]=_
  rw[(h0 j).r _ f7,(h1 j).r _ f7,(h2 j).r _ f7,(h3 j).r _ f7,(h4 j).r _ f7,(h5 j).r _ f7,(h6 j).r _ f7,(h7 j).r _ f7]
 ·simp only[List.mem_cons,List.not_mem_nil,or_false]at hb
  rcases hb with rfl|rfl|rfl|rfl|rfl|rfl|rfl|rfl
  ·exact(h0 0).z
  ·exact(h1 0).z
  ·exact(h2 0).z
  ·exact(h3 0).z
  ·exact(h4 0).z
  ·exact(h5 0).z
  ·exact(h6 0).z
  ·exact(h7 0).z
theorem ZtZ (t:Zf):SC (fun _=>Tryz.prog) 136 [.iptr (ZR t) 0] [] fun v h=>v= .fn 176 [] [XZ t]∧h=[]:=by
 obtain⟨nt,hnt⟩:=Zp
 unfold XZ ZR
 simp only[Za hnt,Zb,Zx]
 refine SC.less (Qu Tryz.func136 (body:=Zj Tryz.f136) rfl (by decide+kernel) ?_)
 refine wS ?_
 refine⟨_,[],?_,rfl,rfl⟩
 exact ZJ
theorem ZqK (t:Zf):SC (fun _=>Tryz.prog) 82 [.iptr (ZR t) 0] [] fun v h=>v= .fn 135 [] [XZ t]∧h=[]:=by
 obtain⟨nt,hnt⟩:=Zp
 unfold XZ ZR
 simp only[Za hnt,Zb,Zx]
 refine SC.less (Qu Tryz.func82 (body:=Zj Tryz.f82) rfl (by decide+kernel) ?_)
 refine wS ?_
 refine⟨_,[],?_,rfl,rfl⟩
 exact ZJ
def QF (stop:Nat→Bool):Nat→Bool
 |0=>false
 |j+1=>stop j
theorem Zgt {Q:Ex→List AV→List Zi→Prop} {s s':List AV} {m:Nat} {h:List Zi} {d:ZgU} (hi:h[m]? =some (.loop s' d)) (hs:d.st= .ready) (hp:d.pe=none) {h':List Zi} (hsel:sel true (List.range m) (h.set m (.loop s' {d with st:=.exhausted}))=h') (H:Q .normal s h'):JN Q s m h:=by
 unfold JN
 rw[hi]
 subst hsel
 simp only[hs,hp]at H⊢
 exact H
theorem Zgs {Q:Ex→List AV→List Zi→Prop} {s s':List AV} {m:Nat} {h:List Zi} {d:ZgU} (hi:h[m]? =some (.loop s' d)) (hs:d.st= .done) (hp:d.pe=some .ret) {h':List Zi} (hsel:sel true (List.range m) (h.set m (.loop s' {d with st:=.exhausted}))=h') (H:Q .ret s h'):JN Q s m h:=by
 unfold JN
 rw[hi]
 subst hsel
 simp only[hs,hp]at H⊢
 exact H
theorem ZqH (t:Zf) (hf:ZH t) (B0 B1 B2 B3 B4 B5:Nat→Zi) (stop:Nat→Bool)
  (h0:∀i,Qw 6 (B0 i)) (h1:∀i,Qw 6 (B1 i)) (h2:∀i,Qw 6 (B2 i)) (h3:∀i,Qw 6 (B3 i)) (h4:∀i,Qw 6 (B4 i)) (h5:∀i,Qw 6 (B5 i))
  (hy:∀i,i<Qe t→(∀j,j<i→stop j=false)→YC (fun _=>Tryz.prog) 5 [.agg (X0 (Zk t i)),.imap 2 3 fun _=>Qj t (Zk t i)] [B0 i,B1 i,B2 i,B3 i,B4 i,B5 i] fun v h=>v= .bool (fun _=> !stop i)∧h=[B0 (i+1),B1 (i+1),B2 (i+1),B3 (i+1),B4 (i+1),B5 (i+1)]):
  SC (fun _=>Tryz.prog) 135 [.yld 5,XZ t] [B0 0,B1 0,B2 0,B3 0,B4 0,B5 0] fun v h=>∃m,EndAt stop (Qe t) m∧h=[B0 m,B1 m,B2 m,B3 m,B4 m,B5 m]:=by
 obtain⟨nt,hnt⟩:=Zp
 have p4:∀j,j<6→Qn j [0,1,2,3,4,5] 0=some j:=by decide
 have p5:∀j,j<6→Qn j [0,1,2,3,4,5,6] 0=some j:=by decide
 have p6:∀j,j<6→Qn j [0,1,2,3,4,5,6,7] 0=some j:=by decide
 have f7:∀j,j<6→YJ [0,1,2,3,4,5] 9 j=j:=by decide
 have hfr:∀i X4 X5 X6,sel false [0,1,2,3,4,5] [B0 i,B1 i,B2 i,B3 i,B4 i,B5 i,X4,X5,X6]=[B0 i,B1 i,B2 i,B3 i,B4 i,B5 i]:=fun i X4 X5 X6=>by
  show [ZL false _ _ (B0 i),ZL false _ _ (B1 i),ZL false _ _ (B2 i),ZL false _ _ (B3 i),ZL false _ _ (B4 i),ZL false _ _ (B5 i)]=_
  rw[(h0 i).s _ _ _ p4,(h1 i).s _ _ _ p4,(h2 i).s _ _ _ p4,(h3 i).s _ _ _ p4,(h4 i).s _ _ _ p4,(h5 i).s _ _ _ p4]
 have hbk:∀i j X4 X5 X6,back [0,1,2,3,4,5] [B0 i,B1 i,B2 i,B3 i,B4 i,B5 i,X4,X5,X6] [B0 j,B1 j,B2 j,B3 j,B4 j,B5 j]=[B0 j,B1 j,B2 j,B3 j,B4 j,B5 j,X4,X5,X6]:=fun i j X4 X5 X6=>by
  show [Xf (YJ [0,1,2,3,4,5] 9) (B0 j),Xf (YJ [0,1,2,3,4,5] 9) (B1 j),Xf (YJ [0,1,2,3,4,5] 9) (B2 j),Xf (YJ [0,1,2,3,4,5] 9) (B3 j),Xf (YJ [0,1,2,3,4,5] 9) (B4 j),Xf (YJ [0,1,2,3,4,5] 9) (B5 j),X4,X5,X6]=_
  rw[(h0 j).r _ f7,(h1 j).r _ f7,(h2 j).r _ f7,(h3 j).r _ f7,(h4 j).r _ f7,(h5 j).r _ f7]
 have e5:∀m L,sel true (List.range 7) [B0 m,B1 m,B2 m,B3 m,B4 m,B5 m,.cells [.yld 5],L]=[B0 m,B1 m,B2 m,B3 m,B4 m,B5 m,.cells [.yld 5]]:=fun m L=>by
  show [ZL true [0,1,2,3,4,5,6] _ (B0 m),ZL true [0,1,2,3,4,5,6] _ (B1 m),ZL true [0,1,2,3,4,5,6] _ (B2 m),ZL true [0,1,2,3,4,5,6] _ (B3 m),ZL true [0,1,2,3,4,5,6] _ (B4 m),ZL true [0,1,2,3,4,5,6] _ (B5 m),_]=_
  rw[(h0 m).s _ _ _ p5,(h1 m).s _ _ _ p5,(h2 m).s _ _ _ p5,(h3 m).s _ _ _ p5,(h4 m).s _ _ _ p5,(h5 m).s _ _ _ p5]
  rfl
 have hz:zOk [B0 0,B1 0,B2 0,B3 0,B4 0,B5 0]=true:=Zc2 fun b hb=>by
  simp only[List.mem_cons,List.not_mem_nil,or_false]at hb
  rcases hb with rfl|rfl|rfl|rfl|rfl|rfl
  ·exact(h0 0).z
  ·exact(h1 0).z
  ·exact(h2 0).z
  ·exact(h3 0).z
  ·exact(h4 0).z
  ·exact(h5 0).z
 have hz6:∀i a s d,zOk [B0 i,B1 i,B2 i,B3 i,B4 i,B5 i,.cells a,.loop s d]=true:=fun i a s d=>Zc2 fun b hb=>by
  simp only[List.mem_cons,List.not_mem_nil,or_false]at hb
  rcases hb with rfl|rfl|rfl|rfl|rfl|rfl|rfl|rfl
  ·exact(h0 i).z
  ·exact(h1 i).z
  ·exact(h2 i).z
  ·exact(h3 i).z
  ·exact(h4 i).z
  ·exact(h5 i).z
  ·rfl
  ·rfl
 have k436:=ZtZ t
 have k476:=fun s ps a x g4 g5=>ZtM t hf B0 B1 B2 B3 B4 B5 (fun _=>.cells [.yld 5]) (fun m=>.loop s ⟨ps,a,x,bif QF stop m then .done else .ready,bif QF stop m then some .ret else none⟩) stop (fun i=>(h0 i).mono (by decide)) (fun i=>(h1 i).mono (by decide)) (fun i=>(h2 i).mono (by decide)) (fun i=>(h3 i).mono (by decide)) (fun i=>(h4 i).mono (by decide)) (fun i=>(h5 i).mono (by decide)) g4 g5
 have k437:=fun i=>ZtY t (Zk t i) hf (Yh hf i)
 generalize Zk t=TA at*
 generalize Qj t=HL at*
 generalize Qe t=N at*
 unfold XZ ZR X0 at*
 simp only[Za hnt,Zb,Zx]at*
 refine Qu Tryz.func135 (body:=Zj Tryz.f135) rfl (by decide+kernel) ?_ hz
 refine wS ?_
 refine ZV (k436) (by first|rfl|(simp only[Zd,Zc,Ze,Zb,Za hnt];rfl)) fun r h₂ hp=>?_
 (try simp only[Zd,Zc,Ze,Zb,Za hnt]at hp)
 obtain⟨rfl,rfl⟩:=hp
 refine wS ?_
 refine ZnW (fid:=176) (first:=[]) rfl XQ ?_
 refine SC.mono (k476 _ _ _ _ ?_ ?_ ?_) ?_
 ·exact fun i=>⟨fun fz ι h hp=>by simp only[ZL,Qv,List.map,hp 5 (by decide)],fun φ hp=>by simp only[Xf,ren,List.map,hp 5 (by decide)],rfl⟩
 ·exact fun i=>⟨fun fz ι h hp=>by simp only[ZL,Qv,List.map,hp 5 (by decide),hp 6 (by decide)],fun φ hp=>by simp only[Xf,ren,List.map,hp 5 (by decide),hp 6 (by decide)],rfl⟩
 ·intro i hi hno
  have hst:QF stop i=false:=by
   cases i with
   |zero=>rfl
   |succ j=>exact hno j (by omega)
  simp only[hst,cond_false]
  refine YC.less (Zci false false [] rfl rfl ?_ (hz6 i _ _ _))
  refine wS ?_
  refine ZV (k437 i) (by first|rfl|(simp only[Zd,Zc,Ze,Zb,Za hnt];rfl)) fun r h₂ hp=>?_
  (try simp only[Zd,Zc,Ze,Zb,Za hnt]at hp)
  obtain⟨rfl,rfl⟩:=hp
  refine wS ?_
  refine YC.frameB [0,1,2,3,4,5] (by decide) (by simp) rfl rfl (hfr i _ _ _) (hy i hi hno) (hbk i (i+1) _ _ _) ?_
  refine wS ?_
  refine⟨fun hb=>?_,fun hb=>?_⟩
  ·have hb:stop i=true:=by simpa using hb
   have hb2:QF stop (i+1)=true:=hb
   refine wS ?_
   simp only[hb2,cond_true]
   refine⟨.bool fun _=> !stop i,_,?_,rfl,rfl⟩
   (refine To.of [] ?_;cbv;(try simp only[nc]);(repeat' (first|exact trivial|exact ZE.refl _|exact ZM.refl _|refine⟨?_,?_⟩|refine ZM.cells ?_|refine ZE.agg ?_|refine ZE.tup ?_));(all_goals (first|exact X3|skip)))
   all_goals first|exact .bool (by rw[hb];rfl)|exact(h0 _).wk p6|exact(h1 _).wk p6|exact(h2 _).wk p6|exact(h3 _).wk p6|exact(h4 _).wk p6|exact(h5 _).wk p6
  ·have hb:stop i=false:=by simpa using hb
   have hb2:QF stop (i+1)=false:=hb
   refine wS ?_
   simp only[hb2,cond_false]
   refine⟨.bool fun _=> !stop i,_,?_,rfl,rfl⟩
   (refine To.of [] ?_;cbv;(try simp only[nc]);(repeat' (first|exact trivial|exact ZE.refl _|exact ZM.refl _|refine⟨?_,?_⟩|refine ZM.cells ?_|refine ZE.agg ?_|refine ZE.tup ?_));(all_goals (first|exact X3|skip)))
   all_goals first|exact .bool (by rw[hb];rfl)|exact(h0 _).wk p6|exact(h1 _).wk p6|exact(h2 _).wk p6|exact(h3 _).wk p6|exact(h4 _).wk p6|exact(h5 _).wk p6
 ·intro v h hh
  obtain⟨m,hm,rfl⟩:=hh
  rcases hm with⟨hm,hno⟩|⟨j,hm,hj,hst,hno⟩
  ·have hst:QF stop m=false:=by
    cases m with
    |zero=>rfl
    |succ j=>exact hno j (by omega)
   simp only[hst,cond_false]
   refine Zgt rfl rfl rfl (e5 m _) ?_
   refine wS ?_
   refine⟨m,.inl ⟨hm,hno⟩,?_⟩
   show [ZL true [0,1,2,3,4,5] _ (B0 m),ZL true [0,1,2,3,4,5] _ (B1 m),ZL true [0,1,2,3,4,5] _ (B2 m),ZL true [0,1,2,3,4,5] _ (B3 m),ZL true [0,1,2,3,4,5] _ (B4 m),ZL true [0,1,2,3,4,5] _ (B5 m)]=_
   rw[(h0 m).s _ _ _ p4,(h1 m).s _ _ _ p4,(h2 m).s _ _ _ p4,(h3 m).s _ _ _ p4,(h4 m).s _ _ _ p4,(h5 m).s _ _ _ p4]
  ·have hst2:QF stop m=true:=by rw[hm];exact hst
   simp only[hst2,cond_true]
   refine Zgs rfl rfl rfl (e5 m _) ?_
   refine wS ?_
   refine⟨m,.inr ⟨j,hm,hj,hst,hno⟩,?_⟩
   show [ZL true [0,1,2,3,4,5] _ (B0 m),ZL true [0,1,2,3,4,5] _ (B1 m),ZL true [0,1,2,3,4,5] _ (B2 m),ZL true [0,1,2,3,4,5] _ (B3 m),ZL true [0,1,2,3,4,5] _ (B4 m),ZL true [0,1,2,3,4,5] _ (B5 m)]=_
   rw[(h0 m).s _ _ _ p4,(h1 m).s _ _ _ p4,(h2 m).s _ _ _ p4,(h3 m).s _ _ _ p4,(h4 m).s _ _ _ p4,(h5 m).s _ _ _ p4]
end Go.Proofs.YtjgpiclllehgmaaGreat.Vm
namespace Go.Proofs.YtjgpiclllehgmaaGreat.Vm
open Go Go.Proofs
def inA (n:Nat):Nat→AV→Bool
 |0,_=>false
 |k+1,a=>(match a with
  |.ptr id _=>ltN id n
  |.aptr id _ _ _=>ltN id n
  |.msl id _ _ _ _=>ltN id n
  |.gsl id _=>ltN id n
  |.gptr id _ _ _ _=>ltN id n
  |.map id=>ltN id n
  |.mit id=>ltN id n
  |.yld id=>ltN id n
  |.isl _ _ _ (.own id)=>ltN id n
  |.lit _ cs=>cs.all (inA n k)
  |.fn _ xs bs=>xs.all (inA n k)&&bs.all (inA n k)
  |.agg cs=>cs.all (inA n k)
  |.tup cs=>cs.all (inA n k)
  |.gd _ v=>inA n k v
  |_=>true)
theorem ZbP {α:Type} {f:α→α} {l:List α} (h:∀a∈l,f a=a):l.map f=l:=by
 induction l with
 |nil=>rfl
 |cons a l ih=>rw[List.map_cons,h a (List.mem_cons_self ..),ih fun b hb=>h b (List.mem_cons_of_mem _ hb)]
theorem Zg1 {n:Nat} {fz:Bool} {ι:List Nat} {h:List Zi} (hp:∀j,j<n→Qn j ι 0=some j):∀(k:Nat) (a:AV),inA n k a=true→Qv fz ι h k a=a
 |0,a,ha=>by cases ha
 |k+1,a,ha=>by
  have ih:=Zg1 (fz:=fz) (h:=h) hp k
  have hl:∀cs:List AV,cs.all (inA n k)=true→cs.map (Qv fz ι h k)=cs:=fun cs hc=>ZbP fun a ha=>ih a (List.all_eq_true.1 hc a ha)
  cases a with
  |isl s m f tk=>
   cases tk with
   |own id=>simp only[Qv,hp _ (JV ha)]
   |_=>rfl
  |lit s cs=>simp only[Qv,hl cs ha]
  |fn f xs bs=>
   have ha:=(Bool.and_eq_true _ _).mp ha
   simp only[Qv,hl _ ha.1,hl _ ha.2]
  |agg cs=>simp only[Qv,hl cs ha]
  |tup cs=>simp only[Qv,hl cs ha]
  |gd g v=>simp only[Qv,ih v ha]
  |ptr|aptr|msl|gsl|gptr|map|mit|yld=>simp only[Qv,hp _ (JV ha)]
  |_=>rfl
theorem Zjy {n:Nat} {φ:Nat→Nat} (hp:∀j,j<n→φ j=j):∀(k:Nat) (a:AV),inA n k a=true→ren φ k a=a
 |0,a,ha=>by cases ha
 |k+1,a,ha=>by
  have ih:=Zjy hp k
  have hl:∀cs:List AV,cs.all (inA n k)=true→cs.map (ren φ k)=cs:=fun cs hc=>ZbP fun a ha=>ih a (List.all_eq_true.1 hc a ha)
  cases a with
  |isl s m f tk=>
   cases tk with
   |own id=>simp only[ren,hp _ (JV ha)]
   |_=>rfl
  |lit s cs=>simp only[ren,hl cs ha]
  |fn f xs bs=>
   have ha:=(Bool.and_eq_true _ _).mp ha
   simp only[ren,hl _ ha.1,hl _ ha.2]
  |agg cs=>simp only[ren,hl cs ha]
  |tup cs=>simp only[ren,hl cs ha]
  |gd g v=>simp only[ren,ih v ha]
  |ptr|aptr|msl|gsl|gptr|map|mit|yld=>simp only[ren,hp _ (JV ha)]
  |_=>rfl
def Zux (n:Nat):Zi→Bool
 |.cells cs=>cs.all (inA n 5)
 |.loop s _=>s.all (inA n 5)
 |_=>true
theorem Qw.of {n:Nat} {B:Zi} (h:Zux n B=true):Qw n B:=by
 cases B with
 |cells cs=>exact⟨fun fz ι k hp=>congrArg Zi.cells (ZbP fun a ha=>Zg1 hp 5 a (List.all_eq_true.1 h a ha)),fun φ hp=>congrArg Zi.cells (ZbP fun a ha=>Zjy hp 5 a (List.all_eq_true.1 h a ha)),rfl⟩
 |loop s d=>exact⟨fun fz ι k hp=>congrArg (fun s=>Zi.loop s d) (ZbP fun a ha=>Zg1 hp 5 a (List.all_eq_true.1 h a ha)),fun φ hp=>congrArg (fun s=>Zi.loop s d) (ZbP fun a ha=>Zjy hp 5 a (List.all_eq_true.1 h a ha)),rfl⟩
 |_=>exact⟨fun _ _ _ _=>rfl,fun _ _=>rfl,rfl⟩
attribute [local irreducible] Dn
open Go Go.Proofs Sp
set_option maxRecDepth 100000
set_option maxHeartbeats 1600000
structure Wd where
 fr:Int
 to_:Int
 some_:Bool
deriving Inhabited
def Wd.add (w:Wd) (n:Int):Wd:=if w.some_ then⟨min w.fr n,max w.to_ n,true⟩else⟨n,n,true⟩
def Ys (w:Wd):List AV:=[.int .i64 fun _=>w.fr,.int .i64 fun _=>w.to_,.bool fun _=>w.some_]
theorem Zt4 (w:Wd) (n:Int):SC (fun _=>Tryz.prog) 83 [.ptr 0 0,.int .i64 fun _=>n] [.cells (Ys w)] fun r h=>h=[.cells (Ys (w.add n))]:=by
 refine SC.less ?_
 refine Qu Tryz.func83 (body:=Zj Tryz.f83) rfl (by decide+kernel) ?_
 refine wS ?_
 unfold Wd.add
 refine⟨fun hb=>?_,fun hb=>?_⟩
 ·have hs:w.some_=false:=nb2 hb
  rw[if_neg (by rw[hs];exact Bool.false_ne_true)]
  refine wS ?_
  refine⟨.tup [],_,?_,rfl⟩
  (refine To.of [] ?_;cbv;(try simp only[nc]);(repeat' (first|exact trivial|exact ZE.refl _|exact ZM.refl _|refine⟨?_,?_⟩|refine ZM.cells ?_|refine ZE.agg ?_|refine ZE.tup ?_));(all_goals (first|exact X3|skip)))
  all_goals (refine .int ?_;show(if n<n then n else n)=n;rw[if_neg (Int.lt_irrefl n)])
 ·have hs:w.some_=true:=nb4 hb
  rw[if_pos hs]
  have h1:(if n<w.fr then n else w.fr)=min w.fr n:=by split<;>omega
  have h2:(if w.to_<n then n else w.to_)=max w.to_ n:=by split<;>omega
  generalize min w.fr n=a at*
  generalize max w.to_ n=b at*
  refine vS ?_
  refine Chk.mk (Qc) ?_
  refine⟨.tup [],_,?_,rfl⟩
  (refine To.of [] ?_;cbv;(try simp only[nc]);(repeat' (first|exact trivial|exact ZE.refl _|exact ZM.refl _|refine⟨?_,?_⟩|refine ZM.cells ?_|refine ZE.agg ?_|refine ZE.tup ?_));(all_goals (first|exact X3|skip)))
  all_goals first|exact .bool hs|exact .int h1|exact .int h2
theorem Zbp {α:Type} (l:List α) (i j:Nat) (x d:α) (h:j≠i):(l.set i x).getD j d=l.getD j d:=by
 rw[List.getD_eq_getElem?_getD,List.getD_eq_getElem?_getD,List.getElem?_set,if_neg (Ne.symm h)]
theorem Zd5 {α:Type} (l:List α) (i:Nat) (x d:α) (h:i<l.length):(l.set i x).getD i d=x:=by
 rw[List.getD_eq_getElem?_getD,List.getElem?_set,if_pos rfl,if_pos h]
 rfl
theorem Zt5 (l:List Wd) (i:Nat) (n:Int) (hi:i<l.length) (hl:l.length≤1000000):SC (fun _=>Tryz.prog) 83 [.aptr 0 3 (fun _=>(i:Int)) 0,.int .i64 fun _=>n] [.arr 3 (fun _=>(l.length:Int)) (Zdg Ys default l)] fun r h=>h=[.arr 3 (fun _=>(l.length:Int)) (Zdg Ys default (l.set i ((l.getD i default).add n)))]:=by
 obtain⟨nt,hnt⟩:=Zp
 rw[ZaM hnt]
 refine SC.less ?_
 refine Qu Tryz.func83 (body:=Zj Tryz.f83) rfl (by decide+kernel) ?_
 have hw:l.getD i default=nt Wd default l i:=by rw[hnt];rfl
 rw[hw]
 refine wS ?_
 have hset:∀(x:Wd) (j:Nat),Zdg Ys default (l.set i x) (fun _=>(j:Int))=Ys (if j=i then x else nt Wd default l j):=fun x j=>by
  show Ys ((l.set i x).getD ((j:Int).toNat) default)=_
  rw[Int.toNat_natCast]
  by_cases h:j=i
  ·subst h
   rw[if_pos rfl,Zd5 l _ x default hi]
  ·rw[if_neg h,Zbp l i j x default h,hnt]
   rfl
 refine⟨fun hb=>?_,fun hb=>?_⟩
 ·have hs:(nt Wd default l i).some_=false:=nb2 hb
  refine wS ?_
  refine⟨.tup [],[.arr 3 (fun _=>(l.length:Int)) (Zdg Ys default (l.set i ((nt Wd default l i).add n)))],To.of [] ⟨⟨.refl _,trivial⟩,.arr rfl fun j hj=>?_,trivial⟩,rfl⟩
  rw[hset]
  unfold Wd.add
  rw[hs]
  by_cases h:j=i
  ·subst h
   simp[QW,ZjC,putC,Ys,Jy,AV.cellsOf,purify]
  ·have h2:¬((j:Int)=(i:Int)):=by omega
   simp[QW,ZjC,putC,Ys,Jy,AV.cellsOf,purify,h,h2]
 ·have hs:(nt Wd default l i).some_=true:=nb4 hb
  refine wS ?_
  refine⟨.tup [],[.arr 3 (fun _=>(l.length:Int)) (Zdg Ys default (l.set i ((nt Wd default l i).add n)))],To.of [] ⟨⟨.refl _,trivial⟩,.arr rfl fun j hj=>?_,trivial⟩,rfl⟩
  rw[hset]
  unfold Wd.add
  rw[hs]
  by_cases h:j=i
  ·subst h
   simp[QW,ZjC,putC,Ys,Jy,AV.cellsOf,purify,hs]
   exact⟨funext fun _=>by split<;>omega,funext fun _=>by split<;>omega⟩
  ·have h2:¬((j:Int)=(i:Int)):=by omega
   simp[QW,ZjC,putC,Ys,Jy,AV.cellsOf,purify,h,h2]
end Go.Proofs.YtjgpiclllehgmaaGreat.Vm
namespace Go.Proofs.YtjgpiclllehgmaaGreat.Sp
open Vm
def Zee (f:Nat→Int):Nat→Wd
 |0=>⟨0,0,false⟩
 |n+1=>(Zee f n).add (f n)
def Zat (t:Zf) (run:Int) (k i:Nat):Int:=
 if k%2=0 then(ZY t (Zk t i) run ((k/2:Nat):Int)).comes else(ZY t (Zk t i) run ((k/2:Nat):Int)).goes
def Zae (t:Zf) (run:Int) (n i j:Nat):List Wd:=(List.range (2*n)).map fun k=>if k<2*j then Zee (Zat t run k) (i+1)else Zee (Zat t run k) i
def Zgi (t:Zf) (run:Int) (k:Nat):Zcu:=⟨(Zee (Zat t run k) (Qe t)).fr,(Zee (Zat t run k) (Qe t)).to_⟩
def ZhH (t:Zf) (run:Int):List Zcu:=(List.range (Zq (callsOf t) run).length).map fun a=>Zgi t run (2*a)
def ZkV (t:Zf) (run:Int):List Zcu:=(List.range (Zq (callsOf t) run).length).map fun a=>Zgi t run (2*a+1)
def Jo (t:Zf) (run:Int):Int:=if Zn t≠0 then Zn t else if QQ run 0 ((t.runs.length:Int)-1)then 3 else 0
theorem ZaJ {t:Zf} {run:Int} {n i j:Nat}:(Zae t run n i j).length=2*n:=by unfold Zae;simp
theorem ZaK {t:Zf} {run:Int} {n i j k:Nat} (h:k<2*n):(Zae t run n i j).getD k default=if k<2*j then Zee (Zat t run k) (i+1)else Zee (Zat t run k) i:=by
 unfold Zae
 rw[List.getD_eq_getElem?_getD,List.getElem?_map,List.getElem?_range h]
 rfl
theorem Zqi {t:Zf} {run:Int} {n i:Nat}:Zae t run n i n=Zae t run n (i+1) 0:=by
 unfold Zae
 refine List.map_congr_left fun k hk=>?_
 rw[if_pos (by have:=List.mem_range.1 hk;omega),if_neg (by omega)]
theorem Zn5 {t:Zf} {run:Int} {n i j:Nat} (hj:j<n) {l2:List Wd} (h2:l2=(Zae t run n i j).set (2*j) (((Zae t run n i j).getD (2*j) default).add (Zat t run (2*j) i))):
  l2.set (2*j+1) ((l2.getD (2*j+1) default).add (Zat t run (2*j+1) i))=Zae t run n i (j+1):=by
 subst h2
 rw[Vm.Zbp _ _ _ _ _ (by omega),ZaK (by omega),ZaK (by omega),if_neg (by omega),if_neg (by omega)]
 refine List.ext_getElem? fun k=>?_
 by_cases hk:k<2*n
 ·have e:(Zae t run n i (j+1))[k]? =some ((Zae t run n i (j+1)).getD k default):=by
   rw[List.getD_eq_getElem?_getD,List.getElem?_eq_getElem (by rw[ZaJ];exact hk)];rfl
  rw[e,ZaK hk]
  by_cases h1:2*j+1=k
  ·subst h1
   rw[List.getElem?_set_self (by rw[List.length_set,ZaJ];exact hk),if_pos (by omega)]
   rfl
  ·rw[List.getElem?_set_ne h1]
   by_cases h2:2*j=k
   ·subst h2
    rw[List.getElem?_set_self (by rw[ZaJ];exact hk),if_pos (by omega)]
    rfl
   ·rw[List.getElem?_set_ne h2]
    have e2:(Zae t run n i j)[k]? =some ((Zae t run n i j).getD k default):=by
     rw[List.getD_eq_getElem?_getD,List.getElem?_eq_getElem (by rw[ZaJ];exact hk)];rfl
    rw[e2,ZaK hk]
    by_cases h3:k<2*j
    ·rw[if_pos h3,if_pos (by omega)]
    ·rw[if_neg h3,if_neg (by omega)]
 ·rw[List.getElem?_eq_none (by rw[List.length_set,List.length_set,ZaJ];omega),List.getElem?_eq_none (by rw[ZaJ];omega)]
theorem Zai {t:Zf} {x:List Int} {r a:Int} (hs:StopIn (callsOf t) r a):(Qj t x).lookup [r,a]=some (Zb2 (ZY t x r a)):=by
 refine ZbQ ?_ (List.mem_map.2 ⟨(r,a),Jm.2 hs,rfl⟩)
 unfold Qj
 rw[List.map_map]
 exact List.Pairwise.map _ (fun a b hab e=>by
  apply hab
  simp only[Function.comp,List.cons.injEq,and_true]at e
  exact Prod.ext e.1 e.2) Za9
end Go.Proofs.YtjgpiclllehgmaaGreat.Sp
namespace Go.Proofs.YtjgpiclllehgmaaGreat.Vm
attribute [local irreducible] Dn
open Go Go.Proofs Sp
set_option maxRecDepth 100000
set_option maxHeartbeats 4000000
def Qs (x:Sp.Zcu):List AV:=[.int .i64 fun _=>x.fr,.int .i64 fun _=>x.to_]
theorem ZrX (l l2:List Wd) (i:Nat) (e n N:Int) (he:e=i) (hN:N=l.length) (hi:i<l.length) (hl:l.length≤1000000) (h2:l2=l.set i ((l.getD i default).add n)):SC (fun _=>Tryz.prog) 83 [.aptr 0 3 (fun _=>e) 0,.int .i64 fun _=>n] [.arr 3 (fun _=>N) (Zdg Ys default l)] fun r h=>h=[.arr 3 (fun _=>N) (Zdg Ys default l2)]:=by
 subst he hN h2
 exact Zt5 l i n hi hl
theorem Zu6 (t:Zf) (run:Int) (hf:Xe t) (hw:Zn t=0→ZH t):SC (fun _=>Tryz.prog) 22 [Ze t,.int .i64 fun _=>run] [] fun v h=>
  v= .tup [lst 2 Qs default (if Jo t run=0 then ZhH t run else []),lst 2 Qs default (if Jo t run=0 then ZkV t run else []),.int .i64 fun _=>Jo t run]∧h=[]:=by
 obtain⟨nt,hnt⟩:=Zp
 obtain⟨L2,hL2⟩:∃L2:Nat→Nat→Nat→List Wd,∀n i j,L2 n i j=(Zae t run n i j).set (2*j) (((Zae t run n i j).getD (2*j) default).add (Zat t run (2*j) i)):=⟨_,fun _ _ _=>rfl⟩
 refine SC.less (ZsA false false [] Tryz.func22 (body:=Zj Tryz.f22) rfl (by decide+kernel) ?_)
 have k:=ZqL t hf
 have hr:=hf.runs
 have k1:=Zb3 run 0 ((t.runs.length:Int)-1)
 generalize hE:Jo t run=e
 unfold Jo at hE
 unfold Ze at*
 simp only[Za hnt]at k⊢
 by_cases he:Zn t=0
 ·have hw:=hw he
  unfold QA at k
  rw[if_pos he]at k
  rw[if_neg (fun h=>h he)]at hE
  have k382:=ZqK t
  unfold XZ ZR at*
  simp only[Za hnt,Zb,Zx]at k k382⊢
  rw[he]at k
  refine wS ?_
  refine ZoO (k) ?_
  refine wS ?_
  refine Br.isF rfl ?_
  refine wS ?_
  refine ZoO (k1) ?_
  refine wS ?_
  refine⟨fun h=>?_,fun h=>?_⟩
  ·rw[if_pos h]at hE
   subst hE
   refine wS ?_
   refine⟨_,[],?_,rfl,rfl⟩
   exact ZJ
  ·rw[if_neg (by rw[h];exact Bool.false_ne_true)]at hE
   subst hE
   have hb:=Xn h
   have hlen:t.runs.length=(callsOf t).length:=by unfold callsOf;rw[List.length_map]
   have hrow:=hw.calls.row (Sp.Zq (callsOf t) run) (by
    unfold Sp.Zq
    rw[List.getD_eq_getElem?_getD,List.getElem?_eq_getElem (by omega)]
    exact List.getElem_mem _)
   have hlk:=fun x a h1 h2=> @Zai t x run a ⟨hb.1,by omega,h1,h2⟩
   have hvc:∀i j:Nat,(ZY t (Zk t i) run (j:Int)).comes=Zat t run (2*j) i:=fun i j=>by unfold Zat;rw[if_pos (by omega),show 2*j/2=j by omega]
   have hvg:∀i j:Nat,(ZY t (Zk t i) run (j:Int)).goes=Zat t run (2*j+1) i:=fun i j=>by unfold Zat;rw[if_neg (by omega),show(2*j+1)/2=j by omega]
   have hmst:=fun i j h l2 h2=> @Zn5 t run (Sp.Zq (callsOf t) run).length i j h l2 h2
   have hmlen:=fun i j=> @ZaJ t run (Sp.Zq (callsOf t) run).length i j
   have hmend:=fun i=> @Zqi t run (Sp.Zq (callsOf t) run).length i
   have hm0:∀k,k<2*(Sp.Zq (callsOf t) run).length→(Zae t run (Sp.Zq (callsOf t) run).length 0 0).getD k default=⟨0,0,false⟩:=fun k h=>by rw[ZaK h,if_neg (by omega)];rfl
   have hXe:∀m j,j<(Sp.Zq (callsOf t) run).length→nt Wd default (Zae t run (Sp.Zq (callsOf t) run).length m 0) (0+2*(j:Int))=Zee (Zat t run (2*j)) m:=fun m j h=>by
    rw[hnt,show(0+2*(j:Int)).toNat=2*j by omega,ZaK (by omega),if_neg (by omega)]
   have hXo:∀m j,j<(Sp.Zq (callsOf t) run).length→nt Wd default (Zae t run (Sp.Zq (callsOf t) run).length m 0) (0+(2*(j:Int)+1))=Zee (Zat t run (2*j+1)) m:=fun m j h=>by
    rw[hnt,show(0+(2*(j:Int)+1)).toNat=2*j+1 by omega,ZaK (by omega),if_neg (by omega)]
   have k435:=fun B0 B1 B2 B3 B4 B5 stop=>ZqH t hw B0 B1 B2 B3 B4 B5 stop
   rw[if_pos rfl,if_pos rfl]
   have hcl:ZhH t run=(List.range (Sp.Zq (callsOf t) run).length).map fun a=>Zgi t run (2*a):=rfl
   have hgl:ZkV t run=(List.range (Sp.Zq (callsOf t) run).length).map fun a=>Zgi t run (2*a+1):=rfl
   generalize ZhH t run=CL at*
   generalize ZkV t run=GL at*
   unfold XZ ZR at k435
   simp only[JU hnt,Za hnt,Zb,Zx]at hrow hlk hXe hXo hmst hmlen hmend hm0 hcl hgl k435
   generalize Zae t run=MID at*
   generalize Zk t=TA at*
   generalize Qj t=HL at*
   generalize hcc:callsOf t=c at*
   refine wS ?_
   refine ZoO (k382) ?_
   refine wS ?_
   generalize hn:(nt (List Sp.Call) [] c run).length=n at*
   have hrows:∀k:Nat,(k:Int)<2*(n:Int)→[AV.int .i64 fun _=>0,AV.int .i64 fun _=>0,AV.bool fun _=>false]=Ys (nt Wd default (MID n 0 0) (k:Int)):=fun k h=>by
    rw[hnt,Int.toNat_natCast,hm0 k (by omega)]
    rfl
   refine Ze1 [3,4,5,6,8,9,42] [] [(3,.arr 3 (fun _=>2*(n:Int)) (fun e=>Ys (nt Wd default (MID n 0 0) (e ()))))] (fid:=135) (first:=[]) ?_ rfl ?_ ?_
   ·refine toR ?_
    exact ZM.arr rfl hrows
   ·exact XQ
   refine SC.mono (k435 (fun _=>_) (fun _=>_) (fun _=>_) (fun i=>.arr 3 (fun _=>2*(n:Int)) (fun e=>Ys (nt Wd default (MID n i 0) (e ())))) (fun _=>_) (fun _=>_) (fun _=>false) ?_ ?_ ?_ ?_ ?_ ?_ ?_) ?_
   iterate 6 exact fun i=>Qw.of rfl
   ·intro i hi hno
    refine YC.less (Zci false false [] rfl rfl ?_)
    refine wS ?_
    refine ZrU false false [] [3,4,5,8,9,11,44,45,46] [] (fun(j:Nat)=>[(46,.int .i64 fun _=>(j:Int))]) (fun j=>[(3,.arr 3 (fun _=>2*(n:Int)) (fun e=>Ys (nt Wd default (MID n i j) (e ()))))]) (fun j=>j≤n) (fun j=>n-j+0) 0 (by omega) ?_ ?_
    ·exact ZJ
    intro j hj
    refine wS ?_
    refine⟨fun hb2=>?_,fun hb2=>?_⟩
    ·simp only[decide_eq_true_eq]at hb2
     have e1:(((HL (TA i)).lookup [run,(j:Int)]).getD []).headD 0=Zat t run (2*j) i:=by rw[hlk _ _ (by omega) (by omega),←hvc];rfl
     have e2:(((HL (TA i)).lookup [run,(j:Int)]).getD []).tail.tail.headD 0=Zat t run (2*j+1) i:=by rw[hlk _ _ (by omega) (by omega),←hvg];rfl
     have hl2:=hL2 n i j
     have h3:=hmst i j (by omega) (L2 n i j) hl2
     have hl2l:(L2 n i j).length=2*n:=by rw[hl2,List.length_set,hmlen]
     have k1:=ZrX (MID n i j) (L2 n i j) (2*j) (0+2*(j:Int)) (Zat t run (2*j) i) (2*(n:Int)) (by omega) (by rw[hmlen];omega) (by rw[hmlen];omega) (by rw[hmlen];omega) hl2
     have k2:=ZrX (L2 n i j) (MID n i (j+1)) (2*j+1) (0+(2*(j:Int)+1)) (Zat t run (2*j+1) i) (2*(n:Int)) (by omega) (by rw[hl2l];omega) (by rw[hl2l];omega) (by rw[hl2l];omega) h3.symm
     simp only[ZaM hnt]at k1 k2
     refine vS ?_
     refine Chk.mk (Qc) ?_
     simp only[e1]
     refine cL1 [3] (k1) fun r h₂ hp=>?_
     (try simp only[Zd,Zc,Ze,Zb,Za hnt]at hp)
     obtain rfl:=hp
     refine vS ?_
     try refine Chk.mk (Qc) ?_
     simp only[e2]
     refine cL1 [3] (k2) fun r h₂ hp=>?_
     (try simp only[Zd,Zc,Ze,Zb,Za hnt]at hp)
     obtain rfl:=hp
     refine wS ?_
     refine⟨j+1,by omega,by show n-(j+1)+0<n-j+0;omega,?_⟩
     exact ZJ
    ·simp only[decide_eq_false_iff_not]at hb2
     have hjn:j=n:=by omega
     subst hjn
     refine wS ?_
     refine⟨.bool fun _=>true,_,?_,rfl,rfl⟩
     refine toR ?_
     rw[hmend i]
     exact ZM.refl _
   ·intro v h hh
    obtain⟨m,hm,rfl⟩:=hh
    have hmN:m=Qe t:=by
     rcases hm with h|⟨_,_,_,h,_⟩
     ·exact h.1
     ·cases h
    refine wS ?_
    refine ZT false false [] [4,5,9,77,78] [.tok 2 fun _=>0,.tok 2 fun _=>0] (fun p:Nat×List Sp.Zcu×List Sp.Zcu=>[(78,.int .i64 fun _=>(p.1:Int)),(4,.isl 2 (fun _=>(p.2.1.length:Int)) (fun e=>Qs (nt Sp.Zcu default p.2.1 (e ()))) (.own 5)),(5,.isl 2 (fun _=>(p.2.2.length:Int)) (fun e=>Qs (nt Sp.Zcu default p.2.2 (e ()))) (.own 6))]) (fun p=>[(5,.tok 2 fun _=>(p.2.1.length:Int)),(6,.tok 2 fun _=>(p.2.2.length:Int))])
     (fun p=>p.1≤n∧p.2.1=(List.range p.1).map (fun a=>Zgi t run (2*a))∧p.2.2=(List.range p.1).map (fun a=>Zgi t run (2*a+1))) (fun p=>n-p.1+0) (0,[],[]) ⟨by omega,rfl,rfl⟩ ?_ ?_
    ·(refine To.of [(2,false),(2,false)] ?_;cbv;(try simp only[nc]);(repeat' (first|exact trivial|exact ZE.refl _|exact ZM.refl _|refine⟨?_,?_⟩|refine ZM.cells ?_|refine ZE.agg ?_|refine ZE.tup ?_));(all_goals (first|exact X3|skip)))
    intro p hp
    refine wS ?_
    refine⟨fun hb3=>?_,fun hb3=>?_⟩
    ·simp only[decide_eq_true_eq]at hb3
     have x1:=hXe m p.1 (by omega)
     have x2:=hXo m p.1 (by omega)
     have a1:=congrArg List.length hp.2.1
     have a2:=congrArg List.length hp.2.2
     rw[List.length_map,List.length_range]at a1 a2
     refine vS ?_
     refine Chk.mk (Qc) ?_
     refine⟨(p.1+1,p.2.1++[⟨(nt Wd default (MID n m 0) (0+2*(p.1:Int))).fr,(nt Wd default (MID n m 0) (0+2*(p.1:Int))).to_⟩],p.2.2++[⟨(nt Wd default (MID n m 0) (0+(2*(p.1:Int)+1))).fr,(nt Wd default (MID n m 0) (0+(2*(p.1:Int)+1))).to_⟩]),⟨by show p.1+1≤n;omega,?_,?_⟩,by show n-(p.1+1)+0<n-p.1+0;omega,?_⟩
     ·show p.2.1++_=_
      rw[List.range_succ,List.map_append,←hp.2.1,x1,hmN]
      rfl
     ·show p.2.2++_=_
      rw[List.range_succ,List.map_append,←hp.2.2,x2,hmN]
      rfl
     exact ZJ
    ·simp only[decide_eq_false_iff_not]at hb3
     have hpn:p.1=n:=by omega
     have r1:p.2.1=CL:=by rw[hp.2.1,hpn,hcl]
     have r2:p.2.2=GL:=by rw[hp.2.2,hpn,hgl]
     refine wS ?_
     rw[r1,r2]
     refine⟨_,[],?_,rfl,rfl⟩
     exact ZJ
 ·unfold QA at k
  rw[if_neg he]at k
  rw[if_pos he]at hE
  rw[hE]at k he
  rw[if_neg he,if_neg he]
  refine wS ?_
  refine ZoO (k) ?_
  refine wS ?_
  refine⟨fun h=>?_,fun h=>?_⟩
  ·refine wS ?_
   refine⟨_,[],?_,rfl,rfl⟩
   exact ZJ
  ·exact absurd (by simpa only[bne_eq_false_iff_eq]using h) he
end Go.Proofs.YtjgpiclllehgmaaGreat.Vm
namespace Go.Proofs.YtjgpiclllehgmaaGreat.Sp
def Yc (c:List (List Call)) (n:Int) (s:Step):Int:=
 if QQ s.run 0 (n-1)then 3
 else if ZN (c.getD s.run.toNat []) 0 s.from_<0∨ZN (c.getD s.run.toNat []) (ZN (c.getD s.run.toNat []) 0 s.from_+1) s.to_<0 then 3 else 0
def Q6 (c:List (List Call)) (n:Int) (a:Zs):Int:=
 if QQ a.from_ 0 9||(QQ a.goal 0 9||QQ a.since 0 43200)then 1
 else if 6<a.steps.length then 6
 else Zr (fun i=>Yc c n (a.steps.getD i default)) 0 a.steps.length
end Go.Proofs.YtjgpiclllehgmaaGreat.Sp
namespace Go.Proofs.YtjgpiclllehgmaaGreat.Vm
attribute [local irreducible] Dn
open Go Go.Proofs Sp
set_option maxRecDepth 100000
set_option maxHeartbeats 4000000
def Xc (s:Sp.Step):List AV:=[.int .i64 fun _=>s.run,.int .i64 fun _=>s.from_,.int .i64 fun _=>s.to_]
def ZX (a:Zs):AV:=.agg [.int .i64 fun _=>a.from_,.int .i64 fun _=>a.since,.int .i64 fun _=>a.goal,lst 3 Xc default a.steps]
theorem ZuM (t:Zf) (a:Zs) (hc:Zaq (callsOf t)) (hr:t.runs.length≤1000000) (ha:a.steps.length≤1000000):SC (fun _=>Tryz.prog) 162 [.iptr (ZR t) 0,ZX a] [] fun v h=>v= .int .i64 (fun _=>Q6 (callsOf t) t.runs.length a)∧h=[]:=by
 obtain⟨nt,hnt⟩:=Zp
 unfold ZR ZX
 simp only[Za hnt,Zb]
 refine SC.less (Qu Tryz.func162 (body:=Zj Tryz.f162) rfl (by decide+kernel) ?_)
 generalize hE:Q6 (callsOf t) t.runs.length a=e
 have hlen:t.runs.length=(callsOf t).length:=by unfold callsOf;rw[List.length_map]
 generalize hcc:callsOf t=c at*
 have hmem:∀i:Int,0≤i→i≤(t.runs.length:Int)-1→nt (List Sp.Call) [] c i∈c:=fun i h0 h1=>by
  have:i.toNat<c.length:=by omega
  rw[hnt,List.getD_eq_getElem?_getD,List.getElem?_eq_getElem this]
  exact List.getElem_mem _
 unfold Q6 at hE
 have k1:=Zb3 a.from_ 0 9
 have k2:=Zb3 a.goal 0 9
 have k3:=Zb3 a.since 0 43200
 generalize QQ a.from_ 0 9=b1 at*
 generalize QQ a.goal 0 9=b2 at*
 generalize QQ a.since 0 43200=b3 at*
 refine wS ?_
 refine ZoO (k1) ?_
 refine wS ?_
 cases b1
 case true=>
  rw[Bool.true_or,if_pos rfl]at hE
  subst hE
  refine Br.isF rfl ?_
  refine wS ?_
  refine Br.isF rfl ?_
  refine wS ?_
  refine Br.isT rfl ?_
  refine wS ?_
  refine⟨_,[],?_,rfl,rfl⟩
  exact ZJ
 refine Br.isT rfl ?_
 refine wS ?_
 refine ZoO (k2) ?_
 refine wS ?_
 cases b2
 case true=>
  rw[Bool.true_or,Bool.or_true,if_pos rfl]at hE
  subst hE
  refine Br.isF rfl ?_
  refine wS ?_
  refine Br.isT rfl ?_
  refine wS ?_
  refine⟨_,[],?_,rfl,rfl⟩
  exact ZJ
 refine Br.isT rfl ?_
 refine wS ?_
 refine ZoO (k3) ?_
 refine wS ?_
 cases b3
 case true=>
  rw[if_pos (show(false||(false||true))=true from rfl)]at hE
  subst hE
  refine Br.isT rfl ?_
  refine wS ?_
  refine⟨_,[],?_,rfl,rfl⟩
  exact ZJ
 rw[if_neg (show¬(false||(false||false))=true by decide)]at hE
 refine Br.isF rfl ?_
 refine wS ?_
 refine⟨fun h4=>?_,fun h4=>?_⟩
 ·have h4:=of_decide_eq_true h4
  rw[if_pos (by omega)]at hE
  subst hE
  refine wS ?_
  refine⟨_,[],?_,rfl,rfl⟩
  exact ZJ
 have h4:=of_decide_eq_false h4
 rw[if_neg (by omega)]at hE
 clear k1 k2 k3
 refine wS ?_
 refine ZT false false [] [0,29,30,31] [] (fun(i:Nat)=>[(31,.int .i64 fun _=>(i:Int))]) (fun _=>[]) (fun i=>i≤a.steps.length∧e=Zr (fun i=>Yc c t.runs.length (a.steps.getD i default)) i (a.steps.length-i)) (fun i=>a.steps.length-i+0) 0 ⟨by omega,hE.symm⟩ ?_ ?_
 ·exact ZJ
 rintro i ⟨hi,hp⟩
 refine wS ?_
 refine⟨fun hb=>?_,fun hb=>?_⟩
 case refine_2=>
  simp only[decide_eq_false_iff_not]at hb
  rw[XD (by omega)]at hp
  subst hp
  refine wS ?_
  refine⟨_,[],?_,rfl,rfl⟩
  exact ZJ
 simp only[decide_eq_true_eq]at hb
 rw[Xk (by omega)]at hp
 have hwe:Yc c t.runs.length (a.steps.getD i default)=Yc c t.runs.length (nt Step default a.steps i):=by rw[Jd hnt]
 rw[hwe]at hp
 generalize hd:nt Step default a.steps i=d at*
 refine vS ?_
 simp only[hd]
 refine Chk.mk (Qc) ?_
 have k5:=Zb3 d.run 0 ((t.runs.length:Int)-1)
 generalize hS:Yc c t.runs.length d=e5 at hp
 unfold Yc at hS
 rw[←hnt (List Sp.Call) [] c d.run]at hS
 refine ZoO (k5) ?_
 refine wS ?_
 refine⟨fun h5=>?_,fun h5=>?_⟩
 ·rw[if_pos h5]at hS
  subst hS
  rw[if_pos (by decide)]at hp
  subst hp
  refine wS ?_
  refine⟨_,[],?_,rfl,rfl⟩
  exact ZJ
 rw[if_neg (by rw[h5];exact Bool.false_ne_true)]at hS
 have b1:=Xn h5
 have m1:=hmem _ b1.1 b1.2
 refine vS ?_
 generalize hF:nt (List Sp.Call) [] c d.run=F at*
 have r1:=hc.row _ m1
 have q1:=ZlW F 0 d.from_ (by omega) (by omega)
 have s1:=JK F 0 d.from_
 have q2:=ZlW F (ZN F 0 d.from_+1) d.to_ (by omega) (by omega)
 simp only[Za hnt]at q1 q2
 try simp only[hF]
 try refine Chk.mk (Qc) ?_
 refine ZoO (q1) ?_
 generalize ZN F 0 d.from_=f at*
 refine vS ?_
 try simp only[hF]
 try refine Chk.mk (Qc) ?_
 refine⟨fun h6=>?_,fun h6=>?_⟩
 case refine_2=>
  have h6:f<0:=by simpa only[Bool.not_eq_false',decide_eq_true_eq]using h6
  rw[if_pos (.inl h6)]at hS
  subst hS
  rw[if_pos (by decide)]at hp
  subst hp
  refine wS ?_
  refine Br.isT (by simpa using h6) ?_
  refine wS ?_
  refine⟨_,[],?_,rfl,rfl⟩
  exact ZJ
 have h6:¬f<0:=by simpa only[Bool.not_eq_true',decide_eq_false_iff_not]using h6
 refine vS ?_
 try simp only[hF]
 try refine Chk.mk (Qc) ?_
 refine ZoO (q2) ?_
 generalize ZN F (f+1) d.to_=g at*
 refine wS ?_
 refine⟨fun h7=>?_,fun h7=>?_⟩
 ·have h7:g<0:=by
   cases hf0:decide (f<0)with
   |true=>exact absurd (of_decide_eq_true hf0) h6
   |false=>rw[hf0]at h7;exact of_decide_eq_true h7
  rw[if_pos (.inr h7)]at hS
  subst hS
  rw[if_pos (by decide)]at hp
  subst hp
  refine wS ?_
  refine⟨_,[],?_,rfl,rfl⟩
  exact ZJ
 have h7:¬g<0:=by
  cases hf0:decide (f<0)with
  |true=>exact absurd (of_decide_eq_true hf0) h6
  |false=>rw[hf0]at h7;exact of_decide_eq_false h7
 rw[if_neg (by omega)]at hS
 subst hS
 rw[if_neg (fun h=>h rfl)]at hp
 refine wS ?_
 refine⟨i+1,⟨by omega,hp⟩,by show a.steps.length-(i+1)+0<a.steps.length-i+0;omega,?_⟩
 exact ZJ
end Go.Proofs.YtjgpiclllehgmaaGreat.Vm
namespace Go.Proofs.YtjgpiclllehgmaaGreat.Sp
open Vm
def QI (a:Zs) (i:Nat):Step:=a.steps.getD i default
def JA (t:Zf) (s:Step):Int:=ZN (Zq (callsOf t) s.run) 0 s.from_
def Zh5 (t:Zf) (s:Step):Int:=ZN (Zq (callsOf t) s.run) (JA t s+1) s.to_
def Zez (t:Zf) (x:List Int) (a:Zs) (taken:List Int) (at_ now:Int) (i:Nat):Bool:=
 !taken.contains (i:Int)&&(decide ((QI a i).from_=at_)&&decide (now≤(ZY t x (QI a i).run (JA t (QI a i))).goes))
def Yy (t:Zf) (x:List Int) (a:Zs) (taken:List Int) (at_ now:Int):Nat→Nat→Option Nat
 |_,0=>none
 |i,n+1=>if Zez t x a taken at_ now i then some i else Yy t x a taken at_ now (i+1) n
def Jn (t:Zf) (x:List Int) (a:Zs):Nat→List Int→Int→Int→List Int×Int×Bool
 |0,l,_,_=>(l,0,false)
 |f+1,l,at_,now=>if at_=a.goal then(l,now,true)else match Yy t x a l at_ now 0 a.steps.length with
  |none=>(l,0,false)
  |some i=>Jn t x a f (l++[(i:Int)]) (QI a i).to_ (ZY t x (QI a i).run (Zh5 t (QI a i))).comes
def JQ (t:Zf) (x:List Int) (a:Zs):List Int×Int×Bool:=Jn t x a (a.steps.length+1) [] a.from_ a.since
def ZiA (a:Zs) (l:List Int):Nat:=((List.range a.steps.length).filter fun(i:Nat)=> !l.contains (i:Int)).length
theorem Zdr {α:Type} {p q:α→Bool} (hq:∀x,q x=true→p x=true):∀ {l:List α} {x:α},x∈l→p x=true→q x=false→(l.filter q).length<(l.filter p).length
 |a::l,x,hx,h1,h2=>by
  have hle:∀l:List α,(l.filter q).length≤(l.filter p).length:=fun l=>by
   induction l with
   |nil=>exact Nat.le_refl _
   |cons a l ih=>
    rw[List.filter_cons,List.filter_cons]
    cases h:q a with
    |true=>rw[hq a h];simpa using ih
    |false=>cases p a<;>simp<;>omega
  rw[List.filter_cons,List.filter_cons]
  rcases List.mem_cons.1 hx with rfl|hx
  ·rw[h1,h2]
   have:=hle l
   simp
   omega
  ·have ih:=Zdr hq hx h1 h2
   cases h:q a with
   |true=>rw[hq a h];simpa using ih
   |false=>cases p a<;>simp<;>omega
theorem Zqm {a:Zs} {l:List Int} {i:Nat} (hi:i<a.steps.length) (h:l.contains (i:Int)=false):ZiA a (l++[(i:Int)])<ZiA a l:=by
 refine Zdr (x:=i) (fun j hj=>?_) (List.mem_range.2 hi) (by rw[h];rfl) (by simp)
 simp only[Bool.not_eq_true',List.contains_eq_mem,List.mem_append,decide_eq_false_iff_not]at hj⊢
 exact fun h=>hj (.inl h)
theorem Zoc {a:Zs}:ZiA a []=a.steps.length:=by
 unfold ZiA
 rw[show(List.range a.steps.length).filter (fun(i:Nat)=> !([]:List Int).contains (i:Int))=List.range a.steps.length from List.filter_eq_self.2 fun _ _=>rfl,List.length_range]
theorem Zlc {t:Zf} {x:List Int} {a:Zs} {f:Nat} {l:List Int} {at_ now:Int} (hf:0<f) (h:at_=a.goal):Jn t x a f l at_ now=(l,now,true):=by
 cases f with
 |zero=>omega
 |succ f=>rw[Jn,if_pos h]
theorem Zlb {t:Zf} {x:List Int} {a:Zs} {f:Nat} {l:List Int} {at_ now:Int} (hf:0<f) (h:at_≠a.goal) (hn:Yy t x a l at_ now 0 a.steps.length=none):Jn t x a f l at_ now=(l,0,false):=by
 cases f with
 |zero=>omega
 |succ f=>rw[Jn,if_neg h,hn]
theorem Zla {t:Zf} {x:List Int} {a:Zs} {f:Nat} {l:List Int} {at_ now:Int} {i:Nat} (hf:0<f) (h:at_≠a.goal) (hn:Yy t x a l at_ now 0 a.steps.length=some i):
  Jn t x a f l at_ now=Jn t x a (f-1) (l++[(i:Int)]) (QI a i).to_ (ZY t x (QI a i).run (Zh5 t (QI a i))).comes:=by
 cases f with
 |zero=>omega
 |succ f=>rw[Jn,if_neg h,hn];rfl
theorem ZpZ {t:Zf} {a:Zs} (hf:ZH t) (h:Q6 (callsOf t) t.runs.length a=0) {i:Nat} (hi:i<a.steps.length):
  a.steps.length≤6∧StopIn (callsOf t) (QI a i).run (JA t (QI a i))∧StopIn (callsOf t) (QI a i).run (Zh5 t (QI a i)):=by
 have hlen:t.runs.length=(callsOf t).length:=by unfold callsOf;rw[List.length_map]
 unfold Q6 at h
 split at h
 ·cases h
 split at h
 ·cases h
 have h1:=Qd h i (by omega) (by omega)
 unfold Yc at h1
 split at h1
 ·cases h1
 split at h1
 ·cases h1
 rename_i h2 h3
 have hb:0≤(QI a i).run∧(QI a i).run≤(t.runs.length:Int)-1:=Xn (by cases hq:QQ (QI a i).run 0 ((t.runs.length:Int)-1)with|false=>rfl|true=>exact absurd hq h2)
 have f1:JA t (QI a i)<(Zq (callsOf t) (QI a i).run).length:=(JK _ _ _).1
 have f2:Zh5 t (QI a i)<(Zq (callsOf t) (QI a i).run).length:=(JK _ _ _).1
 change¬(JA t (QI a i)<0∨Zh5 t (QI a i)<0)at h3
 exact⟨by omega,⟨hb.1,by omega,by omega,f1⟩,hb.1,by omega,by omega,f2⟩
end Go.Proofs.YtjgpiclllehgmaaGreat.Sp
