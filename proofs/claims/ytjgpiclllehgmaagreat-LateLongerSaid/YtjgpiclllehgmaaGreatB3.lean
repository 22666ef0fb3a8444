/- Contracts of late: how a traveller goes on (travel). -/
import Derived.Maps.RangeRun
import Derived.Test.YtjgpiclllehgmaaGreatB2
import Derived.Test.YtjgpiclllehgmaaGreatB1
import Derived.Test.YtjgpiclllehgmaaGreatM5
import Derived.Test.YtjgpiclllehgmaaGreatB0
set_option linter.all false
namespace Go.Proofs.YtjgpiclllehgmaaGreat.Vm
attribute [local irreducible] Dn
open Go Go.Proofs Sp
set_option maxRecDepth 100000
set_option maxHeartbeats 4000000
theorem Zuh {rd:Bool} {nb:Nat} {K:Ex→List AV→List Zi→Cd→Prop} {k:List Item} {s:List AV} {h:List Zi} {ι:Type} (L:List Nat) (n:Nat) (S:ι→List AV) (Hp:ι→List Zi) (inv:ι→Prop) (μ:ι→Nat) (i:ι)
  (hi:inv i) (hn:Z8 n h.length=true) (h0:Z8 nb n=true) (hto:To (trimS n h (Vm.keep L s)) (Vm.sel true (List.range n) h) (S i) (Hp i))
  (step:∀i,inv i→(∀j,inv j→μ j<μ i→HP rd nb (fun _=>Tryz.prog) k K (S j) (Hp j))→HP rd nb (fun _=>Tryz.prog) k K (S i) (Hp i)):HP rd nb (fun _=>Tryz.prog) k K s h:=by
 have key:∀(m:Nat) (i:ι),μ i<m→inv i→HP rd nb (fun _=>Tryz.prog) k K (S i) (Hp i):=by
  intro m
  induction m with
  |zero=>intro i h;omega
  |succ m ih=>exact fun i hm hi=>step i hi fun j hj hlt=>ih j (by omega) hj
 exact ZbC L n hn h0 hto (key (μ i+1) i (Nat.lt_succ_self _) hi)
theorem ZoY {rd:Bool} {nb:Nat} {K:Ex→List AV→List Zi→Cd→Prop} {k:List Item} {s:List AV} {h:List Zi} {ι:Type} (L:List Nat) (n:Nat) (ex:List Zi) (ch:ι→List (Nat×AV)) (hc:ι→List (Nat×Zi)) (inv:ι→Prop) (μ:ι→Nat) (i:ι)
  (hi:inv i) (hn:Z8 n h.length=true) (h0:Z8 nb n=true) (hto:To (trimS n h (Vm.keep L s)) (Vm.sel true (List.range n) h) (Y3 (Vm.keep L s) (ch i)) (X8 (Vm.sel true (List.range n) h++ex) (hc i)))
  (step:∀i,inv i→(∀j,inv j→μ j<μ i→HP rd nb (fun _=>Tryz.prog) k K (Y3 (Vm.keep L s) (ch j)) (X8 (Vm.sel true (List.range n) h++ex) (hc j)))→HP rd nb (fun _=>Tryz.prog) k K (Y3 (Vm.keep L s) (ch i)) (X8 (Vm.sel true (List.range n) h++ex) (hc i))):HP rd nb (fun _=>Tryz.prog) k K s h:=
 Zuh L n (fun i=>Y3 (Vm.keep L s) (ch i)) (fun i=>X8 (Vm.sel true (List.range n) h++ex) (hc i)) inv μ i hi hn h0 hto step
theorem ZqB (tk:List Int→Int→Bool) {l:List Int} {e:Int} {i:Nat} (he:e=i) (hi:i<6):Ziw [fun _=>tk l 0,fun _=>tk l 1,fun _=>tk l 2,fun _=>tk l 3,fun _=>tk l 4,fun _=>tk l 5] e=tk l (i:Int):=by
 subst he
 match i,hi with
 |0,_=>rfl
 |1,_=>rfl
 |2,_=>rfl
 |3,_=>rfl
 |4,_=>rfl
 |5,_=>rfl
theorem ZqA {tk:List Int→Int→Bool} (htk:∀l i,tk l i=l.contains i) {l:List Int} {e:Int} {i j:Nat} (he:e=i):(bif decide (e=(j:Int))then true else tk l (j:Int))=tk (l++[(i:Int)]) (j:Int):=by
 subst he
 rw[htk,htk]
 by_cases h:(i:Int)=j
 ·rw[decide_eq_true h,h]
  simp
 ·rw[decide_eq_false h]
  have h':¬(j:Int)=i:=fun e=>h e.symm
  simp[h']
theorem Zl4 {t:Ze} {x:List Int} {a:ZF} {l:List Int} {at_ now:Int} {i n:Nat} (h:0<n):YD t x a l at_ now i n=if ZeO t x a l at_ now i then some i else YD t x a l at_ now (i+1) (n-1):=by
 cases n with
 |zero=>omega
 |succ n=>rfl
theorem ZvC (t:Ze) (x:List Int) (a:ZF) (hf:ZJ t) (hx:Ja t x) (ha:YW (callsOf t) t.runs.length a=0):SC (fun _=>Tryz.prog) 115 [.iptr (ZX t) 0,XV a,.imap 2 3 fun _=>Ql t x] [] fun v h=>
  v= .tup [lst 1 XJ 0 (J0 t x a).1,.int .i64 fun _=>(J0 t x a).2.1,.bool fun _=>(J0 t x a).2.2]∧h=[]:=by
 obtain⟨nt,hnt⟩:=Zu
 have hok:=fun i h=> @ZqF t a hf ha i h
 have hlk:=fun r k (h:StopIn (callsOf t) r k)=> @Zar t x r k h
 have hrow:=fun r k (h:StopIn (callsOf t) r k)=>(Jw hf.calls h).2.2
 have hgoal:=fun f l at_ now=> @ZlH t x a f l at_ now
 have hnone:=fun f l at_ now=> @ZlG t x a f l at_ now
 have hsome:=fun f l at_ now i=> @ZlF t x a f l at_ now i
 have hbd:=fun r k (h:StopIn (callsOf t) r k)=>ZhU hf x h
 obtain⟨tk,htk⟩:∃tk:List Int→Int→Bool,∀l i,tk l i=l.contains i:=⟨fun l i=>l.contains i,fun _ _=>rfl⟩
 have hla:a.steps.length≤6:=by
  by_cases h:0<a.steps.length
  ·exact(hok 0 h).1
  ·omega
 have hnil:= @ZoQ a
 have hlt:=fun l i h=> @Zq3 a l i h
 have hR0:Jv t x a (a.steps.length+1) [] a.from_ a.since=J0 t x a:=rfl
 generalize J0 t x a=R at*
 generalize hG:Jv t x a=G at*
 generalize ZiW a=LN at*
 generalize Ql t x=HL at*
 unfold ZX XV
 simp only[Za hnt,Zb,XR]
 refine SC.less (Zte false false [] [3] true 0 Tryz.func115 (body:=Zk Tryz.f115) rfl (by decide+kernel) rfl ?_)
 refine wS ?_
 refine ZoY [0,2,4,6,9,10,11] 2 [.tok 1 fun _=>0] (fun p:List Int×Int×Int×Nat=>[(6,.isl 1 (fun _=>(p.1.length:Int)) (fun e=>XJ (nt Int 0 p.1 (e ()))) (.own 2)),(9,.int .i64 fun _=>p.2.1),(10,.int .i64 fun _=>p.2.2.1)])
  (fun p=>[(1,.cells [.bool fun _=>tk p.1 0,.bool fun _=>tk p.1 1,.bool fun _=>tk p.1 2,.bool fun _=>tk p.1 3,.bool fun _=>tk p.1 4,.bool fun _=>tk p.1 5]),(2,.tok 1 fun _=>(p.1.length:Int))])
  (fun p=>LN p.1<p.2.2.2∧p.1.length+LN p.1≤a.steps.length∧G p.2.2.2 p.1 p.2.1 p.2.2.1=R) (fun p=>LN p.1) ([],a.from_,a.since,a.steps.length+1) ⟨by show LN []<_;rw[hnil];exact Nat.lt_succ_self _,by show 0+LN []≤_;omega,hR0⟩ rfl rfl ?_ ?_
 ·(refine To.of [(1,false)] ?_;cbv;(try simp only[nc]);(repeat' (first|exact trivial|exact ZH.refl _|exact ZR.refl _|refine⟨?_,?_⟩|refine ZR.cells ?_|refine ZH.agg ?_|refine ZH.tup ?_));(all_goals (first|exact XZ|skip)))
  all_goals exact .bool (by rw[htk];rfl)
 intro p hp ih
 refine Zej false false [] [] true ?_
 refine wS ?_
 refine⟨fun h1=>?_,fun h1=>?_⟩
 ·have h1:p.2.1=a.goal:=eq_of_beq h1
  have hr:=hp.2.2
  rw[hgoal _ _ _ _ (by have:=hp.1;omega) h1]at hr
  subst hr
  refine wS ?_
  refine⟨_,[],?_,rfl,rfl⟩
  exact ZK
 have h1:p.2.1≠a.goal:=ne_of_beq_false h1
 refine wS ?_
 refine ZoY [0,2,4,6,9,10,11,27,28,29] 3 [] (fun i:Nat=>[(29,.int .i64 fun _=>(i:Int))]) (fun _=>[]) (fun i=>i≤a.steps.length∧YD t x a p.1 p.2.1 p.2.2.1 0 a.steps.length=YD t x a p.1 p.2.1 p.2.2.1 i (a.steps.length-i)) (fun i=>a.steps.length-i) 0 ⟨by omega,rfl⟩ rfl rfl ?_ ?_
 ·exact ZK
 intro i hi ih2
 refine Zej false false [] [] true ?_
 refine wS ?_
 refine⟨fun h2=>?_,fun h2=>?_⟩
 case refine_2=>
  simp only[decide_eq_false_iff_not]at h2
  have hn:=hi.2
  rw[show a.steps.length-i=0 by omega,YD]at hn
  have hr:=hp.2.2
  rw[hnone _ _ _ _ (by have:=hp.1;omega) h1 hn]at hr
  subst hr
  refine wS ?_
  refine⟨_,[],?_,rfl,rfl⟩
  exact ZK
 simp only[decide_eq_true_eq]at h2
 have hil:i<a.steps.length:=by omega
 have hns:= @Zl4 t x a p.1 p.2.1 p.2.2.1 i (a.steps.length-i) (by omega)
 have hcan:ZeO t x a p.1 p.2.1 p.2.2.1 i=(!tk p.1 (i:Int)&&(decide ((QI a i).from_=p.2.1)&&decide (p.2.2.1≤(ZU t x (QI a i).run (JG t (QI a i))).goes))):=by rw[htk];rfl
 have hok:=hok i hil
 have hsm:=hsome p.2.2.2 p.1 p.2.1 p.2.2.1 i (by have:=hp.1;omega) h1
 have hlt:=hlt p.1 i hil
 have e1:= @ZqB tk p.1 i i rfl (by omega)
 have hro:=hrow _ _ hok.2.1
 have hl1:=hlk _ _ hok.2.1
 have hl2:=hlk _ _ hok.2.2
 have hb1:=hbd _ _ hok.2.1
 have hst:QI a i=nt Sp.Step default a.steps i:=by rw[hnt];rfl
 rw[hst]at hcan hok hsm hro hl1 hl2 hb1
 have hin:=hok.2.1
 have hin2:=hok.2.2
 unfold StopIn at hin hin2
 rw[Xm hnt]at hro hin hin2
 have hfo:Zo (nt (List Sp.Call) [] (callsOf t) (nt Sp.Step default a.steps i).run) 0 (nt Sp.Step default a.steps i).from_=JG t (nt Sp.Step default a.steps i):=by unfold JG;rw[Xm hnt]
 have hto:Zo (nt (List Sp.Call) [] (callsOf t) (nt Sp.Step default a.steps i).run) (JG t (nt Sp.Step default a.steps i)+1) (nt Sp.Step default a.steps i).to_=Zio t (nt Sp.Step default a.steps i):=by unfold Zio;rw[Xm hnt]
 have k450:=Zmx (nt (List Sp.Call) [] (callsOf t) (nt Sp.Step default a.steps i).run) 0 (nt Sp.Step default a.steps i).from_ (by omega) (by omega)
 have k450b:=Zmx (nt (List Sp.Call) [] (callsOf t) (nt Sp.Step default a.steps i).run) (JG t (nt Sp.Step default a.steps i)+1) (nt Sp.Step default a.steps i).to_ (by omega) (by omega)
 rw[hfo]at k450
 rw[hto]at k450b
 simp only[Za hnt]at k450 k450b
 generalize hd:nt Sp.Step default a.steps i=d at*
 refine vS ?_
 simp only[hd,e1]
 refine Chk.mk (Qd) ?_
 refine⟨fun h3=>?_,fun h3=>?_⟩
 ·have hcf:ZeO t x a p.1 p.2.1 p.2.2.1 i=false:=by
   rw[hcan]
   cases hc:tk p.1 (i:Int)with
   |true=>rfl
   |false=>
    rw[hc]at h3
    have h3:(d.from_ !=p.2.1)=true:=h3
    rw[decide_eq_false (by simpa using h3)]
    rfl
  rw[hcf]at hns
  refine wS ?_
  refine ZbC [0,2,4,6,9,10,11,27,28,29] 3 rfl rfl ?_ (ih2 (i+1) ⟨by omega,?_⟩ (by show a.steps.length-(i+1)<a.steps.length-i;omega))
  ·exact ZK
  ·rw[hi.2,hns,if_neg Bool.false_ne_true,show a.steps.length-i-1=a.steps.length-(i+1) by omega]
 have hc:tk p.1 (i:Int)=false∧d.from_=p.2.1:=by
  cases hc:tk p.1 (i:Int)with
  |true=>rw[hc]at h3;cases h3
  |false=>
   rw[hc]at h3
   have h3:(d.from_ !=p.2.1)=false:=h3
   exact⟨rfl,by simpa using h3⟩
 rw[hc.1]at hcan
 rw[decide_eq_true hc.2]at hcan
 generalize hF:nt (List Sp.Call) [] (callsOf t) d.run=F at*
 generalize JG t d=fo at*
 generalize Zio t d=to at*
 have hg:((List.lookup [d.run,fo] (HL)).getD []).tail.tail.headD 0=(ZU t x d.run fo).goes:=by rw[hl1];rfl
 have hcm:((List.lookup [d.run,to] (HL)).getD []).headD 0=(ZU t x d.run to).comes:=by rw[hl2];rfl
 generalize (ZU t x d.run fo).goes=gs at*
 generalize (ZU t x d.run to).comes=cs at*
 refine vS ?_
 simp only[hF]
 refine Chk.mk (Qd) ?_
 refine ZY (k450) (by first|rfl|(simp only[Zd,Zc,Zf,Zb,Za hnt];rfl)) fun r h₂ hp=>?_
 (try simp only[Zd,Zc,Zf,Zb,Za hnt]at hp)
 obtain⟨rfl,rfl⟩:=hp
 refine vS ?_
 simp only[hg]
 try refine Chk.mk (Qd) ?_
 refine⟨fun h4=>?_,fun h4=>?_⟩
 ·have h4:=of_decide_eq_true h4
  rw[decide_eq_false (by omega)]at hcan
  rw[hcan]at hns
  refine wS ?_
  refine ZbC [0,2,4,6,9,10,11,27,28,29] 3 rfl rfl ?_ (ih2 (i+1) ⟨by omega,?_⟩ (by show a.steps.length-(i+1)<a.steps.length-i;omega))
  ·exact ZK
  ·rw[hi.2,hns,show a.steps.length-i-1=a.steps.length-(i+1) by omega]
   rfl
 have h4:=of_decide_eq_false h4
 rw[decide_eq_true (by omega)]at hcan
 rw[hcan]at hns
 have hsm:=hsm (by rw[hi.2,hns];rfl)
 have hlt:=hlt (by rw[←htk];exact hc.1)
 refine wS ?_
 refine ZY (k450b) (by first|rfl|(simp only[Zd,Zc,Zf,Zb,Za hnt];rfl)) fun r h₂ hp=>?_
 (try simp only[Zd,Zc,Zf,Zb,Za hnt]at hp)
 obtain⟨rfl,rfl⟩:=hp
 refine vS ?_
 simp only[hcm]
 try refine Chk.mk (Qd) ?_
 refine Zej false false [] [3] true ?_
 refine wS ?_
 refine ZbC [0,2,4,6,9,10,11] 3 rfl rfl ?_ (ih (p.1++[(i:Int)],d.to_,cs,p.2.2.2-1) ⟨?_,?_,?_⟩ hlt)
 ·(refine To.of [] ?_;cbv;(try simp only[nc]);(repeat' (first|exact trivial|exact ZH.refl _|exact ZR.refl _|refine⟨?_,?_⟩|refine ZR.cells ?_|refine ZH.agg ?_|refine ZH.tup ?_));(all_goals (first|exact XZ|skip)))
  all_goals exact .bool (ZqA htk rfl)
 ·show LN (p.1++[(i:Int)])<p.2.2.2-1
  have:=hp.1
  omega
 ·show(p.1++[(i:Int)]).length+LN (p.1++[(i:Int)])≤a.steps.length
  have:=hp.2.1
  rw[List.length_append]
  show p.1.length+1+_≤_
  omega
 ·show G (p.2.2.2-1) (p.1++[(i:Int)]) d.to_ cs=R
  rw[←hsm]
  exact hp.2.2
end Go.Proofs.YtjgpiclllehgmaaGreat.Vm
namespace Go.Proofs.YtjgpiclllehgmaaGreat.Sp
open Vm
def wdS (stop:Nat→Bool) (f:Nat→Int):Nat→Wd
 |0=>⟨0,0,false⟩
 |n+1=>if stop n then wdS stop f n else(wdS stop f n).add (f n)
def Zh1 (t:Ze) (a:ZF) (i:Nat):Bool:=(J0 t (Zm t i) a).2.2
def ZdM (t:Ze) (a:ZF) (i:Nat):Int:=(J0 t (Zm t i) a).2.1
def Xy (t:Ze) (a:ZF):Bool:=(List.range (Z7 t)).all (Zh1 t a)
def Xz (t:Ze) (a:ZF):Za5:=if Xy t a then⟨(Jd (ZdM t a) (Z7 t)).fr,(Jd (ZdM t a) (Z7 t)).to_⟩else⟨0,0⟩
theorem ZmW {stop:Nat→Bool} {f:Nat→Int}:∀(n:Nat),(∀j,j<n→stop j=false)→wdS stop f n=Jd f n
 |0,_=>rfl
 |n+1,h=>by
  rw[wdS,if_neg (by rw[h n (by omega)];exact Bool.false_ne_true),ZmW n fun j hj=>h j (by omega)]
  rfl
end Go.Proofs.YtjgpiclllehgmaaGreat.Sp
namespace Go.Proofs.YtjgpiclllehgmaaGreat.Vm
attribute [local irreducible] Dn
open Go Go.Proofs Sp
set_option maxRecDepth 100000
set_option maxHeartbeats 4000000
theorem ZuH (t:Ze) (a:ZF) (hw:ZJ t) (ha:YW (callsOf t) t.runs.length a=0):SC (fun _=>Tryz.prog) 99 [.iptr (ZX t) 0,XV a] [] fun v h=>
  v= .tup [.agg (YL (Xz t a)),.bool fun _=>Xy t a]∧h=[]:=by
 obtain⟨nt,hnt⟩:=Zu
 have k415:=fun i=>ZvC t (Zm t i) a hw (Yj hw i) ha
 have k382:=Zrp t
 have k435:=fun B0 B1 B2 B3 B4 B5 stop=>Zrn t hw B0 B1 B2 B3 B4 B5 stop
 obtain⟨ST,hST⟩:∃s:Nat→Bool,∀i,s i= !Zh1 t a i:=⟨_,fun _=>rfl⟩
 obtain⟨WD,hWD⟩:∃w:Nat→Wd,∀i,w i=wdS ST (ZdM t a) i:=⟨_,fun _=>rfl⟩
 have hW0:WD 0=⟨0,0,false⟩:=by rw[hWD];rfl
 have hWS:∀i,ST i=true→WD (i+1)=WD i:=fun i h=>by rw[hWD,hWD,wdS,if_pos h]
 have hWN:∀i,ST i=false→WD (i+1)=(WD i).add (ZdM t a i):=fun i h=>by rw[hWD,hWD,wdS,if_neg (by rw[h];exact Bool.false_ne_true)]
 have hci:∀i,(J0 t (Zm t i) a).2.2=Zh1 t a i:=fun _=>rfl
 have hca:∀i,(J0 t (Zm t i) a).2.1=ZdM t a i:=fun _=>rfl
 have hall:(∀j,j<Z7 t→ST j=false)→Xy t a=true∧Xz t a=⟨(WD (Z7 t)).fr,(WD (Z7 t)).to_⟩:=fun h=>by
  have h1:Xy t a=true:=List.all_eq_true.2 fun j hj=>by
   have:=h j (List.mem_range.1 hj)
   rw[hST]at this
   simpa using this
  refine⟨h1,?_⟩
  unfold Xz
  rw[if_pos h1,hWD,ZmW _ h]
 have hnot:∀j,j<Z7 t→ST j=true→Xy t a=false∧Xz t a=⟨0,0⟩:=fun j hj h=>by
  have h1:Xy t a=false:=by
   cases hc:Xy t a with
   |false=>rfl
   |true=>
    have:=List.all_eq_true.1 hc j (List.mem_range.2 hj)
    rw[hST,this]at h
    cases h
  refine⟨h1,?_⟩
  unfold Xz
  rw[if_neg (by rw[h1];exact Bool.false_ne_true)]
 simp only[hci,hca]at k415
 generalize Xz t a=AS at*
 generalize Xy t a=CA at*
 generalize hTR:J0 t=TR at*
 generalize Zm t=TA at*
 generalize Ql t=HL at*
 generalize Zh1 t a=CI at*
 generalize ZdM t a=CT at*
 unfold X0 ZX XV at*
 simp only[Za hnt,Zb,ZB,XR]at*
 refine SC.less (Qv Tryz.func99 (body:=Zk Tryz.f99) rfl (by decide+kernel) ?_)
 refine wS ?_
 refine ZY (k382) (by first|rfl|(simp only[Zd,Zc,Zf,Zb,Za hnt];rfl)) fun r h₂ hp=>?_
 (try simp only[Zd,Zc,Zf,Zb,Za hnt]at hp)
 obtain⟨rfl,rfl⟩:=hp
 refine wS ?_
 refine Zfe [2,3,4,5,6,13] [] [(4,.cells [.int .i64 fun _=>(WD 0).fr,.int .i64 fun _=>(WD 0).to_,.bool fun _=>(WD 0).some_])] (fid:=135) (first:=[]) ?_ rfl ?_ ?_
 ·rw[hW0]
  exact ZK
 ·exact XL
 refine SC.mono (k435 (fun _=>_) (fun _=>_) (fun _=>_) (fun _=>_) (fun i=>.cells [.int .i64 fun _=>(WD i).fr,.int .i64 fun _=>(WD i).to_,.bool fun _=>(WD i).some_]) (fun i=>.loop _ ⟨_,_,_,bif QF ST i then .done else .ready,bif QF ST i then some .ret else none⟩) ST ?_ ?_ ?_ ?_ ?_ ?_ ?_) ?_
 iterate 6 exact fun i=>Qy.of rfl
 ·intro i hi hno
  have hst:QF ST i=false:=by
   cases i with
   |zero=>rfl
   |succ j=>exact hno j (by omega)
  simp only[hst,cond_false]
  refine YC.less (Zct false false [] rfl rfl ?_)
  refine wS ?_
  refine ZY (k415 i) (by first|rfl|(simp only[Zd,Zc,Zf,Zb,Za hnt];rfl)) fun r h₂ hp=>?_
  (try simp only[Zd,Zc,Zf,Zb,Za hnt]at hp)
  obtain⟨rfl,rfl⟩:=hp
  refine wS ?_
  refine⟨fun h1=>?_,fun h1=>?_⟩
  ·have hs:ST i=true:=by rw[hST];exact h1
   have hs2:QF ST (i+1)=true:=hs
   refine wS ?_
   simp only[hs2,cond_true,hWS i hs]
   refine⟨.bool fun _=> !ST i,_,?_,rfl,rfl⟩
   refine JO ?_
   exact .bool (by rw[hs];rfl)
  ·have hs:ST i=false:=by rw[hST];exact h1
   have hs2:QF ST (i+1)=false:=hs
   have k:=ZuJ (WD i) (CT i)
   rw[←hWN i hs]at k
   unfold Yv at k
   refine wS ?_
   refine cL1 [4] (k) fun r h₂ hp=>?_
   (try simp only[Zd,Zc,Zf,Zb,Za hnt]at hp)
   obtain rfl:=hp
   refine wS ?_
   simp only[hs2,cond_false]
   refine⟨.bool fun _=> !ST i,_,?_,rfl,rfl⟩
   refine JO ?_
   exact .bool (by rw[hs];rfl)
 ·intro v h hh
  obtain⟨m,hm,rfl⟩:=hh
  unfold YL
  rcases hm with⟨hm,hno⟩|⟨j,hm,hj,hst,hno⟩
  ·have hst:QF ST m=false:=by
    cases m with
    |zero=>rfl
    |succ j=>exact hno j (by omega)
   have hA:=hall fun j hj=>hno j (by omega)
   rw[←hm]at hA
   simp only[hst,cond_false]
   refine wS ?_
   rw[hA.1,hA.2]
   refine⟨_,[],?_,rfl,rfl⟩
   exact ZK
  ·have hst2:QF ST m=true:=by rw[hm];exact hst
   have hA:=hnot j hj hst
   simp only[hst2,cond_true]
   refine wS ?_
   rw[hA.1,hA.2]
   refine⟨_,[],?_,rfl,rfl⟩
   exact ZK
theorem Zvx {nt:(α:Type)→α→List α→Int→α} (hnt:∀(α:Type) (d:α) (l:List α) (i:Int),nt α d l i=l.getD i.toNat d) (l:List Sp.ZM) (hl:0<l.length∧l.length≤1000000):SC (fun _=>Tryz.prog) 152 [lst 4 QR default l] [] fun v h=>v= .gsl 0 (fun _=>(l.length:Int))∧h=[.gar 4 (fun _=>(l.length:Int)) (fun e=>QR (nt Sp.ZM default l (e ())))]:=by
 simp only[Za hnt]
 refine SC.less (Zpi true false [] Tryz.func152 (body:=Zk Tryz.f152) rfl (by decide+kernel) ?_)
 refine wS ?_
 refine Br.isF rfl ?_
 refine wS ?_
 refine⟨_,_,?_,rfl,rfl⟩
 refine JO ?_
 exact .gar (by simp) fun i hi=>by rw[Xk (len:=0) rfl (Nat.zero_le _)];rfl
def Zz (t:Ze) (w n:Int):Ze:={t with waits:=t.waits.set w.toNat {t.waits.getD w.toNat default with minutes:=n}}
theorem Ztj (t:Ze) (w n:Int) (hf:Xj t) (hw:0≤w∧w<t.waits.length):SC (fun _=>Tryz.prog) 100 [Zf t,.int .i64 fun _=>w,.int .i64 fun _=>n] [] fun v h=>v=Zf (Zz t w n)∧h=[]:=by
 obtain⟨nt,hnt⟩:=Zu
 have hwl:=hf.waits
 have k:=Zvx hnt t.waits ⟨by omega,by omega⟩
 obtain⟨t2,ht2⟩:∃t2,t2=Zz t w n:=⟨_,rfl⟩
 have hlen:t2.waits.length=t.waits.length:=by rw[ht2];unfold Zz;simp
 have hrow:∀i:Nat,i<t.waits.length→[AV.int .i64 fun _=>(nt Sp.ZM default t.waits (i:Int)).feeder,.int .i64 fun _=>(nt Sp.ZM default t.waits (i:Int)).train,.int .i64 fun _=>(nt Sp.ZM default t.waits (i:Int)).station,.int .i64 fun _=>bif decide ((i:Int)=w)then n else(nt Sp.ZM default t.waits (i:Int)).minutes]=QR (nt Sp.ZM default t2.waits (i:Int)):=fun i hi=>by
  have e:nt Sp.ZM default t2.waits (i:Int)=if(i:Int)=w then {nt Sp.ZM default t.waits (i:Int)with minutes:=n}else nt Sp.ZM default t.waits (i:Int):=by
   rw[hnt,hnt,Int.toNat_natCast,ht2]
   show(t.waits.set w.toNat _).getD i default=_
   by_cases h:(i:Int)=w
   ·subst h
    rw[if_pos rfl,Int.toNat_natCast,Vm.Zek _ _ _ _ hi]
   ·rw[if_neg h,Vm.ZbD _ _ _ _ _ (by omega)]
  rw[e]
  by_cases h:(i:Int)=w
  ·rw[if_pos h,decide_eq_true h];rfl
  ·rw[if_neg h,decide_eq_false h];rfl
 have hb:t2.book=t.book:=by rw[ht2];rfl
 have hr:t2.runs=t.runs:=by rw[ht2];rfl
 have hd:t2.delays=t.delays:=by rw[ht2];rfl
 rw[←ht2]
 unfold Zf
 rw[hb,hr,hd]
 simp only[Za hnt]at k⊢
 refine SC.less (Zpi false false [] Tryz.func100 (body:=Zk Tryz.f100) rfl (by decide+kernel) ?_)
 refine wS ?_
 refine cL1 [] (k) fun r h₂ hp=>?_
 (try simp only[Zd,Zc,Zf,Zb,Za hnt]at hp)
 obtain⟨rfl,rfl⟩:=hp
 refine wS ?_
 refine⟨_,[],?_,rfl,rfl⟩
 refine JO ?_
 exact .gd (by simp) (.none (by show(t.waits.length:Int)=t2.waits.length;rw[hlen]) fun i hi=>hrow i (by have:(i:Int)<t.waits.length:=hi;omega))
theorem QK {n k s:Nat} {m:Unit→Int} {g:(Unit→Int)→List AV} {n0:Unit→Int} {f:(Unit→Int)→List AV} {m':Unit→Int} (h0:n0 ()=0) (hm:m' ()=m ()):ZH n k (.isl s m' (QL n0 f g) .none) (.isl s m g .none):=
 .isl hm fun i hi=>by
  show(if(i:Int)<n0 ()then _ else _)=_
  rw[if_neg (by omega)]
  have e:(fun _:Unit=>(i:Int)-n0 ())=fun _=>(i:Int):=funext fun _=>by omega
  rw[e]
theorem ZuA (l:List Chg) (hl:l.length≤1000000):SC (fun _=>Tryz.prog) 155 [lst 2 JI default l] [] fun v h=>v=lst 2 JI default l∧h=[]:=by
 obtain⟨nt,hnt⟩:=Zu
 simp only[Za hnt]
 by_cases h0:l=[]
 ·subst h0
  refine SC.nilOr rfl ?_ ?_
  ·refine SC.less (Qv Tryz.func155 (body:=Zk Tryz.f155) rfl (by decide+kernel) ?_)
   refine wS ?_
   refine Br.isT rfl ?_
   refine wS ?_
   refine⟨_,_,?_,rfl,rfl⟩
   exact ZK
  ·refine SC.less (Qv Tryz.func155 (body:=Zk Tryz.f155) rfl (by decide+kernel) ?_)
   refine wS ?_
   refine Br.isF rfl ?_
   refine wS ?_
   refine⟨_,_,?_,rfl,rfl⟩
   refine JO ?_
   exact QK rfl (by simp)
 ·have hp:0<l.length:=List.length_pos_iff.2 h0
  refine SC.less (Qv Tryz.func155 (body:=Zk Tryz.f155) rfl (by decide+kernel) ?_)
  refine wS ?_
  refine Br.isF rfl ?_
  refine wS ?_
  refine⟨_,_,?_,rfl,rfl⟩
  refine JO ?_
  exact QK rfl (by simp)
theorem Zuw (l:List Stop) (hl:l.length≤1000000):SC (fun _=>Tryz.prog) 158 [lst 4 Qz default l] [] fun v h=>v=lst 4 Qz default l∧h=[]:=by
 obtain⟨nt,hnt⟩:=Zu
 simp only[Za hnt]
 by_cases h0:l=[]
 ·subst h0
  refine SC.nilOr rfl ?_ ?_
  ·refine SC.less (Qv Tryz.func158 (body:=Zk Tryz.f158) rfl (by decide+kernel) ?_)
   refine wS ?_
   refine Br.isT rfl ?_
   refine wS ?_
   refine⟨_,_,?_,rfl,rfl⟩
   exact ZK
  ·refine SC.less (Qv Tryz.func158 (body:=Zk Tryz.f158) rfl (by decide+kernel) ?_)
   refine wS ?_
   refine Br.isF rfl ?_
   refine wS ?_
   refine⟨_,_,?_,rfl,rfl⟩
   refine JO ?_
   exact QK rfl (by simp)
 ·have hp:0<l.length:=List.length_pos_iff.2 h0
  refine SC.less (Qv Tryz.func158 (body:=Zk Tryz.f158) rfl (by decide+kernel) ?_)
  refine wS ?_
  refine Br.isF rfl ?_
  refine wS ?_
  refine⟨_,_,?_,rfl,rfl⟩
  refine JO ?_
  exact QK rfl (by simp)
theorem Zus (l:List Int) (hl:l.length≤1000000):SC (fun _=>Tryz.prog) 161 [lst 1 XJ 0 l] [] fun v h=>v=lst 1 XJ 0 l∧h=[]:=by
 obtain⟨nt,hnt⟩:=Zu
 simp only[Za hnt]
 by_cases h0:l=[]
 ·subst h0
  refine SC.nilOr rfl ?_ ?_
  ·refine SC.less (Qv Tryz.func161 (body:=Zk Tryz.f161) rfl (by decide+kernel) ?_)
   refine wS ?_
   refine Br.isT rfl ?_
   refine wS ?_
   refine⟨_,_,?_,rfl,rfl⟩
   exact ZK
  ·refine SC.less (Qv Tryz.func161 (body:=Zk Tryz.f161) rfl (by decide+kernel) ?_)
   refine wS ?_
   refine Br.isF rfl ?_
   refine wS ?_
   refine⟨_,_,?_,rfl,rfl⟩
   refine JO ?_
   exact QK rfl (by simp)
 ·have hp:0<l.length:=List.length_pos_iff.2 h0
  refine SC.less (Qv Tryz.func161 (body:=Zk Tryz.f161) rfl (by decide+kernel) ?_)
  refine wS ?_
  refine Br.isF rfl ?_
  refine wS ?_
  refine⟨_,_,?_,rfl,rfl⟩
  refine JO ?_
  exact QK rfl (by simp)
theorem Zuv (l:List Sp.Qi) (hl:l.length≤1000000):SC (fun _=>Tryz.prog) 159 [lst 2 Zh default l] [] fun v h=>v=lst 2 Zh default l∧h=[]:=by
 obtain⟨nt,hnt⟩:=Zu
 simp only[Za hnt]
 by_cases h0:l=[]
 ·subst h0
  refine SC.nilOr rfl ?_ ?_
  ·refine SC.less (Qv Tryz.func159 (body:=Zk Tryz.f159) rfl (by decide+kernel) ?_)
   refine wS ?_
   refine Br.isT rfl ?_
   refine wS ?_
   refine⟨_,_,?_,rfl,rfl⟩
   exact ZK
  ·refine SC.less (Qv Tryz.func159 (body:=Zk Tryz.f159) rfl (by decide+kernel) ?_)
   refine wS ?_
   refine Br.isF rfl ?_
   refine wS ?_
   refine⟨_,_,?_,rfl,rfl⟩
   refine JO ?_
   exact QK rfl (by simp)
 ·have hp:0<l.length:=List.length_pos_iff.2 h0
  refine SC.less (Qv Tryz.func159 (body:=Zk Tryz.f159) rfl (by decide+kernel) ?_)
  refine wS ?_
  refine Br.isF rfl ?_
  refine wS ?_
  refine⟨_,_,?_,rfl,rfl⟩
  refine JO ?_
  exact QK rfl (by simp)
theorem ZuC (l:List Sp.ZM) (hl:l.length≤1000000):SC (fun _=>Tryz.prog) 152 [lst 4 QR default l] [] fun v h=>v=lst 4 QR default l∧h=[]:=by
 obtain⟨nt,hnt⟩:=Zu
 simp only[Za hnt]
 by_cases h0:l=[]
 ·subst h0
  refine SC.nilOr rfl ?_ ?_
  ·refine SC.less (Qv Tryz.func152 (body:=Zk Tryz.f152) rfl (by decide+kernel) ?_)
   refine wS ?_
   refine Br.isT rfl ?_
   refine wS ?_
   refine⟨_,_,?_,rfl,rfl⟩
   exact ZK
  ·refine SC.less (Qv Tryz.func152 (body:=Zk Tryz.f152) rfl (by decide+kernel) ?_)
   refine wS ?_
   refine Br.isF rfl ?_
   refine wS ?_
   refine⟨_,_,?_,rfl,rfl⟩
   refine JO ?_
   exact QK rfl (by simp)
 ·have hp:0<l.length:=List.length_pos_iff.2 h0
  refine SC.less (Qv Tryz.func152 (body:=Zk Tryz.f152) rfl (by decide+kernel) ?_)
  refine wS ?_
  refine Br.isF rfl ?_
  refine wS ?_
  refine⟨_,_,?_,rfl,rfl⟩
  refine JO ?_
  exact QK rfl (by simp)
theorem Zux (l:List Train) (hl:l.length≤1000000):SC (fun _=>Tryz.prog) 157 [lst 3 encTrain default l] [] fun v h=>v=lst 3 encTrain default l∧h=[]:=by
 obtain⟨nt,hnt⟩:=Zu
 simp only[Za hnt]
 by_cases h0:l=[]
 ·subst h0
  refine SC.nilOr rfl ?_ ?_
  ·refine SC.less (Qv Tryz.func157 (body:=Zk Tryz.f157) rfl (by decide+kernel) ?_)
   refine wS ?_
   refine Br.isT rfl ?_
   refine wS ?_
   refine⟨_,_,?_,rfl,rfl⟩
   exact ZK
  ·refine SC.less (Qv Tryz.func157 (body:=Zk Tryz.f157) rfl (by decide+kernel) ?_)
   refine wS ?_
   refine Br.isF rfl ?_
   refine wS ?_
   refine⟨_,_,?_,rfl,rfl⟩
   refine JO ?_
   exact QK rfl (by simp)
 ·have hp:0<l.length:=List.length_pos_iff.2 h0
  refine SC.less (Qv Tryz.func157 (body:=Zk Tryz.f157) rfl (by decide+kernel) ?_)
  refine wS ?_
  refine Br.isF rfl ?_
  refine wS ?_
  refine⟨_,_,?_,rfl,rfl⟩
  refine JO ?_
  exact QK rfl (by simp)
theorem Zut (l:List Sp.Qj) (hl:l.length≤1000000):SC (fun _=>Tryz.prog) 160 [lst 3 ZB default l] [] fun v h=>v=lst 3 ZB default l∧h=[]:=by
 obtain⟨nt,hnt⟩:=Zu
 simp only[Za hnt]
 by_cases h0:l=[]
 ·subst h0
  refine SC.nilOr rfl ?_ ?_
  ·refine SC.less (Qv Tryz.func160 (body:=Zk Tryz.f160) rfl (by decide+kernel) ?_)
   refine wS ?_
   refine Br.isT rfl ?_
   refine wS ?_
   refine⟨_,_,?_,rfl,rfl⟩
   exact ZK
  ·refine SC.less (Qv Tryz.func160 (body:=Zk Tryz.f160) rfl (by decide+kernel) ?_)
   refine wS ?_
   refine Br.isF rfl ?_
   refine wS ?_
   refine⟨_,_,?_,rfl,rfl⟩
   refine JO ?_
   exact QK rfl (by simp)
 ·have hp:0<l.length:=List.length_pos_iff.2 h0
  refine SC.less (Qv Tryz.func160 (body:=Zk Tryz.f160) rfl (by decide+kernel) ?_)
  refine wS ?_
  refine Br.isF rfl ?_
  refine wS ?_
  refine⟨_,_,?_,rfl,rfl⟩
  refine JO ?_
  exact QK rfl (by simp)
theorem ZuB {nt:(α:Type)→α→List α→Int→α} (hnt:∀(α:Type) (d:α) (l:List α) (i:Int),nt α d l i=l.getD i.toNat d) (l:List Zone) (hl:0<l.length∧l.length≤1000000):SC (fun _=>Tryz.prog) 154 [lst 2 encZone default l] [] fun v h=>v= .gsl 0 (fun _=>(l.length:Int))∧h=[.gar 2 (fun _=>(l.length:Int)) (fun e=>encZone (nt Zone default l (e ())))]:=by
 simp only[Za hnt]
 refine SC.less (Zpi true false [] Tryz.func154 (body:=Zk Tryz.f154) rfl (by decide+kernel) ?_)
 refine wS ?_
 refine Br.isF rfl ?_
 refine wS ?_
 refine⟨_,_,?_,rfl,rfl⟩
 refine JO ?_
 exact .gar (by simp) fun i hi=>by rw[Xk (len:=0) rfl (Nat.zero_le _)];rfl
theorem Zuy {nt:(α:Type)→α→List α→Int→α} (hnt:∀(α:Type) (d:α) (l:List α) (i:Int),nt α d l i=l.getD i.toNat d) (l:List Train) (hl:0<l.length∧l.length≤1000000):SC (fun _=>Tryz.prog) 157 [lst 3 encTrain default l] [] fun v h=>v= .gsl 0 (fun _=>(l.length:Int))∧h=[.gar 3 (fun _=>(l.length:Int)) (fun e=>encTrain (nt Train default l (e ())))]:=by
 simp only[Za hnt]
 refine SC.less (Zpi true false [] Tryz.func157 (body:=Zk Tryz.f157) rfl (by decide+kernel) ?_)
 refine wS ?_
 refine Br.isF rfl ?_
 refine wS ?_
 refine⟨_,_,?_,rfl,rfl⟩
 refine JO ?_
 exact .gar (by simp) fun i hi=>by rw[Xk (len:=0) rfl (Nat.zero_le _)];rfl
theorem Zuu {nt:(α:Type)→α→List α→Int→α} (hnt:∀(α:Type) (d:α) (l:List α) (i:Int),nt α d l i=l.getD i.toNat d) (l:List Sp.Qj) (hl:0<l.length∧l.length≤1000000):SC (fun _=>Tryz.prog) 160 [lst 3 ZB default l] [] fun v h=>v= .gsl 0 (fun _=>(l.length:Int))∧h=[.gar 3 (fun _=>(l.length:Int)) (fun e=>ZB (nt Sp.Qj default l (e ())))]:=by
 simp only[Za hnt]
 refine SC.less (Zpi true false [] Tryz.func160 (body:=Zk Tryz.f160) rfl (by decide+kernel) ?_)
 refine wS ?_
 refine Br.isF rfl ?_
 refine wS ?_
 refine⟨_,_,?_,rfl,rfl⟩
 refine JO ?_
 exact .gar (by simp) fun i hi=>by rw[Xk (len:=0) rfl (Nat.zero_le _)];rfl
end Go.Proofs.YtjgpiclllehgmaaGreat.Vm
namespace Go.Proofs.YtjgpiclllehgmaaGreat.Vm
open Go Go.Proofs Sp
set_option maxRecDepth 100000
set_option maxHeartbeats 800000
theorem Zdo {z:Zone} (h:Zx z=0):(ZV z).length≤4∧∀p∈ZV z,0≤p.fr∧p.fr≤43200∧0≤p.bef∧p.bef≤1099511627776∧-1000000≤p.ahd∧p.ahd≤1000000:=by
 have hs:=Zaf h
 have hl:=Zal z.chs 0 z.base
 have h3:z.chs.length≤3:=by
  unfold Zx at h
  split at h
  ·cases h
  ·split at h
   ·cases h
   ·omega
 have hat:∀c∈z.chs,0≤c.at_∧c.at_≤43200:=by
  unfold Zx at h
  split at h
  ·cases h
  ·split at h
   ·cases h
   ·have key:∀(l:List Chg) (p:Option Int),YS p l=0→∀c∈l,0≤c.at_∧c.at_≤43200:=by
     intro l
     induction l with
     |nil=>intro p _ c hc;cases hc
     |cons a l ih=>
      intro p hp c hc
      rw[Yw]at hp
      split at hp
      ·cases hp
      rename_i h3
      split at hp
      ·cases hp
      split at hp
      ·cases hp
      rcases List.mem_cons.1 hc with rfl|hc
      ·simp[Yz]at h3
       omega
      ·exact ih _ hp c hc
    exact key _ _ h
 refine⟨by unfold ZV;omega,?_⟩
 have key:∀(l:List Chg) (fr a:Int),(∀c∈l,0≤c.at_∧c.at_≤43200)→0≤fr∧fr≤43200→∀p∈QN fr a l,0≤p.fr∧p.fr≤43200∧0≤p.bef∧p.bef≤1099511627776:=by
  intro l
  induction l with
  |nil=>intro fr a _ hf p hp;simp[QN,Xo]at hp;subst hp;simp;omega
  |cons c l ih=>
   intro fr a hc hf p hp
   have h1:=hc c (List.mem_cons_self ..)
   simp only[QN]at hp
   split at hp
   ·rcases List.mem_cons.1 hp with rfl|hp
    ·simp;omega
    ·exact ih _ _ (fun x hx=>hc x (List.mem_cons_of_mem _ hx)) h1 p hp
   ·exact ih _ _ (fun x hx=>hc x (List.mem_cons_of_mem _ hx)) h1 p hp
 intro p hp
 have h1:=key z.chs 0 z.base hat (by omega) p hp
 have h2:=(Jm hs).2.2 p hp
 omega
end Go.Proofs.YtjgpiclllehgmaaGreat.Vm
namespace Go.Proofs.YtjgpiclllehgmaaGreat.Sp
open Vm
theorem ZeK:∀ {l:List Pc} {r a:Int},(∀p∈l,p.bef≤1099511627776)→0≤a∧a≤1099511627776→a≤QY l r a∧QY l r a≤1099511627776
 |[],r,a,_,h=>by unfold QY Xo;exact⟨h.2,Int.le_refl _⟩
 |p::l,r,a,hl,h=>by
  unfold QY
  have hp:=hl p (List.mem_cons_self ..)
  split
  ·omega
  ·exact ZeK (fun q hq=>hl q (List.mem_cons_of_mem _ hq)) h
theorem ZcD {zs:List Zone} (hz:∀z∈zs,Zx z=0) {day:Int} {many:Nat}:∀(S:List Stop) (i:Nat) (now:Int),0≤now∧now≤1099511627776→(∀s∈S,0≤s.zone∧s.zone<zs.length)→∀c∈Qg zs day many i now S,0≤c.arrive∧c.arrive≤c.depart∧c.depart≤1099511627776
 |[],_,_,_,_,c,hc=>by unfold Qg at hc;cases hc
 |s::r,i,now,hn,hs,c,hc=>by
  have hzs:=hs s (List.mem_cons_self ..)
  have hzm:zs.getD s.zone.toNat default∈zs:=by rw[List.getD_eq_getElem?_getD,List.getElem?_eq_getElem (by omega)];exact List.getElem_mem _
  have hp:=fun p hp=>((Zdo (hz _ hzm)).2 p hp).2.2.2.1
  have hr:=fun q hq=>hs q (List.mem_cons_of_mem _ hq)
  unfold Qg at hc
  split at hc
  ·have hd:0≤(if i+1<many then QY (ZV (zs.getD s.zone.toNat default)) (1440*day+s.depart) now else 0)∧(if i+1<many then QY (ZV (zs.getD s.zone.toNat default)) (1440*day+s.depart) now else 0)≤1099511627776:=by
    split
    ·have:=ZeK (r:=1440*day+s.depart) hp hn
     omega
    ·omega
   rcases List.mem_cons.1 hc with rfl|hc
   ·exact⟨hd.1,Int.le_refl _,hd.2⟩
   ·exact ZcD hz r _ _ hd hr c hc
  ·have ha:=ZeK (r:=1440*day+s.arrive) hp hn
   have hd:QY (ZV (zs.getD s.zone.toNat default)) (1440*day+s.arrive) now≤(if i+1<many then QY (ZV (zs.getD s.zone.toNat default)) (1440*day+s.depart) (QY (ZV (zs.getD s.zone.toNat default)) (1440*day+s.arrive) now)else QY (ZV (zs.getD s.zone.toNat default)) (1440*day+s.arrive) now)∧
     (if i+1<many then QY (ZV (zs.getD s.zone.toNat default)) (1440*day+s.depart) (QY (ZV (zs.getD s.zone.toNat default)) (1440*day+s.arrive) now)else QY (ZV (zs.getD s.zone.toNat default)) (1440*day+s.arrive) now)≤1099511627776:=by
    split
    ·exact ZeK hp ⟨by omega,ha.2⟩
    ·exact⟨Int.le_refl _,ha.2⟩
   rcases List.mem_cons.1 hc with rfl|hc
   ·exact⟨by show 0≤QY _ _ _;omega,hd⟩
   ·exact ZcD hz r _ _ ⟨by omega,hd.2⟩ hr c hc
theorem ZsV {b:XE} (h:Zk0 b) {t:Train} {day:Int} (ht:t∈QE b day):Zdc b.zones.length t:=by
 unfold QE at ht
 split at ht
 ·exact h.old t ht
 ·exact h.new t ht
theorem ZsY {b:XE} {n d:Int} (h:(JX b n d).2=0):∀c∈(JX b n d).1,0≤c.arrive∧c.arrive≤c.depart∧c.depart≤1099511627776:=by
 unfold JX at*
 split
 ·intro c hc;cases hc
 rename_i h0
 split
 ·intro c hc;cases hc
 split
 ·intro c hc;cases hc
 rename_i h1
 split
 ·intro c hc;cases hc
 have hok:=Zb8 (Decidable.of_not_not h0)
 have hlt:(place (QE b d) n).toNat<(QE b d).length:=by
  have:=Xb (q:=fun t:Train=>decide (t.number=n)) (l:=QE b d) (i:=0) (by omega)
  unfold place at*
  omega
 have hm:(QE b d).getD (place (QE b d) n).toNat default∈QE b d:=by
  rw[List.getD_eq_getElem?_getD,List.getElem?_eq_getElem hlt]
  exact List.getElem_mem _
 exact ZcD hok.zones _ 0 0 ⟨by omega,by omega⟩ fun s hs=>((ZsV hok hm).stops s hs).zone
theorem ZfD {α:Type} {q:α→Bool} {d:α}:∀ {l:List α} {i:Int} {k:Nat},k<l.length→q (l.getD k d)=true→i≤Zn q i l∧Zn q i l≤i+k
 |[],_,k,h,_=>by simp at h
 |x::r,i,0,_,hq=>by
  have hx:q x=true:=hq
  rw[Zn,if_pos hx]
  omega
 |x::r,i,k+1,h,hq=>by
  rw[Zn]
  split
  ·omega
  ·have:=ZfD (l:=r) (i:=i+1) (k:=k) (by simpa using h) hq
   omega
theorem QH {t:Ze} (h:Zl t=0):ZJ t:=by
 unfold Zl at h
 split at h
 ·exact absurd h (by assumption)
 split at h
 ·exact absurd h (by assumption)
 rename_i h0 h1
 split at h
 ·cases h
 split at h
 ·exact absurd h (by assumption)
 rename_i h2 h3
 split at h
 ·cases h
 rename_i h4
 have hr:=Decidable.of_not_not h1
 have hw:=Z4 (Decidable.of_not_not h3)
 have hd:=Z4 h
 have hcf:=ZdN hr
 have hlen:t.runs.length=(callsOf t).length:=by unfold callsOf;rw[List.length_map]
 have hrun:∀r:Int,0≤r→r<(callsOf t).length→(∀c∈Zj (callsOf t) r,0≤c.arrive∧c.arrive≤c.depart∧c.depart≤1099511627776)∧Xn (Zj (callsOf t) r)=0:=fun r h1 h2=>by
  unfold Q6 at hr
  split at hr
  ·cases hr
  split at hr
  ·cases hr
  have h3:=Z4 hr r.toNat (by omega) (by omega)
  have e:Zj (callsOf t) r=Zai t (t.runs.getD r.toNat default):=by
   unfold Zj callsOf
   rw[List.getD_eq_getElem?_getD,List.getElem?_map,List.getD_eq_getElem?_getD,List.getElem?_eq_getElem (by omega)]
   rfl
  rw[e]
  unfold ZaJ at h3
  split at h3
  ·exact absurd h3 (by assumption)
  rename_i h4
  split at h3
  ·cases h3
  rename_i h5
  exact⟨ZsY (Decidable.of_not_not h4),Decidable.of_not_not h5⟩
 have hmem:∀r a,StopIn (callsOf t) r a→Zt (callsOf t) r a∈Zj (callsOf t) r:=fun r a hs=>by
  unfold Zt
  rw[List.getD_eq_getElem?_getD,List.getElem?_eq_getElem (by have:=hs.2.2.2;have:=hs.2.2.1;omega)]
  exact List.getElem_mem _
 have hasc:∀r a,StopIn (callsOf t) r a→0<a→(Zt (callsOf t) r (a-1)).depart<(Zt (callsOf t) r a).arrive:=fun r a hs ha=>by
  have h1:=(hrun r hs.1 hs.2.1).2
  have h2:=hs.2.2.2
  have h3:=Z4 h1 a.toNat (by omega) (by omega)
  unfold Jn at h3
  split at h3
  ·cases h3
  rename_i h4
  unfold Zt
  rw[show(a-1).toNat=a.toNat-1 by omega]
  omega
 refine⟨hcf,fun r a hs=>(hrun r hs.1 hs.2.1).1 _ (hmem r a hs),hasc,by omega,by omega,fun w hwm=>?_,fun d hdm=>?_⟩
 ·obtain⟨i,hi,he⟩:=Y6 (d:=default) hwm
  have h5:=hw i (by omega) (by omega)
  rw[he]at h5
  unfold Qt at h5
  split at h5
  ·cases h5
  rename_i g1
  split at h5
  ·cases h5
  split at h5
  ·cases h5
  rename_i g3
  split at h5
  ·cases h5
  rename_i g4
  split at h5
  ·cases h5
  rename_i g5
  have b1:0≤w.feeder∧w.feeder≤((callsOf t).length:Int)-1:=QO (by cases hq:Qs w.feeder 0 ((callsOf t).length-1)with|false=>rfl|true=>exact absurd (by rw[hq];rfl) g1)
  have b4:=QO (by simpa using g4)
  have s1:=XF (Zj (callsOf t) w.feeder) 1 w.station
  have hc1:1≤ZA (Zj (callsOf t) w.feeder) w.station:=by
   have:¬ZA (Zj (callsOf t) w.feeder) w.station<0:=fun h=>g3 (.inl h)
   unfold ZA at*
   omega
  refine⟨b1.1,by omega,hc1,b4.1,b4.2,fun a hs hne hst=>?_⟩
  have hg:0≤Zr (Zj (callsOf t) w.train) w.station:=by
   have:¬Zr (Zj (callsOf t) w.train) w.station<0:=fun h=>g3 (.inr h)
   omega
  have hge:Zr (Zj (callsOf t) w.train) w.station=Zo (Zj (callsOf t) w.train) 0 w.station:=by
   unfold Zr at*
   split at hg
   ·rw[if_pos (by assumption)]
   ·omega
  have hle:Zo (Zj (callsOf t) w.train) 0 w.station≤a:=by
   have:=ZfD (q:=fun c:Call=>decide (c.station=w.station)) (d:=default) (l:=Zj (callsOf t) w.train) (i:=0) (k:=a.toNat) (by have:=hs.2.2.2;have:=hs.2.2.1;omega) (decide_eq_true hst)
   have h0:=hs.2.2.1
   unfold Zo
   rw[show max 0 (0:Int)=0 from rfl,show(0:Int).toNat=0 from rfl,List.drop_zero]
   omega
  have hmono:∀(n:Nat) (g:Int),0≤g→StopIn (callsOf t) w.train (g+n)→(Zt (callsOf t) w.train g).depart≤(Zt (callsOf t) w.train (g+n)).depart:=by
   intro n
   induction n with
   |zero=>intro g _ _;rw[show g+((0:Nat):Int)=g by omega];exact Int.le_refl _
   |succ n ih=>
    intro g h0 hin
    have hp:StopIn (callsOf t) w.train (g+n):=⟨hin.1,hin.2.1,by omega,by have:=hin.2.2.2;omega⟩
    have h1:=ih g h0 hp
    have h2:=hasc w.train (g+((n+1:Nat):Int)) hin (by omega)
    rw[show g+((n+1:Nat):Int)-1=g+n by omega]at h2
    have h3:=((hrun w.train hin.1 hin.2.1).1 _ (hmem _ _ hin)).2.1
    omega
  have hm:=hmono (a-Zo (Zj (callsOf t) w.train) 0 w.station).toNat (Zo (Zj (callsOf t) w.train) 0 w.station) (by omega) (by rw[show Zo (Zj (callsOf t) w.train) 0 w.station+((a-Zo (Zj (callsOf t) w.train) 0 w.station).toNat:Int)=a by omega];exact hs)
  rw[show Zo (Zj (callsOf t) w.train) 0 w.station+((a-Zo (Zj (callsOf t) w.train) 0 w.station).toNat:Int)=a by omega]at hm
  have g6:¬(Zt (callsOf t) w.train (Zr (Zj (callsOf t) w.train) w.station)).depart<(Zt (callsOf t) w.feeder (ZA (Zj (callsOf t) w.feeder) w.station)).arrive:=g5
  rw[hge]at g6
  omega
 ·obtain⟨i,hi,he⟩:=Y6 (d:=default) hdm
  have h5:=hd i (by omega) (by omega)
  rw[he]at h5
  unfold QJ at h5
  split at h5
  ·cases h5
  split at h5
  ·cases h5
  rename_i g2
  split at h5
  ·cases h5
  rename_i g3
  split at h5
  ·exact absurd h5 (by assumption)
  rename_i g4
  have g4:=Z4 (Decidable.of_not_not g4)
  refine⟨by omega,by omega,fun n hn=>?_⟩
  obtain⟨k,hk,he⟩:=Y6 (d:=0) hn
  have h6:=g4 k (by omega) (by omega)
  unfold Zgr at h6
  rw[he]at h6
  split at h6
  ·cases h6
  rename_i h7
  exact QO (by simpa using h7)
end Go.Proofs.YtjgpiclllehgmaaGreat.Sp
namespace Go.Proofs.YtjgpiclllehgmaaGreat.Vm
attribute [local irreducible] Dn
open Go Go.Proofs Sp
set_option maxRecDepth 100000
set_option maxHeartbeats 4000000
theorem ZlI {nt:(α:Type)→α→List α→Int→α} (hnt:∀(α:Type) (d:α) (l:List α) (i:Int),nt α d l i=l.getD i.toNat d) (t:Train):encTrain t=[.int .i64 fun _=>t.number,.int .i64 fun _=>t.days,.isl 4 (fun _=>(t.stops.length:Int)) (fun e=>Qz (nt Stop default t.stops (e ()))) .none]:=by
 unfold encTrain
 rw[Za hnt]
theorem Zuz (l:List Train) (hl:l.length≤1000000) (hs:∀t∈l,t.stops.length≤1000000):SC (fun _=>Tryz.prog) 156 [lst 3 encTrain default l] [] fun v h=>v=lst 3 encTrain default l∧h=[]:=by
 obtain⟨nt,hnt⟩:=Zu
 have kE:=Zux l hl
 have kG:=fun h=>Zuy hnt l ⟨h,hl⟩
 have kS:=fun(i:Nat) (hi:i<l.length)=>Zuw (nt Train default l i).stops (hs _ (QQ (d:=default) hnt (l:=l) (i:=i) (by omega)))
 simp only[Za hnt,ZlI hnt]at*
 by_cases h0:l=[]
 ·subst h0
  refine SC.less (Qv Tryz.func156 (body:=Zk Tryz.f156) rfl (by decide+kernel) ?_)
  refine wS ?_
  refine Zpt (kE) ?_
  refine wS ?_
  refine ZS false false [] [0,7,8] [] (fun(i:Nat)=>[(8,.int .i64 fun _=>(i:Int))]) (fun _=>[]) (fun i=>i=0) (fun i=>0) 0 rfl ?_ ?_
  ·exact ZK
  intro i hi
  have hi:i=0:=hi
  subst hi
  refine wS ?_
  refine Br.isF rfl ?_
  refine wS ?_
  refine⟨_,_,?_,rfl,rfl⟩
  exact ZK
 ·have hp:0<l.length:=List.length_pos_iff.2 h0
  have kG:=kG hp
  refine SC.less (Qv Tryz.func156 (body:=Zk Tryz.f156) rfl (by decide+kernel) ?_)
  refine wS ?_
  refine cL1 [] (kG) fun r h₂ hp=>?_
  (try simp only[Zd,Zc,Zf,Zb,Za hnt]at hp)
  obtain⟨rfl,rfl⟩:=hp
  refine wS ?_
  refine ZS false false [] [0,7,8] [] (fun(i:Nat)=>[(8,.int .i64 fun _=>(i:Int))]) (fun _=>[]) (fun i=>i≤l.length) (fun i=>l.length-i+0) 0 (Nat.zero_le _) ?_ ?_
  ·exact ZK
  intro i hi
  have hi:i≤l.length:=hi
  refine wS ?_
  refine⟨fun hb=>?_,fun hb=>?_⟩
  ·simp only[decide_eq_true_eq]at hb
   have kS:=kS i (by omega)
   refine wS ?_
   refine Zpt (kS) ?_
   refine wS ?_
   refine⟨i+1,by show i+1≤_;omega,by show l.length-(i+1)+0<l.length-i+0;omega,?_⟩
   (refine To.of [] ?_;cbv;(try simp only[nc]);(repeat' (first|exact trivial|exact ZH.refl _|exact ZR.refl _|refine⟨?_,?_⟩|refine ZR.cells ?_|refine ZH.agg ?_|refine ZH.tup ?_));(all_goals (first|exact XZ|skip)))
   refine .gar rfl fun x hx=>?_
   by_cases h:(x:Int)=(i:Int)
   ·obtain rfl:x=i:=by omega
    simp only[decide_true]
    rfl
   ·simp only[decide_eq_false h]
    rfl
  ·refine wS ?_
   refine⟨_,_,?_,rfl,rfl⟩
   exact ZK
theorem ZmR {nt:(α:Type)→α→List α→Int→α} (hnt:∀(α:Type) (d:α) (l:List α) (i:Int),nt α d l i=l.getD i.toNat d) (z:Zone):encZone z=[.int .i64 fun _=>z.base,.isl 2 (fun _=>(z.chs.length:Int)) (fun e=>JI (nt Chg default z.chs (e ()))) .none]:=by
 unfold encZone
 rw[Za hnt]
theorem Zmt {nt:(α:Type)→α→List α→Int→α} (hnt:∀(α:Type) (d:α) (l:List α) (i:Int),nt α d l i=l.getD i.toNat d) (z:Sp.Qj):ZB z=[.int .i64 fun _=>z.run,.int .i64 fun _=>z.leg,.isl 1 (fun _=>(z.by_.length:Int)) (fun e=>XJ (nt Int 0 z.by_ (e ()))) .none]:=by
 unfold ZB
 rw[Za hnt]
theorem ZvF (t:Ze) (hf:Xj t) (hz:0<t.book.zones.length):SC (fun _=>Tryz.prog) 111 [Zf t] [] fun v h=>v=Zf t∧h=[]:=by
 obtain⟨nt,hnt⟩:=Zu
 have hzl:=hf.book.zones
 have kZ:=ZuB hnt t.book.zones ⟨hz,hf.book.zones⟩
 have kC:=fun(i:Nat) (hi:i<t.book.zones.length)=>ZuA (nt Zone default t.book.zones i).chs (hf.book.chs _ (QQ (d:=default) hnt (l:=t.book.zones) (i:=i) (by omega)))
 have kO:=Zuz t.book.old hf.book.old hf.book.stops.1
 have kN:=Zuz t.book.new hf.book.new hf.book.stops.2
 have kR:=Zuv t.runs hf.runs
 have kW:=ZuC t.waits hf.waits
 have kE:=Zut t.delays hf.delays
 have kG:=fun h=>Zuu hnt t.delays ⟨h,hf.delays⟩
 have kB:=fun(i:Nat) (hi:i<t.delays.length)=>Zus (nt Sp.Qj default t.delays i).by_ (hf.bys _ (QQ (d:=default) hnt (l:=t.delays) (i:=i) (by omega)))
 have hdl:=hf.delays
 unfold Zf
 simp only[Za hnt,ZmR hnt,Zmt hnt]at*
 refine SC.less (Qv Tryz.func111 (body:=Zk Tryz.f111) rfl (by decide+kernel) ?_)
 refine wS ?_
 refine cL1 [] (kZ) fun r h₂ hp=>?_
 (try simp only[Zd,Zc,Zf,Zb,Za hnt]at hp)
 obtain⟨rfl,rfl⟩:=hp
 refine wS ?_
 refine ZS false false [] [1,2,16,17] [] (fun(i:Nat)=>[(17,.int .i64 fun _=>(i:Int))]) (fun _=>[]) (fun i=>i≤t.book.zones.length) (fun i=>t.book.zones.length-i+0) 0 (Nat.zero_le _) ?_ ?_
 ·exact ZK
 intro i hi
 have hi:i≤t.book.zones.length:=hi
 refine wS ?_
 refine⟨fun hb=>?_,fun hb=>?_⟩
 ·simp only[decide_eq_true_eq]at hb
  have kC:=kC i (by omega)
  refine wS ?_
  refine Zpt (kC) ?_
  refine wS ?_
  refine⟨i+1,by show i+1≤_;omega,by show t.book.zones.length-(i+1)+0<t.book.zones.length-i+0;omega,?_⟩
  (refine To.of [] ?_;cbv;(try simp only[nc]);(repeat' (first|exact trivial|exact ZH.refl _|exact ZR.refl _|refine⟨?_,?_⟩|refine ZR.cells ?_|refine ZH.agg ?_|refine ZH.tup ?_));(all_goals (first|exact XZ|skip)))
  refine .gar rfl fun x hx=>?_
  by_cases h:(x:Int)=(i:Int)
  ·obtain rfl:x=i:=by omega
   simp only[decide_true]
   rfl
  ·simp only[decide_eq_false h]
   rfl
 clear kC kZ
 refine wS ?_
 refine Zpt (kO) ?_
 refine wS ?_
 refine Zpt (kN) ?_
 refine wS ?_
 refine Zpt (kR) ?_
 refine wS ?_
 refine Zpt (kW) ?_
 refine wS ?_
 by_cases h0:t.delays=[]
 ·have hl0:t.delays.length=0:=by rw[h0];rfl
  refine Zpt (kE) ?_
  refine wS ?_
  refine ZS false false [] [1,2,62,63] [] (fun(i:Nat)=>[(63,.int .i64 fun _=>(i:Int))]) (fun _=>[]) (fun i=>i=0) (fun i=>0) 0 rfl ?_ ?_
  ·exact ZK
  intro i hi
  have hi:i=0:=hi
  subst hi
  refine wS ?_
  refine Br.isF (decide_eq_false (by omega)) ?_
  refine wS ?_
  refine⟨_,_,?_,rfl,rfl⟩
  exact ZK
 ·have hp:0<t.delays.length:=List.length_pos_iff.2 h0
  have kG:=kG hp
  refine cL1 [] (kG) fun r h₂ hp=>?_
  (try simp only[Zd,Zc,Zf,Zb,Za hnt]at hp)
  obtain⟨rfl,rfl⟩:=hp
  refine wS ?_
  refine ZS false false [] [1,2,62,63] [] (fun(i:Nat)=>[(63,.int .i64 fun _=>(i:Int))]) (fun _=>[]) (fun i=>i≤t.delays.length) (fun i=>t.delays.length-i+0) 0 (Nat.zero_le _) ?_ ?_
  ·exact ZK
  intro i hi
  have hi:i≤t.delays.length:=hi
  refine wS ?_
  refine⟨fun hb=>?_,fun hb=>?_⟩
  ·simp only[decide_eq_true_eq]at hb
   have kB:=kB i (by omega)
   refine wS ?_
   refine Zpt (kB) ?_
   refine wS ?_
   refine⟨i+1,by show i+1≤_;omega,by show t.delays.length-(i+1)+0<t.delays.length-i+0;omega,?_⟩
   (refine To.of [] ?_;cbv;(try simp only[nc]);(repeat' (first|exact trivial|exact ZH.refl _|exact ZR.refl _|refine⟨?_,?_⟩|refine ZR.cells ?_|refine ZH.agg ?_|refine ZH.tup ?_));(all_goals (first|exact XZ|skip)))
   refine .gar rfl fun x hx=>?_
   by_cases h:(x:Int)=(i:Int)
   ·obtain rfl:x=i:=by omega
    simp only[decide_true]
    rfl
   ·simp only[decide_eq_false h]
    rfl
  ·refine wS ?_
   refine⟨_,_,?_,rfl,rfl⟩
   exact ZK
theorem ZlD {b:XE} (h:Sp.XW b=0):0<b.zones.length:=by
 unfold Sp.XW at h
 split at h
 ·rename_i g;exact absurd h g
 ·rename_i g
  unfold ZO at g
  split at g
  ·omega
  ·omega
end Go.Proofs.YtjgpiclllehgmaaGreat.Vm
namespace Go.Proofs.YtjgpiclllehgmaaGreat.Sp
open Vm
def Zes (t:Ze) (w n:Int):Ze×Int:=if Qk t w≠0 then(⟨⟨[],[],[],0,0⟩,[],[],[]⟩,Qk t w)else if Qs n 0 60 then(⟨⟨[],[],[],0,0⟩,[],[],[]⟩,1)else(Zz t w n,0)
end Go.Proofs.YtjgpiclllehgmaaGreat.Sp
namespace Go.Proofs.YtjgpiclllehgmaaGreat.Vm
attribute [local irreducible] Dn
open Go Go.Proofs Sp
set_option maxRecDepth 100000
set_option maxHeartbeats 4000000
theorem ZvO (t:Ze) (w n:Int) (hf:Xj t):SC (fun _=>Tryz.prog) 43 [Zf t,.int .i64 fun _=>w,.int .i64 fun _=>n] [] fun v h=>v= .tup [Zf (Zes t w n).1,.int .i64 fun _=>(Zes t w n).2]∧h=[]:=by
 obtain⟨nt,hnt⟩:=Zu
 have k:=ZuG t w hf
 by_cases he:Qk t w=0
 ·have hb:Zl t=0:=by
   unfold Qk at he
   split at he
   ·assumption
   ·exact he
  have hi:0≤w∧w<t.waits.length:=by
   unfold Qk at he
   rw[if_pos hb]at he
   split at he
   ·cases he
   ·rename_i h2
    have:=QO (by simpa using h2)
    omega
  have hz:0<t.book.zones.length:=by
   unfold Zl at hb
   split at hb
   ·exact absurd hb (by assumption)
   ·rename_i g
    exact ZlD (Decidable.of_not_not g)
  have k381:=ZbL n 0 60
  have k400:=Ztj t w n hf hi
  have k411:=ZvF (Zz t w n) ⟨hf.book,hf.runs,by show(t.waits.set _ _).length≤_;rw[List.length_set];exact hf.waits,hf.delays,hf.bys⟩ hz
  obtain⟨W,hW⟩:∃W,W=Zes t w n:=⟨_,rfl⟩
  rw[←hW]
  unfold Zes at hW
  rw[if_neg (fun h=>h he)]at hW
  unfold QD at k
  rw[if_pos hb,he]at k
  generalize Zz t w n=t2 at*
  generalize Qs n 0 60=B at*
  unfold ZX Zf at*
  simp only[Za hnt,Zb,ZB]at*
  refine SC.less (Qv Tryz.func43 (body:=Zk Tryz.f43) rfl (by decide+kernel) ?_)
  refine wS ?_
  refine Zpt (k) ?_
  refine wS ?_
  refine Br.isF rfl ?_
  refine wS ?_
  refine Zpt (k381) ?_
  refine wS ?_
  cases B
  case true=>
   rw[if_pos rfl]at hW
   subst hW
   refine Br.isT rfl ?_
   refine wS ?_
   refine⟨_,_,?_,rfl,rfl⟩
   exact ZK
  rw[if_neg Bool.false_ne_true]at hW
  subst hW
  refine Br.isF rfl ?_
  refine wS ?_
  refine Zpt (k400) ?_
  refine wS ?_
  refine Zpt (k411) ?_
  refine wS ?_
  refine⟨_,_,?_,rfl,rfl⟩
  exact ZK
 ·have hE:Zes t w n=(⟨⟨[],[],[],0,0⟩,[],[],[]⟩,Qk t w):=by
   unfold Zes
   rw[if_pos he]
  rw[hE]
  generalize Qk t w=e at*
  refine SC.less (Qv Tryz.func43 (body:=Zk Tryz.f43) rfl (by decide+kernel) ?_)
  unfold Zf at*
  by_cases hb:Zl t=0
  ·unfold QD at k
   rw[if_pos hb]at k
   unfold ZX at k
   simp only[Za hnt,Zb,ZB]at*
   refine wS ?_
   refine Zpt (k) ?_
   refine wS ?_
   refine⟨fun h=>?_,fun h=>?_⟩
   ·refine wS ?_
    refine⟨_,_,?_,rfl,rfl⟩
    exact ZK
   ·exact absurd (by simpa only[bne_eq_false_iff_eq]using h) he
  ·unfold QD at k
   rw[if_neg hb]at k
   simp only[Za hnt,Zb,ZB]at*
   refine wS ?_
   refine Zpt (k) ?_
   refine wS ?_
   refine⟨fun h=>?_,fun h=>?_⟩
   ·refine wS ?_
    refine⟨_,_,?_,rfl,rfl⟩
    exact ZK
   ·exact absurd (by simpa only[bne_eq_false_iff_eq]using h) he
end Go.Proofs.YtjgpiclllehgmaaGreat.Vm
namespace Go.Proofs.YtjgpiclllehgmaaGreat.Vm
open Go Go.Proofs Go.Proofs.YtjgpiclllehgmaaGreat.Conc1
def Zi7:Nat→AV→Bool
 |0,_=>false
 |_+1,.int _ _=>true
 |_+1,.bool _=>true
 |_+1,.undef=>true
 |k+1,.agg cs=>cs.all (Zi7 k)
 |k+1,.tup cs=>cs.all (Zi7 k)
 |_+1,_=>false
theorem ZhW {R R':RC}:∀(k:Nat) {a:AV} {v:Value},Zi7 k a=true→VR R a v→VR R' a v
 |0,a,v,h,_=>by cases h
 |k+1,a,v,h,hv=>by
  cases a with
  |int q n=>rw[hv.int_inv];exact .pure _ _ (.int q n)
  |bool b=>rw[hv.bool_inv];exact .pure _ _ (.bool b)
  |undef=>exact .undef _
  |agg cs=>
   obtain⟨us,rfl,hl,hr⟩:=hv.agg_inv
   exact .agg cs us hl fun j c hj=>ZhW k (List.all_eq_true.1 h c (List.mem_of_getElem? hj)) (hr j c hj)
  |tup cs=>
   obtain⟨us,rfl,hl,hr⟩:=hv.tup_inv
   exact .tup cs us hl fun j c hj=>ZhW k (List.all_eq_true.1 h c (List.mem_of_getElem? hj)) (hr j c hj)
  |_=>cases h
theorem SC.lend {p:Unit→Program} {f:FuncId} {xs ys:List AV} {h hc:List Zi} {Post Q:AV→List Zi→Prop} (l:List Nat) (hnd:l.Nodup) (hlt:∀i∈l,i<h.length) (hsel:sel true l h=hc) (hmain:∀b∈hc,b= .main) (H:SC p f ys hc Q) (hx:xs.map (Qx true l h 5)=ys)
  (hq:∀r h₂,Q r h₂→h₂=hc∧Zi7 5 r=true∧Post r h):SC p f xs h Post:=
 ⟨H.enter,fun G R vs hr ha cs=>by
  obtain⟨R₂,acx,a0,a1,a2,a3,a4,a5,a6,a7,a8⟩:=hr.sel (fz:=true) (ι:=l) (fun _ _ _=>True) (fun _ _ _ _=>trivial) (fun _ _ _ _ _ _ _ _=>trivial) (fun _ _ _ _=>trivial) (fun _ _ _ _ _ _ _ _ _=>trivial) hnd hlt (fun _ _ _ _ _ _ _ _ _=>trivial) 0 (Nat.zero_le _) (fun _=>Nat.zero_le _)
  have hrow:XY R₂ ys vs:=⟨by rw[←hx,List.length_map];exact ha.1,fun j c hj=>by
   rw[←hx,List.getElem?_map,Option.map_eq_some_iff]at hj
   obtain⟨x,hx,rfl⟩:=hj
   exact a8 5 x _ (ha.2 j x hx)⟩
  rw[hsel]at a6
  obtain⟨v,R',r,h',b1,b3,b4,b5,b6,b7⟩:=H.run _ R₂ vs a6 hrow cs
  obtain⟨rfl,hfl,hP⟩:=hq r h' b7
  have hheap:∀b,b<R.w.heap.size→R'.w.heap[b]? =R.w.heap[b]? :=fun b hb=>by
   rw[b4.frame b (by rw[a1];exact hb) (fun id blk hi hp=>by
    have:=hmain blk (List.mem_of_getElem? hi)
    subst this
    exact hp),a1]
  have hsz:R.w.heap.size≤R'.w.heap.size:=by rw[←a1];exact b4.size
  let R'':RC:={R with w:=R'.w,ok:=fun b o n=>b<R'.w.heap.size∧G b o n∧Zga R h b o n}
  have hok:∀b o n,R.ok b o n→R''.ok b o n:=fun b o n k=>by
   obtain⟨h1,h2,h3⟩:=(hr.okd _ _ _).1 k
   exact⟨by omega,h2,h3⟩
  have hkeep:∀b o n,R.ok b o n→∀j,j<n→R''.w.cell? ⟨b,o+j,none⟩=R.w.cell? ⟨b,o+j,none⟩:=fun b o n k j hj=>by
   have:=b5.keep b o n (a7 b o n k) j hj
   rw[a1]at this
   exact this
  have hle:R.le R'':=⟨Nat.le_refl _,fun _ _=>rfl,fun _ _=>⟨Int.le_refl _,fun _=>rfl⟩,fun _ _=>.refl _,hok,hkeep,fun b k es clk e=>by
   have:=b5.keepM b (a7 b 0 1 k) es clk (by rw[a1];exact e)
   exact this,rfl⟩
  refine⟨v,R'',r,h,?_,⟨hr.len,fun _ _ _=>Iff.rfl,fun id blk hi=>(hr.blk id blk hi).mono hle rfl rfl rfl rfl fun b hp=>hheap b (hr.phys_lt hi hp),hr.dis,hr.cl,fun b o n hb=>hr.fresh b o n (Nat.le_trans hsz hb),hr.tokG,hr.n0m⟩,
   ⟨rfl,by rw[←a1];exact b4.os,by rw[←a1];exact b4.tape,by rw[←a1];exact b4.output,hsz,Nat.le_refl _,fun _ _=>rfl,hok,hkeep,fun b hb _=>hheap b hb,fun id blk b hi hp=>.inr ⟨id,blk,hi,hp,.inl rfl⟩⟩,hle,ZhW 5 hfl b6,hP⟩
  rw[a1,acx]at b1
  exact b1⟩
theorem SC.lend0 {p:Unit→Program} {f:FuncId} {xs ys:List AV} {h:List Zi} {Post Q:AV→List Zi→Prop} (H:SC p f ys [] Q) (hx:xs.map (Qx true [] h 5)=ys) (hq:∀r h₂,Q r h₂→h₂=[]∧Zi7 5 r=true∧Post r h):SC p f xs h Post:=
 SC.lend [] List.nodup_nil (fun i hi=>by cases hi) rfl (fun b hb=>by cases hb) H hx hq
end Go.Proofs.YtjgpiclllehgmaaGreat.Vm
namespace Go.Proofs.YtjgpiclllehgmaaGreat.Sp
def Yi (t:Ze) (a:ZF):Int:=if Zl t≠0 then Zl t else YW (callsOf t) t.runs.length a
def XC (t:Ze) (a:ZF) (w:Int):Int:=if Yi t a=0 then(if Qs w 0 ((t.waits.length:Int)-1)then 3 else 0)else Yi t a
theorem ZkR {t:Ze} (h:Zl t=0):Q6 t=0:=by
 unfold Zl at h
 split at h
 ·exact absurd h (by assumption)
 split at h
 ·exact absurd h (by assumption)
 exact Decidable.of_not_not (by assumption)
theorem ZdR {t:Ze} {a:ZF} (h:Yi t a=0):Zl t=0:=by
 unfold Yi at h
 split at h
 ·exact h
 ·exact Decidable.of_not_not (by assumption)
end Go.Proofs.YtjgpiclllehgmaaGreat.Sp
namespace Go.Proofs.YtjgpiclllehgmaaGreat.Vm
attribute [local irreducible] Dn
open Go Go.Proofs Sp
set_option maxRecDepth 100000
set_option maxHeartbeats 4000000
theorem ZuF (t:Ze) (a:ZF) (hf:Xj t) (ha:a.steps.length≤1000000):SC (fun _=>Tryz.prog) 114 [Zf t,XV a] [] fun v h=>v= .tup [QD (Zl t) t,.int .i64 fun _=>Yi t a]∧h=[]:=by
 obtain⟨nt,hnt⟩:=Zu
 refine SC.less (Qv Tryz.func114 (body:=Zk Tryz.f114) rfl (by decide+kernel) ?_)
 have k:=Zpr t hf
 have k2:=fun h:Zl t=0=>Zvw t a (ZdN (ZkR h)) hf.runs ha
 generalize hE:Yi t a=e
 unfold Yi at hE
 unfold Zf XV at*
 simp only[Za hnt]at k k2⊢
 by_cases he:Zl t=0
 ·unfold QD at k⊢
  rw[if_pos he]at k⊢
  rw[if_neg (fun h=>h he)]at hE
  have k2:=k2 he
  unfold ZX at k k2⊢
  simp only[Za hnt,Zb]at k k2⊢
  rw[he]at k
  refine wS ?_
  refine Zpt (k) ?_
  refine wS ?_
  refine Br.isF rfl ?_
  refine wS ?_
  refine Zpt (k2) ?_
  rw[hE]
  refine wS ?_
  refine⟨_,[],?_,rfl,rfl⟩
  exact ZK
 ·unfold QD at k⊢
  rw[if_neg he]at k⊢
  rw[if_pos he]at hE
  rw[hE]at k he
  refine wS ?_
  refine Zpt (k) ?_
  refine wS ?_
  refine⟨fun h=>?_,fun h=>?_⟩
  ·refine wS ?_
   refine⟨_,[],?_,rfl,rfl⟩
   exact ZK
  ·exact absurd (by simpa only[bne_eq_false_iff_eq]using h) he
theorem ZvG (t:Ze) (a:ZF) (w:Int) (hf:Xj t) (ha:a.steps.length≤1000000):SC (fun _=>Tryz.prog) 98 [Zf t,XV a,.int .i64 fun _=>w] [] fun v h=>v= .tup [QD (Zl t) t,.int .i64 fun _=>XC t a w]∧h=[]:=by
 obtain⟨nt,hnt⟩:=Zu
 refine SC.less (Qv Tryz.func98 (body:=Zk Tryz.f98) rfl (by decide+kernel) ?_)
 have k:=ZuF t a hf ha
 have hw:=hf.waits
 have k1:=ZbL w 0 ((t.waits.length:Int)-1)
 generalize hE:XC t a w=e
 unfold XC at hE
 unfold Zf XV at*
 generalize hA:Yi t a=e2 at*
 simp only[Za hnt]at k⊢
 by_cases hb:Zl t=0
 ·unfold QD at k⊢
  rw[if_pos hb]at k⊢
  unfold ZX at k⊢
  simp only[Za hnt,Zb]at k⊢
  by_cases he:e2=0
  ·rw[if_pos he]at hE
   rw[he]at k
   refine wS ?_
   refine Zpt (k) ?_
   refine wS ?_
   refine Br.isT rfl ?_
   refine wS ?_
   refine Zpt (k1) ?_
   refine wS ?_
   refine⟨fun h=>?_,fun h=>?_⟩
   ·have h:Qs w 0 ((t.waits.length:Int)-1)=true:=h
    rw[if_pos h]at hE
    subst hE
    refine wS ?_
    refine⟨_,[],?_,rfl,rfl⟩
    exact ZK
   ·have h:Qs w 0 ((t.waits.length:Int)-1)=false:=h
    rw[if_neg (by rw[h];exact Bool.false_ne_true)]at hE
    subst hE
    refine wS ?_
    refine⟨_,[],?_,rfl,rfl⟩
    exact ZK
  ·rw[if_neg he]at hE
   subst hE
   refine wS ?_
   refine Zpt (k) ?_
   refine wS ?_
   refine⟨fun h=>?_,fun h=>?_⟩
   ·exact absurd (eq_of_beq h) he
   refine wS ?_
   refine Br.isF rfl ?_
   refine wS ?_
   refine⟨_,[],?_,rfl,rfl⟩
   exact ZK
 ·unfold QD at k⊢
  rw[if_neg hb]at k⊢
  have he:e2≠0:=by
   intro h
   exact hb (ZdR (hA.trans h))
  rw[if_neg he]at hE
  subst hE
  refine wS ?_
  refine Zpt (k) ?_
  refine wS ?_
  refine⟨fun h=>?_,fun h=>?_⟩
  ·exact absurd (eq_of_beq h) he
  refine wS ?_
  refine Br.isF rfl ?_
  refine wS ?_
  refine⟨_,[],?_,rfl,rfl⟩
  exact ZK
end Go.Proofs.YtjgpiclllehgmaaGreat.Vm
namespace Go.Proofs.YtjgpiclllehgmaaGreat.Sp
open Vm
theorem Zgw {t:Ze} (hf:ZJ t) {w n:Int} (hn:0≤n∧n≤60):ZJ (Zz t w n):=by
 have hset:∀v∈(Zz t w n).waits,∃v'∈t.waits,v.feeder=v'.feeder∧v.train=v'.train∧v.station=v'.station∧(v.minutes=v'.minutes∨v.minutes=n):=fun v hv=>by
  rcases List.mem_or_eq_of_mem_set hv with h|rfl
  ·exact⟨v,h,rfl,rfl,rfl,.inl rfl⟩
  ·by_cases hl:w.toNat<t.waits.length
   ·refine⟨t.waits[w.toNat],List.getElem_mem hl,?_⟩
    rw[List.getD_eq_getElem?_getD,List.getElem?_eq_getElem hl]
    exact⟨rfl,rfl,rfl,.inr rfl⟩
   ·have:(Zz t w n).waits=t.waits:=List.set_eq_of_length_le (by omega)
    rw[this]at hv
    exact⟨_,hv,rfl,rfl,rfl,.inl rfl⟩
 refine⟨hf.calls,hf.nn,hf.asc,by show(t.waits.set _ _).length≤4;rw[List.length_set];exact hf.wlen,hf.dlen,fun v hv=>?_,hf.d⟩
 obtain⟨v',hv',e1,e2,e3,e4⟩:=hset v hv
 have h:=hf.w v' hv'
 rw[e1,e2,e3]
 exact⟨h.1,h.2.1,h.2.2.1,by omega,by omega,h.2.2.2.2.2⟩
def JJ (t:Ze) (a:ZF) (w:Int):Nat→Int×Int×Bool
 |0=>(0,0,false)
 |n+1=>if Xy (Zz t w n) a&&(!(JJ t a w n).2.2||decide ((Xz (Zz t w n) a).to_<(JJ t a w n).2.1))then((n:Int),(Xz (Zz t w n) a).to_,true)else JJ t a w n
def Zih (t:Ze) (a:ZF) (w:Int):Int×Int×Int:=
 if XC t a w≠0 then(0,0,XC t a w)else if(JJ t a w 61).2.2 then((JJ t a w 61).1,(JJ t a w 61).2.1,0)else(0,0,11)
end Go.Proofs.YtjgpiclllehgmaaGreat.Sp
namespace Go.Proofs.YtjgpiclllehgmaaGreat.Vm
attribute [local irreducible] Dn
open Go Go.Proofs Sp
set_option maxRecDepth 100000
set_option maxHeartbeats 4000000
theorem Zmw {t:Ze} {a:ZF} {w:Int} (h:XC t a w=0):Zl t=0∧YW (callsOf t) t.runs.length a=0∧0≤w∧w<t.waits.length:=by
 unfold XC at h
 split at h
 ·rename_i h1
  have hb:=ZdR h1
  split at h
  ·cases h
  rename_i h2
  have:=QO (by simpa using h2)
  unfold Yi at h1
  rw[if_neg (fun h=>h hb)]at h1
  exact⟨hb,h1,by omega,by omega⟩
 ·exact absurd h (by assumption)
theorem ZvQ (t:Ze) (a:ZF) (w:Int) (hf:Xj t) (ha:a.steps.length≤1000000) (hw:Zl t=0→ZJ t):SC (fun _=>Tryz.prog) 35 [Zf t,XV a,.int .i64 fun _=>w] [] fun v h=>
  v= .tup [.int .i64 fun _=>(Zih t a w).1,.int .i64 fun _=>(Zih t a w).2.1,.int .i64 fun _=>(Zih t a w).2.2]∧h=[]:=by
 obtain⟨nt,hnt⟩:=Zu
 have k:=ZvG t a w hf ha
 by_cases he:XC t a w=0
 ·have hok:=Zmw he
  have hw:=hw hok.1
  have k400:=fun n=>Ztj t w n hf hok.2.2
  have k399:=fun n h=>ZuH (Zz t w n) a (Zgw hw (n:=n) h) hok.2.1
  have hB0:JJ t a w 0=(0,0,false):=rfl
  have hBS:∀n:Nat,JJ t a w (n+1)=if Xy (Zz t w n) a&&(!(JJ t a w n).2.2||decide ((Xz (Zz t w n) a).to_<(JJ t a w n).2.1))then((n:Int),(Xz (Zz t w n) a).to_,true)else JJ t a w n:=fun _=>rfl
  have hE:Zih t a w=if(JJ t a w 61).2.2 then((JJ t a w 61).1,(JJ t a w 61).2.1,0)else(0,0,11):=by
   unfold Zih
   rw[if_neg (fun h=>h he)]
  have hbk:∀n,(Zz t w n).book=t.book:=fun _=>rfl
  have hrn:∀n,(Zz t w n).runs=t.runs:=fun _=>rfl
  have hdl:∀n,(Zz t w n).delays=t.delays:=fun _=>rfl
  have hcl:∀n,callsOf (Zz t w n)=callsOf t:=fun _=>rfl
  unfold QD at k
  rw[if_pos hok.1,he]at k
  unfold ZX Zf XV YL at*
  simp only[hbk,hrn,hdl,hcl]at k400 k399
  simp only[Za hnt,Zb,XR,ZB]at*
  generalize Zih t a w=BE at*
  generalize JJ t a w=B at*
  generalize hWT:Zz t w=WT at*
  generalize hCA:(fun n=>Xy (WT n) a)=CA at*
  generalize hAS:(fun n=>Xz (WT n) a)=AS at*
  have hCA:∀n,Xy (WT n) a=CA n:=fun n=>congrFun hCA n
  have hAS:∀n,Xz (WT n) a=AS n:=fun n=>congrFun hAS n
  simp only[hCA,hAS]at k399 hBS
  refine SC.less (Qv Tryz.func35 (body:=Zk Tryz.f35) rfl (by decide+kernel) ?_)
  refine wS ?_
  refine Zpt (k) ?_
  refine wS ?_
  refine Br.isF rfl ?_
  refine wS ?_
  refine ZS false false [] [2,3,4,6,7,9,10,24] [] (fun p:Nat=>[(24,.int .i64 fun _=>(p:Int)),(6,.int .i64 fun _=>(B p).1),(7,.int .i64 fun _=>(B p).2.1),(10,.bool fun _=>(B p).2.2)]) (fun _=>[]) (fun p=>p≤61) (fun p=>61-p+0) 0 (by omega) ?_ ?_
  ·(refine To.of [] ?_;cbv;(try simp only[nc]);(repeat' (first|exact trivial|exact ZH.refl _|exact ZR.refl _|refine⟨?_,?_⟩|refine ZR.cells ?_|refine ZH.agg ?_|refine ZH.tup ?_));(all_goals (first|exact XZ|skip)))
   all_goals first|exact .int (by rw[hB0])|exact .bool (by rw[hB0])
  intro p hp
  refine wS ?_
  refine⟨fun h1=>?_,fun h1=>?_⟩
  case refine_2=>
   simp only[decide_eq_false_iff_not]at h1
   have hp61:p=61:=by omega
   subst hp61
   refine wS ?_
   refine⟨fun h2=>?_,fun h2=>?_⟩
   ·have h2:(B 61).2.2=false:=nb2 h2
    rw[if_neg (by rw[h2];exact Bool.false_ne_true)]at hE
    subst hE
    refine wS ?_
    refine⟨_,[],?_,rfl,rfl⟩
    exact ZK
   ·have h2:(B 61).2.2=true:=nb4 h2
    rw[if_pos h2]at hE
    subst hE
    refine wS ?_
    refine⟨_,[],?_,rfl,rfl⟩
    exact ZK
  simp only[decide_eq_true_eq]at h1
  have k400:=k400 p
  have k399:=k399 p (by omega)
  refine wS ?_
  repeat' (first|(with_reducible refine Zig.mk ?_ ?_)|((with_reducible refine Chk.mk ?_ ?_);(focus exact Qd))|((with_reducible refine ZY k400 ?_ ?_);(focus (first|rfl|(simp only[Za hnt];rfl)));(intro r h₂ hp;obtain⟨rfl,rfl⟩:=hp;cbv;(try simp only[nc]at*)))|((with_reducible refine SC.lend0 k399 ?_ ?_);(focus (first|rfl|(simp only[Za hnt];rfl)));(intro r h₂ hp;obtain⟨rfl,rfl⟩:=hp;refine⟨rfl,rfl,?_⟩;cbv;(try simp only[nc]at*))))
  all_goals
   have hcond:(bif CA p then bif !(B p).2.2 then true else decide ((AS p).to_<(B p).2.1)else false)=(CA p&&(!(B p).2.2||decide ((AS p).to_<(B p).2.1))):=by cases CA p<;>cases (B p).2.2<;>rfl
   refine⟨fun h2=>?_,fun h2=>?_⟩
   ·have hBp:=hBS p
    rw[if_pos (hcond.symm.trans h2)]at hBp
    refine wS ?_
    refine⟨p+1,by show p+1≤61;omega,by show 61-(p+1)+0<61-p+0;omega,?_⟩
    (refine To.of [] ?_;cbv;(try simp only[nc]);(repeat' (first|exact trivial|exact ZH.refl _|exact ZR.refl _|refine⟨?_,?_⟩|refine ZR.cells ?_|refine ZH.agg ?_|refine ZH.tup ?_));(all_goals (first|exact XZ|skip)))
    all_goals first|exact .int (by rw[hBp])|exact .bool (by rw[hBp])
   ·have hBp:=hBS p
    rw[if_neg (fun h=>by rw[←hcond,h2]at h;cases h)]at hBp
    refine wS ?_
    refine⟨p+1,by show p+1≤61;omega,by show 61-(p+1)+0<61-p+0;omega,?_⟩
    (refine To.of [] ?_;cbv;(try simp only[nc]);(repeat' (first|exact trivial|exact ZH.refl _|exact ZR.refl _|refine⟨?_,?_⟩|refine ZR.cells ?_|refine ZH.agg ?_|refine ZH.tup ?_));(all_goals (first|exact XZ|skip)))
    all_goals first|exact .int (by rw[hBp])|exact .bool (by rw[hBp])
 ·have hE:Zih t a w=(0,0,XC t a w):=by
   unfold Zih
   rw[if_pos he]
  rw[hE]
  generalize XC t a w=e at*
  refine SC.less (Qv Tryz.func35 (body:=Zk Tryz.f35) rfl (by decide+kernel) ?_)
  unfold Zf XV at*
  by_cases hb:Zl t=0
  ·unfold QD at k
   rw[if_pos hb]at k
   unfold ZX at k
   simp only[Za hnt,Zb,XR,ZB]at*
   refine wS ?_
   refine Zpt (k) ?_
   refine wS ?_
   refine⟨fun h=>?_,fun h=>?_⟩
   ·refine wS ?_
    refine⟨_,[],?_,rfl,rfl⟩
    exact ZK
   ·exact absurd (by simpa only[bne_eq_false_iff_eq]using h) he
  ·unfold QD at k
   rw[if_neg hb]at k
   simp only[Za hnt,Zb,XR,ZB]at*
   refine wS ?_
   refine Zpt (k) ?_
   refine wS ?_
   refine⟨fun h=>?_,fun h=>?_⟩
   ·refine wS ?_
    refine⟨_,[],?_,rfl,rfl⟩
    exact ZK
   ·exact absurd (by simpa only[bne_eq_false_iff_eq]using h) he
end Go.Proofs.YtjgpiclllehgmaaGreat.Vm
namespace Go.Proofs.YtjgpiclllehgmaaGreat.Sp
open Vm
def Yr (t:Ze) (f r st:Int) (i:Nat):Bool:=
 decide ((ZU t (Zm t i) f (ZA (Zj (callsOf t) f) st)).comes≤(ZU t (Zm t i) r (Zr (Zj (callsOf t) r) st)).goes)
def Q4 (p:Nat→Bool):Nat→Int
 |0=>0
 |n+1=>if p n then Q4 p n+1 else Q4 p n
def Jl (t:Ze) (f r st:Int):Int:=ZcJ (Q4 (Yr t f r st) (Z7 t)) (Q4 (fun i=> !Yr t f r st i) (Z7 t))
def XQ (p:Nat→Bool):Nat→Nat→Int×Bool
 |_,0=>(0,false)
 |i,n+1=>if p i then((i:Int),true)else XQ p (i+1) n
def waitAt (t:Ze) (w:Int):ZM:=t.waits.getD w.toNat default
def Za0 (t:Ze) (w:Int) (n:Nat):Bool:=decide (Jl (Zz t w n) (waitAt t w).feeder (waitAt t w).train (waitAt t w).station=1)
def JY (t:Ze) (w:Int):Int×Int:=if Qk t w≠0 then(0,Qk t w)else if(XQ (Za0 t w) 0 61).2 then((XQ (Za0 t w) 0 61).1,0)else(0,11)
theorem Zkv {p:Nat→Bool} {i n:Nat} (h:0<n):XQ p i n=if p i then((i:Int),true)else XQ p (i+1) (n-1):=by
 cases n with
 |zero=>omega
 |succ n=>rfl
def Zac (t:Ze) (f r st:Int):Prop:=StopIn (callsOf t) f (ZA (Zj (callsOf t) f) st)∧StopIn (callsOf t) r (Zr (Zj (callsOf t) r) st)
theorem ZeN {t:Ze} (h:Zl t=0) {w:Int} (hw:0≤w∧w<t.waits.length):Zac t (waitAt t w).feeder (waitAt t w).train (waitAt t w).station:=by
 have hf:=QH h
 have hm:waitAt t w∈t.waits:=by
  unfold waitAt
  rw[List.getD_eq_getElem?_getD,List.getElem?_eq_getElem (by omega)]
  exact List.getElem_mem _
 refine⟨Yh hf hm,?_⟩
 unfold Zl at h
 split at h
 ·exact absurd h (by assumption)
 split at h
 ·exact absurd h (by assumption)
 split at h
 ·cases h
 split at h
 ·exact absurd h (by assumption)
 rename_i h3
 have h5:=Z4 (Decidable.of_not_not h3) w.toNat (by omega) (by omega)
 change Qt (callsOf t) (waitAt t w) _=0 at h5
 unfold Qt at h5
 split at h5
 ·cases h5
 rename_i g1
 split at h5
 ·cases h5
 split at h5
 ·cases h5
 rename_i g3
 have b1:=QO (n:=(waitAt t w).train) (lo:=0) (hi:=((callsOf t).length:Int)-1) (by cases hq:Qs (waitAt t w).train 0 ((callsOf t).length-1)with|false=>rfl|true=>exact absurd (by rw[hq,Bool.or_true]) g1)
 have g4:¬Zr (Zj (callsOf t) (waitAt t w).train) (waitAt t w).station<0:=fun h=>g3 (.inr h)
 have s1:=XF (Zj (callsOf t) (waitAt t w).train) 0 (waitAt t w).station
 refine⟨b1.1,by omega,by omega,?_⟩
 unfold Zr at*
 split<;>omega
end Go.Proofs.YtjgpiclllehgmaaGreat.Sp
namespace Go.Proofs.YtjgpiclllehgmaaGreat.Vm
attribute [local irreducible] Dn
open Go Go.Proofs Sp
set_option maxRecDepth 100000
set_option maxHeartbeats 4000000
theorem ZvE (cs0 cs1 cs2 cs3:List AV) (p:Nat→Bool) (hk:∀n:Nat,n≤60→SC (fun _=>Tryz.prog) 113 [.int .i64 fun _=>(n:Int),.iptr cs0 0,.iptr cs1 0,.iptr cs2 0,.iptr cs3 0] [.main] fun v h=>v= .bool (fun _=>p n)∧h=[.main]):
  SC (fun _=>Tryz.prog) 112 [.int .i64 fun _=>60,.fn 113 [] [.iptr cs0 0,.iptr cs1 0,.iptr cs2 0,.iptr cs3 0]] [.main] fun v h=>v= .tup [.int .i64 fun _=>(XQ p 0 61).1,.bool fun _=>(XQ p 0 61).2]∧h=[.main]:=by
 refine SC.less (Qv Tryz.func112 (body:=Zk Tryz.f112) rfl (by decide+kernel) ?_)
 generalize hF:XQ p 0 61=F
 refine wS ?_
 refine ZS false false [] [0,1,6] [] (fun i:Nat=>[(6,.int .i64 fun _=>(i:Int))]) (fun _=>[]) (fun i=>i≤61∧XQ p i (61-i)=F) (fun i=>61-i+0) 0 ⟨by omega,hF⟩ ?_ ?_
 ·exact ZK
 rintro i ⟨hi,hp⟩
 refine wS ?_
 refine⟨fun h1=>?_,fun h1=>?_⟩
 ·have h1:=of_decide_eq_true h1
  rw[show 61-i=0 by omega,XQ]at hp
  subst hp
  refine wS ?_
  refine⟨_,_,?_,rfl,rfl⟩
  exact ZK
 have h1:=of_decide_eq_false h1
 have k:=hk i (by omega)
 rw[Zkv (by omega)]at hp
 refine wS ?_
 refine cL1 [0] (k) fun r h₂ hp=>?_
 (try simp only[Zd,Zc,Zf,Zb,Za hnt]at hp)
 obtain⟨rfl,rfl⟩:=hp
 refine wS ?_
 refine⟨fun h2=>?_,fun h2=>?_⟩
 ·rw[if_pos h2]at hp
  subst hp
  refine wS ?_
  refine⟨_,_,?_,rfl,rfl⟩
  exact ZK
 ·rw[if_neg (by rw[h2];exact Bool.false_ne_true)]at hp
  refine wS ?_
  refine⟨i+1,⟨by omega,hp⟩,by show 61-(i+1)+0<61-i+0;omega,?_⟩
  exact ZK
theorem ZvD (t:Ze) (w:Int) (hf:Xj t) (hw:ZJ t) (hi:0≤w∧w<t.waits.length) (hc:Zac t (waitAt t w).feeder (waitAt t w).train (waitAt t w).station)
  (k397:∀t' f r st,ZJ t'→Zac t' f r st→SC (fun _=>Tryz.prog) 97 [.iptr (ZX t') 0,.int .i64 fun _=>f,.int .i64 fun _=>r,.int .i64 fun _=>st] [.main] fun v h=>v= .int .i64 (fun _=>Jl t' f r st)∧h=[.main])
  (n:Nat) (hn:n≤60):SC (fun _=>Tryz.prog) 113 [.int .i64 fun _=>(n:Int),.iptr ((ZX t).take 8) 0,.iptr [.int .i64 fun _=>w] 0,.iptr [.iptr (ZX t) 0] 0,.iptr (QR (waitAt t w)) 0] [.main] fun v h=>v= .bool (fun _=>Za0 t w n)∧h=[.main]:=by
 obtain⟨nt,hnt⟩:=Zu
 have k400:=Ztj t w n hf hi
 have k:=k397 (Zz t w n) (waitAt t w).feeder (waitAt t w).train (waitAt t w).station (Zgw hw ⟨by omega,by omega⟩) hc
 have hbk:∀n,(Zz t w n).book=t.book:=fun _=>rfl
 have hrn:∀n,(Zz t w n).runs=t.runs:=fun _=>rfl
 have hdl:∀n,(Zz t w n).delays=t.delays:=fun _=>rfl
 have hcl:∀n,callsOf (Zz t w n)=callsOf t:=fun _=>rfl
 unfold Za0
 generalize waitAt t w=x at*
 generalize Jl (Zz t w n) x.feeder x.train x.station=V at*
 unfold ZX Zf QR at*
 simp only[hbk,hrn,hdl,hcl]at k400 k
 simp only[List.take,Za hnt,Zb,ZB]at*
 generalize Zz t w n=t2 at*
 refine SC.less (Qv Tryz.func113 (body:=Zk Tryz.f113) rfl (by decide+kernel) ?_)
 refine wS ?_
 refine Zpt (k400) ?_
 refine wS ?_
 refine SC.lend [0] (by decide) (by simp) rfl (fun b hb=>List.mem_singleton.1 hb) k ?_ fun r h₂ hp=>?_
 ·first|rfl|(simp only[Za hnt];rfl)
 obtain⟨rfl,rfl⟩:=hp
 refine⟨rfl,rfl,?_⟩
 refine wS ?_
 refine⟨_,_,?_,rfl,rfl⟩
 (refine To.of [] ?_;cbv;(try simp only[nc]);(repeat' (first|exact trivial|exact ZH.refl _|exact ZR.refl _|refine⟨?_,?_⟩|refine ZR.cells ?_|refine ZH.agg ?_|refine ZH.tup ?_));(all_goals (first|exact XZ|skip)))
 all_goals exact .bool rfl
theorem ZvN (t:Ze) (w:Int) (hf:Xj t)
  (k397:∀t' f r st,ZJ t'→Zac t' f r st→SC (fun _=>Tryz.prog) 97 [.iptr (ZX t') 0,.int .i64 fun _=>f,.int .i64 fun _=>r,.int .i64 fun _=>st] [.main] fun v h=>v= .int .i64 (fun _=>Jl t' f r st)∧h=[.main]):
  SC (fun _=>Tryz.prog) 45 [Zf t,.int .i64 fun _=>w] [.main] fun v h=>v= .tup [.int .i64 fun _=>(JY t w).1,.int .i64 fun _=>(JY t w).2]∧h=[.main]:=by
 obtain⟨nt,hnt⟩:=Zu
 have k:=ZuG t w hf
 by_cases he:Qk t w=0
 ·have hb:Zl t=0:=by
   unfold Qk at he
   split at he
   ·assumption
   ·exact he
  have hi:0≤w∧w<t.waits.length:=by
   unfold Qk at he
   rw[if_pos hb]at he
   split at he
   ·cases he
   ·rename_i h2
    have:=QO (by simpa using h2)
    omega
  have k413:=ZvD t w hf (QH hb) hi (ZeN hb hi) k397
  have k412:=ZvE _ _ _ _ _ k413
  have hE:JY t w=if(XQ (Za0 t w) 0 61).2 then((XQ (Za0 t w) 0 61).1,0)else(0,11):=by
   unfold JY
   rw[if_neg (fun h=>h he)]
  have hx:waitAt t w=nt Sp.ZM default t.waits w:=by rw[hnt];rfl
  rw[hx]at k412
  unfold QD at k
  rw[if_pos hb,he]at k
  clear k413
  unfold ZX Zf QR at*
  simp only[List.take,Za hnt,Zb,ZB]at*
  generalize JY t w=BE at*
  generalize XQ (Za0 t w) 0 61=F at*
  refine SC.less (Qv Tryz.func45 (body:=Zk Tryz.f45) rfl (by decide+kernel) ?_)
  refine wS ?_
  refine Zpt (k) ?_
  refine wS ?_
  refine Br.isF rfl ?_
  refine wS ?_
  refine SC.lend [0] (by decide) (by simp) rfl (fun b hb=>List.mem_singleton.1 hb) k412 ?_ fun r h₂ hp=>?_
  ·first|rfl|(simp only[Za hnt];rfl)
  obtain⟨rfl,rfl⟩:=hp
  refine⟨rfl,rfl,?_⟩
  refine wS ?_
  refine⟨fun h2=>?_,fun h2=>?_⟩
  ·have h2:F.2=false:=nb2 h2
   rw[if_neg (by rw[h2];exact Bool.false_ne_true)]at hE
   subst hE
   refine wS ?_
   refine⟨_,_,?_,rfl,rfl⟩
   exact ZK
  ·have h2:F.2=true:=nb4 h2
   rw[if_pos h2]at hE
   subst hE
   refine wS ?_
   refine⟨_,_,?_,rfl,rfl⟩
   exact ZK
 ·have hE:JY t w=(0,Qk t w):=by
   unfold JY
   rw[if_pos he]
  rw[hE]
  generalize Qk t w=e at*
  refine SC.less (Qv Tryz.func45 (body:=Zk Tryz.f45) rfl (by decide+kernel) ?_)
  unfold Zf at*
  by_cases hb:Zl t=0
  ·unfold QD at k
   rw[if_pos hb]at k
   unfold ZX at k
   simp only[Za hnt,Zb,ZB]at*
   refine wS ?_
   refine Zpt (k) ?_
   refine wS ?_
   refine⟨fun h=>?_,fun h=>?_⟩
   ·refine wS ?_
    refine⟨_,_,?_,rfl,rfl⟩
    exact ZK
   ·exact absurd (by simpa only[bne_eq_false_iff_eq]using h) he
  ·unfold QD at k
   rw[if_neg hb]at k
   simp only[Za hnt,Zb,ZB]at*
   refine wS ?_
   refine Zpt (k) ?_
   refine wS ?_
   refine⟨fun h=>?_,fun h=>?_⟩
   ·refine wS ?_
    refine⟨_,_,?_,rfl,rfl⟩
    exact ZK
   ·exact absurd (by simpa only[bne_eq_false_iff_eq]using h) he
end Go.Proofs.YtjgpiclllehgmaaGreat.Vm
namespace Go.Proofs.YtjgpiclllehgmaaGreat.Sp
open Vm
def JZ (t:Ze) (a:ZF):Za5×Int:=if Yi t a≠0 then(⟨0,0⟩,Yi t a)else if Xy t a then(Xz t a,0)else(⟨0,0⟩,11)
end Go.Proofs.YtjgpiclllehgmaaGreat.Sp
namespace Go.Proofs.YtjgpiclllehgmaaGreat.Vm
attribute [local irreducible] Dn
open Go Go.Proofs Sp
set_option maxRecDepth 100000
set_option maxHeartbeats 4000000
theorem ZvM (t:Ze) (a:ZF) (hf:Xj t) (ha:a.steps.length≤1000000) (hw:Zl t=0→ZJ t):SC (fun _=>Tryz.prog) 50 [Zf t,XV a] [] fun v h=>
  v= .tup [.agg (YL (JZ t a).1),.int .i64 fun _=>(JZ t a).2]∧h=[]:=by
 obtain⟨nt,hnt⟩:=Zu
 have k:=ZuF t a hf ha
 by_cases he:Yi t a=0
 ·have hb:=ZdR he
  have ht:YW (callsOf t) t.runs.length a=0:=by
   unfold Yi at he
   rw[if_neg (fun h=>h hb)]at he
   exact he
  have k399:=ZuH t a (hw hb) ht
  have hE:JZ t a=if Xy t a then(Xz t a,0)else(⟨0,0⟩,11):=by
   unfold JZ
   rw[if_neg (fun h=>h he)]
  unfold QD at k
  rw[if_pos hb,he]at k
  unfold ZX Zf XV YL at*
  simp only[Za hnt,Zb,XR,ZB]at*
  generalize JZ t a=BE at*
  generalize Xy t a=CA at*
  generalize Xz t a=AS at*
  refine SC.less (Qv Tryz.func50 (body:=Zk Tryz.f50) rfl (by decide+kernel) ?_)
  refine wS ?_
  refine Zpt (k) ?_
  refine wS ?_
  refine Br.isF rfl ?_
  refine wS ?_
  refine Zpt (k399) ?_
  refine wS ?_
  refine⟨fun h2=>?_,fun h2=>?_⟩
  ·have h2:CA=false:=nb2 h2
   rw[if_neg (by rw[h2];exact Bool.false_ne_true)]at hE
   subst hE
   refine wS ?_
   refine⟨_,[],?_,rfl,rfl⟩
   exact ZK
  ·have h2:CA=true:=nb4 h2
   rw[if_pos h2]at hE
   subst hE
   refine wS ?_
   refine⟨_,[],?_,rfl,rfl⟩
   exact ZK
 ·have hE:JZ t a=(⟨0,0⟩,Yi t a):=by
   unfold JZ
   rw[if_pos he]
  rw[hE]
  generalize Yi t a=e at*
  refine SC.less (Qv Tryz.func50 (body:=Zk Tryz.f50) rfl (by decide+kernel) ?_)
  unfold Zf XV YL at*
  by_cases hb:Zl t=0
  ·unfold QD at k
   rw[if_pos hb]at k
   unfold ZX at k
   simp only[Za hnt,Zb,XR,ZB]at*
   refine wS ?_
   refine Zpt (k) ?_
   refine wS ?_
   refine⟨fun h=>?_,fun h=>?_⟩
   ·refine wS ?_
    refine⟨_,[],?_,rfl,rfl⟩
    exact ZK
   ·exact absurd (by simpa only[bne_eq_false_iff_eq]using h) he
  ·unfold QD at k
   rw[if_neg hb]at k
   simp only[Za hnt,Zb,XR,ZB]at*
   refine wS ?_
   refine Zpt (k) ?_
   refine wS ?_
   refine⟨fun h=>?_,fun h=>?_⟩
   ·refine wS ?_
    refine⟨_,[],?_,rfl,rfl⟩
    exact ZK
   ·exact absurd (by simpa only[bne_eq_false_iff_eq]using h) he
end Go.Proofs.YtjgpiclllehgmaaGreat.Vm
namespace Go.Proofs.YtjgpiclllehgmaaGreat.Sp
open Vm
def Zc3 (st a d:Int):Stop:={station:=st,zone:=0,arrive:=a,depart:=d}
def Z9 (m:Int):Ze:={book:={zones:=[⟨0,[]⟩],old:=[⟨1,127,[Zc3 0 0 60,Zc3 1 100 110,Zc3 2 160 0]⟩,⟨2,127,[Zc3 1 0 120,Zc3 3 200 0]⟩,⟨3,127,[Zc3 1 0 180,Zc3 3 260 0]⟩],new:=[],night:=1,last:=0},runs:=[⟨1,0⟩,⟨2,0⟩,⟨3,0⟩],waits:=[⟨0,1,1,m⟩],delays:=[⟨0,0,[0,20,40]⟩]}
def Zi2:ZF:=⟨0,0,3,[⟨0,0,1⟩,⟨1,1,3⟩,⟨2,1,3⟩]⟩
def Zmj:ZF:=⟨0,0,3,[⟨0,0,1⟩,⟨1,1,3⟩]⟩
theorem Zs9:Zl (Z9 15)=0∧Zl (Z9 30)=0:=by decide+kernel
theorem Zo6:Ya (Z9 30) 1=[⟨120,140⟩,⟨200,220⟩]:=by decide+kernel
theorem Zmm:JY (Z9 15) 0=(20,0):=by decide+kernel
theorem Zkx:JZ (Z9 15) Zi2=(⟨200,260⟩,0):=by decide+kernel
theorem Zrd:Zih (Z9 15) Zmj 0=(20,220,0):=by decide+kernel
end Go.Proofs.YtjgpiclllehgmaaGreat.Sp
namespace Go.Proofs.YtjgpiclllehgmaaGreat.Vm
open Go Go.Proofs
theorem Zb0 {α β:Type} {f:α→β}:∀ {l:List α},(l.map f).Nodup→∀ {a b:α},a∈l→b∈l→f a=f b→a=b
 |x::l,h,a,b,ha,hb,e=>by
  rw[List.map_cons,List.nodup_cons]at h
  rcases List.mem_cons.1 ha with ha1|ha1<;>rcases List.mem_cons.1 hb with hb1|hb1
  ·rw[ha1,hb1]
  ·rw[ha1]at e
   exact absurd (List.mem_map.2 ⟨b,hb1,e.symm⟩) h.1
  ·rw[hb1]at e
   exact absurd (List.mem_map.2 ⟨a,ha1,e⟩) h.1
  ·exact Zb0 h.2 ha1 hb1 e
theorem NC.next {p:Unit→Program} {id ka n:Nat} {L:Unit→List (List Int×List Int)} {seen:Unit→List (List Int)} {cur:Unit→List Int×List Int} {h:List Zi} {Post:AV→List Zi→Prop} (hi:h[id]? =some (.gob (.mapIt ka n L seen cur)))
  (h1:(∀q∈L (),q.1∈seen ())→Post (.tup [.bool fun _=>false]) h)
  (h2:∀e∈L (),e.1∉seen ()→Post (.tup [.bool fun _=>true,Zd3 ka fun _=>e.1,Zd3 n fun _=>e.2]) (h.set id (.gob (.mapIt ka n L (fun _=>seen ()++[e.1]) fun _=>e)))):NC p id h Post:=⟨fun G R H=>by
 obtain⟨o,ho,hk,hg⟩:=H.blk id _ hi
 have over:(∀q∈L (),q.1∈seen ())→(∀ty,(Instr.next (.pointer (some ⟨(R.α id).b,0,none⟩)) false ty).run (p ()) R.w= .ok (.tuple #[.bool false]) R.w)→∃v R' r h',(∀ty,(Instr.next (.pointer (some ⟨(R.α id).b,0,none⟩)) false ty).run (p ()) R.w= .ok v R'.w)∧HR G R' h'∧Xh R h R' h'∧R.le R'∧VR R' r v∧Post r h':=fun hs hr=>
  ⟨_,R,_,h,hr,H,Xh.refl _ _,RC.le.refl _,.tup [.bool fun _=>false] #[.bool false] rfl (fun j c hj=>by
   cases j with
   |zero=>simp at hj;subst hj;exact .pure _ _ (.bool _)
   |succ j=>simp at hj),h1 hs⟩
 rcases hg with⟨g1,g2,sn,rfl⟩|⟨m,es,clk,sn,l,rfl,g1,g2,g3,g4,g5⟩
 ·refine over (fun q hq=>by rw[g1]at hq;cases hq) fun ty=>?_
  simp[Instr.next,getObj,Sem.run_bind,Sem.run,ho,Result.andThen]
 have hold:∀x∈es.toList,x.born<clk:=fun x hx=>by
  rw[←g3.es]at hx
  obtain⟨q,hq,rfl⟩:=List.mem_map.1 hx
  exact(g3.e q hq).2.2.2
 have hleft:∀q∈l,q.1∈(leftOf es sn).toList↔q.2.1∉seen ():=fun q hq=>by
  have hqe:q.1∈es.toList:=by rw[←g3.es];exact List.mem_map.2 ⟨q,hq,rfl⟩
  have:=g4 q hq
  unfold leftOf
  simp only[Array.toList_filter,List.mem_filter]
  rw[this]
  simp[hqe]
 rcases run_next_at (P:=p ()) R.w 0 (R.α id).b m clk clk sn es clk ho g1 hold (Nat.le_refl _)with⟨q1,_⟩|⟨e,he,w1,hw1,q2⟩
 ·refine over (fun q hq=>?_) fun ty=>?_
  ·obtain⟨q',hq',e⟩:=List.mem_map.1 (g3.L.mem_iff.2 hq)
   subst e
   have h0:q'.1∉(leftOf es sn).toList:=by
    rw[show leftOf es sn= #[] by simpa using q1]
    simp
   have:=mt (hleft q' hq').2 h0
   exact Classical.not_not.1 this
  ·rcases run_next_at (P:=p ()) R.w ty (R.α id).b m clk clk sn es clk ho g1 hold (Nat.le_refl _)with⟨_,q2⟩|⟨e,he,_⟩
   ·exact q2
   ·rw[show leftOf es sn= #[] by simpa using q1]at he
    cases he
 ·have hee:e∈es.toList:=by
   unfold leftOf at he
   simp only[Array.toList_filter,List.mem_filter]at he
   exact he.1
  rw[←g3.es]at hee
  obtain⟨q,hq,rfl⟩:=List.mem_map.1 hee
  have hns:=(hleft q hq).1 he
  have hqL:q.2∈L ():=g3.L.mem_iff.1 (List.mem_map.2 ⟨q,hq,rfl⟩)
  obtain⟨e1,e2,_,_⟩:=g3.e q hq
  have hmr:m≠(R.α id).b:=fun he=>by rw[he,ho]at g1;cases g1
  have hcont:∀q'∈l,(sn.push q.1.born).contains q'.1.born=(seen ()++[q.2.1]).contains q'.2.1:=fun q' hq'=>by
   have hiff:(q'.1.born=q.1.born)↔(q'.2.1=q.2.1):=⟨fun he=>by rw[Zb0 (f:=fun z:MapEntry×(List Int×List Int)=>z.1.born) g3.bn hq' hq he],fun he=>by rw[Zb0 (f:=fun z:MapEntry×(List Int×List Int)=>z.2.1) g3.nd hq' hq he]⟩
   have:=g4 q' hq'
   rw[Bool.eq_iff_iff]at this⊢
   simp only[Array.contains_push,Bool.or_eq_true,List.contains_eq_mem,decide_eq_true_eq,List.mem_append,List.mem_singleton,beq_iff_eq]at this⊢
   rw[this,hiff]
  have hh1:w1.heap=R.w.heap:=by rcases hw1 with rfl|rfl<;>rfl
  obtain⟨R',hw,_,hα,H',hx',hle⟩:=H.upd hi rfl (blk':=.gob (.mapIt ka n L (fun _=>seen ()++[q.2.1]) fun _=>q.2)) rfl (ChangeMaps.setBlock w1 (R.α id).b (.mapIter (some m) clk (sn.push q.1.born) clk))
   (by rcases hw1 with rfl|rfl<;>rfl) (by rcases hw1 with rfl|rfl<;>rfl) (by rcases hw1 with rfl|rfl<;>rfl) (by simp[ChangeMaps.setBlock,hh1])
   (fun b hb=>by simp[ChangeMaps.setBlock,hh1,Array.getElem?_setIfInBounds_ne (Ne.symm hb)]) (fun R' hle hα hw=>⟨.mapIter (some m) clk (sn.push q.1.born) clk,by
    rw[hw,hα]
    simp[ChangeMaps.setBlock,hh1,(Array.getElem?_eq_some_iff.1 ho).1],rfl,.inr ⟨m,es,clk,sn.push q.1.born,l,rfl,by
    rw[hw]
    simp[ChangeMaps.setBlock,hh1,Array.getElem?_setIfInBounds_ne (Ne.symm hmr),g1],hle.ok _ _ _ g2,g3,hcont,fun _=>⟨q,hq,by simp,rfl⟩⟩⟩)
  ·refine⟨_,R',_,_,fun ty=>?_,H',hx',hle,.tup [.bool fun _=>true,Zd3 ka fun _=>q.2.1,Zd3 n fun _=>q.2.2] #[.bool true,q.1.key,q.1.val] rfl (fun j c hj=>?_),h2 _ hqL hns⟩
   ·rw[hw]
    exact q2
   ·match j,hj with
    |0,hj=>simp at hj;subst hj;exact .pure _ _ (.bool _)
    |1,hj=>simp at hj;subst hj;show VR R' _ q.1.key;rw[e1];exact Zad R' ka fun _=>q.2.1
    |2,hj=>simp at hj;subst hj;show VR R' _ q.1.val;rw[e2];exact Zad R' n fun _=>q.2.2
    |j+3,hj=>simp at hj⟩
end Go.Proofs.YtjgpiclllehgmaaGreat.Vm
namespace Go.Proofs.YtjgpiclllehgmaaGreat.Sp
open Vm
def ZkK (t:Ze) (d i:Nat) (r a:Int):Bool:=
 decide ((ZU t (Zm t i) r a).comes≠(ZU t ((Zm t i).set d 0) r a).comes)||decide ((ZU t (Zm t i) r a).goes≠(ZU t ((Zm t i).set d 0) r a).goes)
def ZaN (t:Ze) (d i:Nat) (r:Nat):Bool:=decide ((Zm t i).getD d 0≠0)&&(List.range (Zj (callsOf t) r).length).any fun a=>ZkK t d i r a
def ZeI (t:Ze) (d:Nat):Nat→Nat→Bool
 |0,_=>false
 |i+1,r=>ZeI t d i r||ZaN t d i r
def Zfn (t:Ze) (d:Nat):List Int:=((List.range 4).filter fun r=>ZeI t d (Z7 t) r).map fun(r:Nat)=>(r:Int)
def Za7 (t:Ze) (d:Int):List Int×Int:=if Zl t≠0 then([],Zl t)else if Qs d 0 ((t.delays.length:Int)-1)then([],3)else(Zfn t d.toNat,0)
theorem Zo7:Za7 (Z9 30) 0=([0,1],0)∧Za7 (Z9 15) 0=([0],0):=by decide+kernel
theorem Zjd {ds:List Qj} (h6:ds.length≤6) {x:List Int}:∀m,m≤ds.length→(∀k,k<m→0≤x.getD k 0∧x.getD k 0<lenAt ds k)→∃n,n<YB ds m∧∀k,k<m→(Yb ds m n).getD k 0=x.getD k 0
 |0,_,_=>⟨0,by unfold YB;omega,fun k h=>by omega⟩
 |m+1,hm,hx=>by
  obtain⟨n,hn,he⟩:=Zjd h6 m (by omega) fun k hk=>hx k (by omega)
  have hxm:=hx m (by omega)
  have hl:0<lenAt ds m:=by omega
  have hq:(n*lenAt ds m+(x.getD m 0).toNat)/lenAt ds m=n:=by
   rw[Nat.mul_comm,Nat.mul_add_div hl,Nat.div_eq_of_lt (by omega)]
   omega
  have hr:(n*lenAt ds m+(x.getD m 0).toNat)%lenAt ds m=(x.getD m 0).toNat:=by
   rw[Nat.mul_comm,Nat.mul_add_mod,Nat.mod_eq_of_lt (by omega)]
  refine⟨n*lenAt ds m+(x.getD m 0).toNat,?_,fun k hk=>?_⟩
  ·unfold YB
   have:=Nat.mul_le_mul_right (lenAt ds m) (show n+1≤YB ds m by omega)
   rw[Nat.add_mul]at this
   omega
  ·unfold Yb
   rw[hq,hr]
   by_cases h:m=k
   ·subst h
    rw[List.getD_eq_getElem?_getD,List.getElem?_set_self (by rw[XS];omega)]
    show((x.getD m 0).toNat:Int)=_
    omega
   ·rw[List.getD_eq_getElem?_getD,List.getElem?_set_ne h,←List.getD_eq_getElem?_getD]
    exact he k (by omega)
theorem Zul {x y:List Int} (hx:x.length=6) (hy:y.length=6) (h:∀k,k<6→x.getD k 0=y.getD k 0):x=y:=by
 refine List.ext_getElem (by omega) fun k h1 h2=>?_
 have:=h k (by omega)
 rw[List.getD_eq_getElem?_getD,List.getD_eq_getElem?_getD,List.getElem?_eq_getElem h1,List.getElem?_eq_getElem h2]at this
 exact this
theorem ZjP {t:Ze} (hf:ZJ t) {x:List Int} (hx:Ja t x) (h0:∀k,t.delays.length≤k→k<6→x.getD k 0=0):∃n,n<Z7 t∧Zm t n=x:=by
 obtain⟨n,hn,he⟩:=Zjd (ds:=t.delays) hf.dlen (x:=x) t.delays.length (Nat.le_refl _) hx.d
 refine⟨n,hn,Zul (XS _ _) hx.len fun k hk=>?_⟩
 by_cases h:k<t.delays.length
 ·exact he k h
 ·show(Yb t.delays t.delays.length n).getD k 0=_
  rw[Zav _ _ _ (by omega),h0 k (by omega) hk]
def keyT (x:List Int):List Int:=[x.getD 0 0,x.getD 1 0,x.getD 2 0,x.getD 3 0,x.getD 4 0,x.getD 5 0]
theorem ZoT {x y:List Int} (hx:x.length=6) (hy:y.length=6) (h:keyT x=keyT y):x=y:=by
 unfold keyT at h
 simp only[List.cons.injEq,and_true]at h
 refine Zul hx hy fun k hk=>?_
 match k,hk with
 |0,_=>exact h.1
 |1,_=>exact h.2.1
 |2,_=>exact h.2.2.1
 |3,_=>exact h.2.2.2.1
 |4,_=>exact h.2.2.2.2.1
 |5,_=>exact h.2.2.2.2.2
def Zaa (t:Ze) (d:Nat):Nat→List (List Int×List (List Int×List Int))
 |0=>[]
 |i+1=>if(Zm t i).getD d 0=0 then Y4 (Zaa t d i) (keyT (Zm t i)) (Ql t (Zm t i))else Zaa t d i
theorem ZdH {t:Ze} {d:Nat}:∀n,((Zaa t d n).map (·.1)).Nodup∧(∀p∈Zaa t d n,∃i,p=(keyT (Zm t i),Ql t (Zm t i)))∧∀i,i<n→(Zm t i).getD d 0=0→(keyT (Zm t i),Ql t (Zm t i))∈Zaa t d n
 |0=>⟨.nil,fun p h=>(by cases h),fun i h=>by omega⟩
 |n+1=>by
  obtain⟨h1,h2,h3⟩:=ZdH (t:=t) (d:=d) n
  unfold Zaa
  split
  ·rename_i h0
   refine⟨Zdn h1,fun p hp=>?_,fun i hi hx=>?_⟩
   ·rcases Zff hp with rfl|hp
    ·exact⟨n,rfl⟩
    ·exact h2 p hp
   ·by_cases he:i=n
    ·subst he
     exact Zdm
    ·refine ZgG (h3 i (by omega) hx) fun e=>?_
     have:=ZoT (XS _ _) (XS _ _) e
     show Ql t (Zm t i)=_
     rw[show Zm t i=Zm t n from this]
  ·rename_i h0
   refine⟨h1,h2,fun i hi hx=>?_⟩
   by_cases he:i=n
   ·subst he
    exact absurd hx h0
   ·exact h3 i (by omega) hx
theorem Zml {t:Ze} (hf:ZJ t) {d i:Nat} (hd:d<t.delays.length):(Zaa t d (Z7 t)).lookup (keyT ((Zm t i).set d 0))=some (Ql t ((Zm t i).set d 0)):=by
 have hfit:=Yj hf i
 have h6:=hf.dlen
 have hget:∀k,((Zm t i).set d 0).getD k 0=if k=d then 0 else(Zm t i).getD k 0:=fun k=>by
  by_cases h:k=d
  ·subst h
   rw[if_pos rfl,List.getD_eq_getElem?_getD,List.getElem?_set_self (by rw[hfit.len];omega)]
   rfl
  ·rw[if_neg h,List.getD_eq_getElem?_getD,List.getElem?_set_ne (Ne.symm h),←List.getD_eq_getElem?_getD]
 obtain⟨n,hn,he⟩:=ZjP hf (x:=(Zm t i).set d 0) ⟨by rw[List.length_set];exact hfit.len,fun k hk=>by
  rw[hget]
  split
  ·have:=(hfit.d k hk)
   omega
  ·exact hfit.d k hk⟩ fun k h1 h2=>by
  rw[hget]
  split
  ·rfl
  ·exact Zav _ _ _ h1
 rw[←he]
 refine Zb3 (ZdH _).1 ((ZdH _).2.2 n hn ?_)
 rw[he,hget,if_pos rfl]
theorem ZsX {x:List Int} {D:Nat} (hx:x.length=6) (hD:D<6):(x.getD 0 0==(x.set D 0).getD 0 0&&(x.getD 1 0==(x.set D 0).getD 1 0&&(x.getD 2 0==(x.set D 0).getD 2 0&&(x.getD 3 0==(x.set D 0).getD 3 0&&(x.getD 4 0==(x.set D 0).getD 4 0&&(x.getD 5 0==(x.set D 0).getD 5 0&&true))))))=decide (x.getD D 0=0):=by
 match x,hx with
 |[a0,a1,a2,a3,a4,a5],_=>
  match D,hD with
  |0,_|1,_|2,_|3,_|4,_|5,_=>simp[List.set,List.getD];rfl
theorem Zj4 {t:Ze} {d i:Nat} (h:(Zm t i).getD d 0=0) (r:Nat):ZaN t d i r=false:=by
 unfold ZaN
 rw[decide_eq_false (fun hn=>hn h),Bool.false_and]
def Zkr (W:List (List Int×List Int)) (p:List Int×List Int):Bool:=p.2.headD 0 !=((W.lookup p.1).getD []).headD 0||p.2.tail.tail.headD 0 !=((W.lookup p.1).getD []).tail.tail.headD 0
def cvE (L W:List (List Int×List Int)) (S:List (List Int)) (r:Nat):Bool:=L.any fun p=>S.contains p.1&&(p.1.headD 0==(r:Int)&&Zkr W p)
theorem Zri {L W:List (List Int×List Int)} {r:Nat}:cvE L W [] r=false:=by
 unfold cvE
 rw[List.any_eq_false]
 intro p _
 simp
theorem Zph {L W:List (List Int×List Int)} {S:List (List Int)} {e:List Int×List Int} (he:e∈L) (hn:(L.map (·.1)).Nodup) (r:Nat):cvE L W (S++[e.1]) r=(cvE L W S r||(e.1.headD 0==(r:Int)&&Zkr W e)):=by
 unfold cvE
 rw[Bool.eq_iff_iff]
 simp only[List.any_eq_true,Bool.or_eq_true,Bool.and_eq_true,List.contains_eq_mem,decide_eq_true_eq,List.mem_append,List.mem_singleton]
 constructor
 ·rintro⟨p,hp,h1|h1,h2⟩
  ·exact .inl ⟨p,hp,h1,h2⟩
  ·have:p=e:=Zb0 (f:=fun q:List Int×List Int=>q.1) hn hp he h1
   subst this
   exact .inr h2
 ·rintro(⟨p,hp,h1,h2⟩|h2)
  ·exact⟨p,hp,.inl h1,h2⟩
  ·exact⟨e,he,.inr rfl,h2⟩
theorem ZiZ {t:Ze} {x:List Int}:((Ql t x).map (·.1)).Nodup:=by
 unfold Ql
 rw[List.map_map]
 exact List.Pairwise.map _ (fun a b hab e=>by
  apply hab
  simp only[Function.comp,List.cons.injEq,and_true]at e
  exact Prod.ext e.1 e.2) Zbo
theorem Zi0 {t:Ze} (hf:ZJ t) {x:List Int} {p:List Int×List Int} (hp:p∈Ql t x): [p.1.headD 0,p.1.tail.headD 0]=p.1∧0≤p.1.headD 0∧p.1.headD 0<4:=by
 obtain⟨⟨r,a⟩,hs,rfl⟩:=List.mem_map.1 hp
 have hs:=Jt.1 hs
 have:=hf.calls.len
 exact⟨rfl,hs.1,by have:=hs.2.1;show r<4;omega⟩
theorem Zla {L:List (List Int×List Int)} {S:List (List Int)} {e:List Int×List Int} (he:e∈L) (hn:e.1∉S):(L.filter fun q=> !(S++[e.1]).contains q.1).length<(L.filter fun q=> !S.contains q.1).length:=by
 refine ZdI (x:=e) (fun q hq=>?_) he (by simpa using hn) (by simp)
 simp only[Bool.not_eq_true',List.contains_eq_mem,List.mem_append,decide_eq_false_iff_not]at hq⊢
 exact fun h=>hq (.inl h)
theorem Zrj {t:Ze} {d i:Nat} (h0:(Zm t i).getD d 0≠0) {S:List (List Int)} (hS:∀p∈Ql t (Zm t i),p.1∈S) {r:Nat}:cvE (Ql t (Zm t i)) (Ql t ((Zm t i).set d 0)) S r=ZaN t d i r:=by
 have hat:∀r a,StopIn (callsOf t) r a→Zkr (Ql t ((Zm t i).set d 0)) ([r,a],Zcg (ZU t (Zm t i) r a))=ZkK t d i r a:=fun r a hs=>by
  unfold Zkr ZkK
  rw[Zar hs]
  show((ZU t (Zm t i) r a).comes !=(ZU t ((Zm t i).set d 0) r a).comes||(ZU t (Zm t i) r a).goes !=(ZU t ((Zm t i).set d 0) r a).goes)=_
  rw[Bool.eq_iff_iff]
  simp
 unfold cvE ZaN
 rw[decide_eq_true h0,Bool.true_and,Bool.eq_iff_iff]
 simp only[List.any_eq_true,Bool.and_eq_true,List.contains_eq_mem,decide_eq_true_eq,List.mem_range,beq_iff_eq]
 constructor
 ·rintro⟨p,hp,_,h2,h3⟩
  obtain⟨⟨r',a⟩,hs,rfl⟩:=List.mem_map.1 hp
  have hs:=Jt.1 hs
  have h2:r'=(r:Int):=h2
  subst h2
  have h3:Zkr (Ql t ((Zm t i).set d 0)) ([(r:Int),a],Zcg (ZU t (Zm t i) r a))=true:=h3
  rw[hat _ _ hs]at h3
  exact⟨a.toNat,by have:=hs.2.2.2;have:=hs.2.2.1;omega,by rw[show((a.toNat:Nat):Int)=a by have:=hs.2.2.1;omega];exact h3⟩
 ·rintro⟨a,ha,h3⟩
  by_cases hr:r<(callsOf t).length
  ·have hs:StopIn (callsOf t) r a:=⟨by omega,by omega,by omega,by omega⟩
   have hm:([(r:Int),(a:Int)],Zcg (ZU t (Zm t i) r a))∈Ql t (Zm t i):=List.mem_map.2 ⟨((r:Int),(a:Int)),Jt.2 hs,rfl⟩
   exact⟨_,hm,hS _ hm,rfl,by rw[hat _ _ hs];exact h3⟩
  ·exfalso
   have:Zj (callsOf t) r=[]:=by
    unfold Zj
    rw[List.getD_eq_getElem?_getD,List.getElem?_eq_none (by omega)]
    rfl
   rw[this]at ha
   simp at ha
end Go.Proofs.YtjgpiclllehgmaaGreat.Sp
namespace Go.Proofs.YtjgpiclllehgmaaGreat.Vm
open Go Go.Proofs Sp
set_option maxRecDepth 100000
set_option maxHeartbeats 800000
def XB (s:Int):Zi:=.cells [.int .u64 fun _=>s]
theorem ZmV (n:Int):0≤IntKind.u64.wrap n∧IntKind.u64.wrap n<18446744073709551616:=by
 have h:IntKind.u64.wrap n=n%18446744073709551616:=by
  simp[IntKind.wrap,IntKind.signed,IntKind.bits]
 omega
theorem c60 (s:Int):SC (fun _=>Tryz.prog) 79 [.ptr 0 0] [XB s] fun r h=>∃x s':Int,(0≤x∧x<18446744073709551616)∧r= .int .u64 (fun _=>x)∧h=[XB s']:=by
 refine Qv Tryz.func79 (body:=Zk Tryz.f79) rfl (by decide+kernel) ?_
 (cbv;(try simp only[nc]at*);(try refine Chk.mk (Qd) ?_))
 exact⟨_,_,ZmV _,rfl,rfl⟩
theorem ZsN (x m:Int) (h0:0≤x∧x<18446744073709551616) (h1:1≤m) (h2:m≤1000000000):
  0≤(x.fdiv (2^ min (Int.toNat 13) IntKind.u64.bits)).tmod (IntKind.u64.wrap (m+1))∧(x.fdiv (2^ min (Int.toNat 13) IntKind.u64.bits)).tmod (IntKind.u64.wrap (m+1))≤m∧IntKind.u64.wrap (m+1)≠0:=by
 have hw:IntKind.u64.wrap (m+1)=m+1:=by
  have h:∀n,IntKind.u64.wrap n=n%18446744073709551616:=fun n=>by simp[IntKind.wrap,IntKind.signed,IntKind.bits]
  rw[h];omega
 rw[hw]
 have h3:(2:Int)^ min (Int.toNat 13) IntKind.u64.bits=8192:=by decide
 rw[h3]
 have h4:0≤x.fdiv 8192:=by rw[Int.fdiv_eq_ediv_of_nonneg _ (by omega)];omega
 rw[Int.tmod_eq_emod_of_nonneg h4]
 have:=Int.emod_nonneg (x.fdiv 8192) (show m+1≠0 by omega)
 have:=Int.emod_lt_of_pos (x.fdiv 8192) (show 0<m+1 by omega)
 omega
theorem c17 (s m:Int) (hm:m≤1000000000):SC (fun _=>Tryz.prog) 21 [.ptr 0 0,.int .i64 fun _=>m] [XB s] fun r h=>∃x s':Int,(0≤x∧(x≤m∨x=0))∧r= .int .i64 (fun _=>x)∧h=[XB s']:=by
 refine Qv Tryz.func21 (body:=Zk Tryz.f21) rfl (by decide+kernel) ?_
 cbv
 refine⟨fun hb=>?_,fun hb=>?_⟩
 ·(cbv;(try simp only[nc]at*);(try refine Chk.mk (Qd) ?_))
  exact⟨0,s,⟨by omega,.inr rfl⟩,rfl,rfl⟩
 ·simp only[decide_eq_false_iff_not]at hb
  (cbv;(try simp only[nc]at*);(try refine Chk.mk (Qd) ?_))
  refine ZP [0] (c60 s) (by decide) (by simp) rfl rfl fun r h₂ hp=>?_
  obtain⟨x,s',hx,rfl,rfl⟩:=hp
  have hv:=ZsN x m hx (by omega) (by omega)
  (cbv;try simp only[nc]at*)
  generalize (x.fdiv (2^ min (Int.toNat 13) IntKind.u64.bits)).tmod (IntKind.u64.wrap (m+1))=y at*
  generalize IntKind.u64.wrap (m+1)=z at*
  refine Chk.mk (Qd) ?_
  exact⟨y,s',⟨by omega,.inl (by omega)⟩,rfl,rfl⟩
theorem c22 (s l m:Int) (hl:-1000000000≤l∧l≤1000000000) (hm:m-l≤1000000000∧-1000000000≤m):SC (fun _=>Tryz.prog) 48 [.ptr 0 0,.int .i64 fun _=>l,.int .i64 fun _=>m] [XB s] fun r h=>∃x s':Int,(l≤x∧(x≤m∨x=l))∧r= .int .i64 (fun _=>x)∧h=[XB s']:=by
 refine Qv Tryz.func48 (body:=Zk Tryz.f48) rfl (by decide+kernel) ?_
 (cbv;(try simp only[nc]at*);(try refine Chk.mk (Qd) ?_))
 refine ZP [0] (c17 s (m-l) (by omega)) (by decide) (by simp) rfl rfl fun r h₂ hp=>?_
 obtain⟨x,s',hx,rfl,rfl⟩:=hp
 (cbv;(try simp only[nc]at*);(try refine Chk.mk (Qd) ?_))
 exact⟨l+x,s',by omega,rfl,rfl⟩
theorem c37 (s n m:Int) (hm:0≤m∧m≤1000000000):SC (fun _=>Tryz.prog) 72 [.ptr 0 0,.int .i64 fun _=>n,.int .i64 fun _=>m] [XB s] fun r h=>∃(b:Bool) (s':Int),r= .bool (fun _=>b)∧h=[XB s']:=by
 refine Qv Tryz.func72 (body:=Zk Tryz.f72) rfl (by decide+kernel) ?_
 (cbv;(try simp only[nc]at*);(try refine Chk.mk (Qd) ?_))
 refine ZP [0] (c17 s (m-1) (by omega)) (by decide) (by simp) rfl rfl fun r h₂ hp=>?_
 obtain⟨x,s',hx,rfl,rfl⟩:=hp
 (cbv;(try simp only[nc]at*);(try refine Chk.mk (Qd) ?_))
 exact⟨_,s',rfl,rfl⟩
theorem c81 (s:Int) (l:List Int) (hl:0<l.length∧l.length≤1000000):SC (fun _=>Tryz.prog) 57 [.ptr 0 0,lst 1 XJ 0 l] [XB s] fun r h=>∃x s':Int,x∈l∧r= .int .i64 (fun _=>x)∧h=[XB s']:=by
 obtain⟨nt,hnt⟩:=Zu
 rw[Za hnt]
 refine Qv Tryz.func57 (body:=Zk Tryz.f57) rfl (by decide+kernel) ?_
 cbv
 refine⟨fun hb=>?_,fun hb=>?_⟩
 ·simp only[nc,beq_iff_eq]at hb
  omega
 (cbv;(try simp only[nc]at*);(try refine Chk.mk (Qd) ?_))
 refine ZP [0] (c17 s ((l.length:Int)-1) (by omega)) (by decide) (by simp) rfl rfl fun r h₂ hp=>?_
 obtain⟨x,s',hx,rfl,rfl⟩:=hp
 (cbv;(try simp only[nc]at*);(try refine Chk.mk (Qd) ?_))
 obtain⟨i,rfl⟩:∃i:Nat,x=i:=⟨x.toNat,by omega⟩
 exact⟨_,s',QQ hnt (by omega),rfl,rfl⟩
theorem c14 (l:List Int) (hl:(l.length:Int)≤9223372036854775807):SC (fun _=>Tryz.prog) 18 [lst 1 XJ 0 l] [] fun r h=>∃s:Int,r= .ptr 0 0∧h=[XB s]:=by
 obtain⟨nt,hnt⟩:=Zu
 rw[Za hnt]
 refine Zvo true false Tryz.func18 (body:=Zk Tryz.f18) rfl (by decide+kernel) ?_
 (cbv;(try simp only[nc]at*);(try refine Chk.mk (Qd) ?_))
 refine Zud true false [0,3,4] (fun(⟨i,s⟩:Nat×Int)=>mkS 41 [(0,.isl 1 (fun _=>(l.length:Int)) (fun e=>XJ (nt Int 0 l (e ()))) .none),(3,.ptr 0 0),(4,.int .i64 fun _=>(i:Int))])
  (fun⟨i,s⟩=>[XB s]) (fun⟨i,s⟩=>i≤l.length) (fun i=>l.length-i.1+0) (0,11400714819323198485) 1 (fun _=>rfl) (Nat.zero_le _) (To.of [] ?_) ?_
 ·cbv
  exact⟨⟨.refl _,.refl _,.int rfl,trivial⟩,.refl _,trivial⟩
 rintro⟨i,s⟩ hi
 have hi:i≤l.length:=hi
 (cbv;(try simp only[nc]at*);(try refine Chk.mk (Qd) ?_))
 refine⟨fun hb=>?_,fun hb=>?_⟩
 ·simp only[decide_eq_true_eq]at hb
  (cbv;(try simp only[nc]at*);(try refine Chk.mk (Qd) ?_))
  exact⟨(i+1,_),(by omega:i+1≤l.length),by show l.length-(i+1)+0<l.length-i+0;omega,To.of [] (by
   cbv
   exact⟨⟨.refl _,.refl _,.int rfl,trivial⟩,.refl _,trivial⟩)⟩
 ·(cbv;(try simp only[nc]at*);(try refine Chk.mk (Qd) ?_))
  exact⟨s,rfl,rfl⟩
attribute [local irreducible] Dn
def ZpN (n:Int):Prop:=n=60∨n=-60∨n=30∨n=-90∨(1≤n∧n≤20)
structure Zpz (k:Int) (z:Sp.Zone):Prop where
 base:-120≤z.base∧z.base≤120
 len:(z.chs.length:Int)≤k∨z.chs.length=0
 asc:z.chs.Pairwise fun a b=>a.at_<b.at_
 at_:∀c∈z.chs,0≤c.at_∧c.at_≤1500+2000*((z.chs.length:Int)-1)
 by_:∀c∈z.chs,ZpN c.by_
theorem Zq2 {α:Type} {n k sz:Nat} (enc:α→List AV) (d:α) (l:List α):ZH n k (ZfC sz (l.map enc)) (lst sz enc d l):=
 .none (by simp) fun i hi=>by
  have hi:i<l.length:=by simpa using hi
  show(l.map enc).getD i _=enc (l.getD i d)
  simp[List.getD_eq_getElem?_getD,List.getElem?_eq_getElem hi]
theorem Zjm (s:Int) (l:List Int) (hl:0<l.length∧l.length≤1000000):SC (fun _=>Tryz.prog) 57 [.ptr 0 0,ZfC 1 (l.map XJ)] [XB s] fun r h=>∃x s':Int,x∈l∧r= .int .i64 (fun _=>x)∧h=[XB s']:=
 SC.to (xs₂:=[.ptr 0 0,lst 1 XJ 0 l]) (h₂:=[XB s]) (To.of [] ⟨⟨.refl _,Zq2 XJ 0 l,trivial⟩,.refl _,trivial⟩) (c81 s l hl)
theorem c29 (s k:Int) (hk:k≤10):SC (fun _=>Tryz.prog) 73 [.ptr 0 0,.int .i64 fun _=>k] [XB s] fun r h=>∃(z:Sp.Zone) (s':Int),Zpz k z∧r=Zd z∧h=[XB s']:=by
 obtain⟨nt,hnt⟩:=Zu
 refine SC.less (Qv Tryz.func73 (body:=Zk Tryz.f73) rfl (by decide+kernel) ?_)
 refine wS ?_
 refine ZP [0] (c22 s (-4) 4 (by omega) (by omega)) (by decide) (by simp) rfl rfl fun r h₂ hp=>?_
 obtain⟨b,s1,hb,rfl,rfl⟩:=hp
 refine wS ?_
 refine ZP [0] (c17 s1 1500 (by omega)) (by decide) (by simp) rfl rfl fun r h₂ hp=>?_
 obtain⟨a,s2,ha,rfl,rfl⟩:=hp
 refine wS ?_
 refine ZP [0] (c17 s2 k (by omega)) (by decide) (by simp) rfl rfl fun r h₂ hp=>?_
 obtain⟨n,s3,hn,rfl,rfl⟩:=hp
 refine wS ?_
 refine ZiP [0,4,5,6,7] (fun(⟨i,t,s,l⟩:Int×Int×Int×List Chg)=>mkS 43 [(0,.ptr 0 0),(4,.ptr 1 0),(5,.ptr 2 0),(6,.int .i64 fun _=>t),(7,.int .i64 fun _=>i)])
  (fun⟨i,t,s,l⟩=>[XB s,.cells [.int .i64 fun _=>0,.isl 0 (fun _=>0) (fun _=>[]) .nil],.cells [.int .i64 fun _=>30*b,.isl 2 (fun _=>(l.length:Int)) (fun e=>JI (nt Chg default l (e ()))) (.own 3)],.tok 2 fun _=>(l.length:Int)])
  (fun⟨i,t,s,l⟩=>0≤i∧(l.length+i≤k∨(l.length:Int)+i=0)∧0≤t∧t≤1500+2000*(l.length:Int)∧l.Pairwise (fun a b=>a.at_<b.at_)∧(∀c∈l,0≤c.at_∧c.at_<t∧c.at_≤1500+2000*((l.length:Int)-1))∧∀c∈l,ZpN c.by_)
  (fun i=>i.1.toNat+0) (n,a,s3,[]) 4 (fun _=>rfl) ⟨by omega,by simp;omega,by omega,by simp;omega,.nil,by simp,by simp⟩ (To.of [(2,false)] ?_) ?_
 ·cbv
  exact⟨⟨.refl _,.refl _,.refl _,.refl _,.refl _,trivial⟩,.refl _,.refl _,.cells ⟨.refl _,.nilOwn (by decide) (by decide) rfl,trivial⟩,.tok rfl,trivial⟩
 rintro⟨i,t,s,l⟩ ⟨hi,hlen,ht0,ht,hpw,hat,hby⟩
 refine wS ?_
 refine⟨fun hb=>?_,fun hb=>?_⟩
 ·simp only[gt_iff_lt,decide_eq_true_eq]at hb
  refine wS ?_
  refine ZP [0] (c22 s 1 20 (by omega) (by omega)) (by decide) (by simp) rfl rfl fun r h₂ hp=>?_
  obtain⟨x,s1,hx,rfl,rfl⟩:=hp
  refine wS ?_
  refine ZP [0] (Zjm s1 [60,-60,30,-90,x] (by simp)) (by decide) (by simp) rfl rfl fun r h₂ hp=>?_
  obtain⟨y,s2,hy,rfl,rfl⟩:=hp
  refine wS ?_
  refine ZP [0] (c22 s2 1 40 (by omega) (by omega)) (by decide) (by simp) rfl rfl fun r h₂ hp=>?_
  obtain⟨u,s3,hu,rfl,rfl⟩:=hp
  refine wS ?_
  refine ZP [0] (c22 s3 100 2000 (by omega) (by omega)) (by decide) (by simp) rfl rfl fun r h₂ hp=>?_
  obtain⟨v,s4,hv,rfl,rfl⟩:=hp
  refine wS ?_
  refine ZP [0] (Zjm s4 [u,v] (by simp)) (by decide) (by simp) rfl rfl fun r h₂ hp=>?_
  obtain⟨q,s5,hq,rfl,rfl⟩:=hp
  have hq:1≤q∧q≤2000:=by simp at hq;omega
  refine wS ?_
  have hlen':((l++[(⟨t,y⟩:Chg)]).length:Int)=l.length+1:=by simp
  refine⟨(i-1,t+q,s5,l++[⟨t,y⟩]),⟨by dsimp only;omega,by dsimp only;omega,by dsimp only;omega,by dsimp only;omega,?_,?_,?_⟩,by show(i-1).toNat+0<i.toNat+0;omega,To.of [] ?_⟩
  ·refine List.pairwise_append.2 ⟨hpw,List.pairwise_singleton _ _,fun c hc d hd=>?_⟩
   simp only[List.mem_singleton]at hd
   subst hd
   exact(hat c hc).2.1
  ·intro c hc
   rw[hlen']
   dsimp only
   rcases List.mem_append.1 hc with hc|hc
   ·have:=hat c hc
    omega
   ·simp only[List.mem_singleton]at hc
    subst hc
    dsimp only
    omega
  ·intro c hc
   rcases List.mem_append.1 hc with hc|hc
   ·exact hby c hc
   ·simp only[List.mem_singleton]at hc
    subst hc
    simp at hy
    unfold ZpN
    dsimp only
    omega
  ·cbv
   exact⟨⟨.refl _,.refl _,.refl _,.refl _,.refl _,trivial⟩,.refl _,.refl _,.cells ⟨.refl _,.snoc hnt rfl rfl rfl,trivial⟩,.tok (by simp),trivial⟩
 ·simp only[decide_eq_false_iff_not]at hb
  refine wS ?_
  exact⟨Zd ⟨30*b,l⟩,[XB s],To.of [] ⟨⟨.agg ⟨.refl _,.lst hnt rfl,trivial⟩,trivial⟩,.refl _,trivial⟩,⟨30*b,l⟩,_,⟨by dsimp only;omega,by dsimp only;omega,hpw,fun c hc=>by have:=hat c hc;dsimp only;omega,hby⟩,rfl,rfl⟩
set_option maxHeartbeats 1600000
structure Zhe (n:Nat) (L:List Int):Prop where
 len:L.length=n
 bd:∀i,i<n→0≤L.getD i 0∧L.getD i 0<n
 inj:∀i j,i<n→j<n→L.getD i 0=L.getD j 0→i=j
theorem ZbU {L:List Int} {i k:Nat} (hi:i<L.length) (hk:k<L.length) (x:Nat):((L.set i (L.getD k 0)).set k (L.getD i 0)).getD x 0=L.getD (if x=k then i else if x=i then k else x) 0:=by
 simp only[List.getD_eq_getElem?_getD,List.getElem?_set,List.length_set]
 by_cases h1:x=k
 ·subst h1
  simp[hk]
 ·rw[if_neg (Ne.symm h1),if_neg h1]
  by_cases h2:x=i
  ·subst h2
   simp[hi]
  ·rw[if_neg (Ne.symm h2),if_neg h2]
theorem Zhe.swap {n:Nat} {L:List Int} (h:Zhe n L) {i k:Nat} (hi:i<n) (hk:k<n):Zhe n ((L.set i (L.getD k 0)).set k (L.getD i 0)):=by
 have hl:=h.len
 refine⟨by simpa using hl,fun x hx=>?_,fun x y hx hy e=>?_⟩
 ·rw[ZbU (by omega) (by omega)]
  exact h.bd _ (by split<;>(try split)<;>omega)
 ·rw[ZbU (by omega) (by omega),ZbU (by omega) (by omega)]at e
  have:=h.inj _ _ (by split<;>(try split)<;>omega) (by split<;>(try split)<;>omega) e
  split at this<;>split at this<;>(try split at this)<;>(try split at this)<;>omega
theorem ZqJ {nt:(α:Type)→α→List α→Int→α} (hnt:∀(α:Type) (d:α) (l:List α) (i:Int),nt α d l i=l.getD i.toNat d) {L:List Int} {i x:Nat} {v:Int} (hi:i<L.length):(bif decide ((x:Int)=0+(i:Int))then v else nt Int 0 L (x:Int))=nt Int 0 (L.set i v) (x:Int):=by
 rw[hnt,hnt]
 simp only[Int.toNat_natCast,List.getD_eq_getElem?_getD,List.getElem?_set]
 by_cases h:i=x
 ·subst h
  rw[decide_eq_true (by omega)]
  simp[hi]
 ·rw[decide_eq_false (by omega),if_neg h]
  rfl
theorem Zoe {nt:(α:Type)→α→List α→Int→α} (hnt:∀(α:Type) (d:α) (l:List α) (i:Int),nt α d l i=l.getD i.toNat d) {L:List Int} {i k x:Nat} {p q:Int} (hi:i<L.length) (hk:k<L.length) (hp:p=i) (hq:q=k):
  (bif decide ((x:Int)=0+q)then nt Int 0 L (0+p)else bif decide ((x:Int)=0+p)then nt Int 0 L (0+q)else nt Int 0 L (x:Int))=nt Int 0 ((L.set i (L.getD k 0)).set k (L.getD i 0)) (x:Int):=by
 subst hp hq
 simp only[hnt,Int.toNat_natCast,Int.zero_add]
 rw[ZbU hi hk]
 by_cases h1:x=k
 ·rw[decide_eq_true (by omega),if_pos h1];rfl
 ·rw[decide_eq_false (by omega),if_neg h1]
  by_cases h2:x=i
  ·rw[decide_eq_true (by omega),if_pos h2];rfl
  ·rw[decide_eq_false (by omega),if_neg h2];rfl
theorem Zv6 (s:Int) (n:Nat) (hn:n≤1000):SC (fun _=>Tryz.prog) 127 [.ptr 0 0,.int .i64 fun _=>(n:Int)] [XB s] fun v h=>∃(L:List Int) (s':Int),Zhe n L∧v=lst 1 XJ 0 L∧h=[XB s']:=by
 obtain⟨nt,hnt⟩:=Zu
 obtain⟨Z,hZ1,hZ2⟩:∃Z:List Int,Z.length=n∧∀j:Nat,Z.getD j 0=0:=⟨List.replicate n 0,by simp,fun j=>by simp only[List.getD_eq_getElem?_getD,List.getElem?_replicate];split<;>rfl⟩
 refine SC.less (Qv Tryz.func127 (body:=Zk Tryz.f127) rfl (by decide+kernel) ?_)
 refine vS ?_
 simp only[show¬((n:Int)<0)from by omega,if_false]
 refine Chk.mk (Qd) ?_
 refine ZS false false [] [0,1,5,6] [] (fun(⟨i,L⟩:Nat×List Int)=>[(6,.int .i64 fun _=>i)]) (fun⟨i,L⟩=>[(1,.arr 1 (fun _=>(n:Int)) (fun e=>XJ (nt Int 0 L (e ()))))])
  (fun⟨i,L⟩=>i≤n∧L.length=n∧∀j,j<i→L.getD j 0=(j:Int)) (fun i=>n-i.1+0) (0,Z) ⟨Nat.zero_le _,hZ1,fun j hj=>by omega⟩ ?_ ?_
 ·refine JO ?_
  refine .arr rfl fun x hx=>?_
  show [AV.int .i64 fun _=>_]=[AV.int .i64 fun _=>_]
  refine congrArg (fun y:Int=>[AV.int .i64 fun _=>y]) ?_
  rw[hnt]
  exact(hZ2 _).symm
 rintro⟨i,L⟩ ⟨hi,hL,hj⟩
 refine wS ?_
 refine⟨fun hb=>?_,fun hb=>?_⟩
 ·simp only[decide_eq_true_eq]at hb
  have hil:i<L.length:=by omega
  refine wS ?_
  refine⟨(i+1,L.set i (i:Int)),⟨by omega,by simpa using hL,fun j hj'=>?_⟩,by show n-(i+1)+0<n-i+0;omega,?_⟩
  ·simp only[List.getD_eq_getElem?_getD,List.getElem?_set]
   by_cases h:i=j
   ·subst h
    rw[if_pos rfl,if_pos (by omega)]
    rfl
   ·rw[if_neg h,←List.getD_eq_getElem?_getD];exact hj j (by omega)
  refine JO ?_
  refine .arr rfl fun x hx=>?_
  show [AV.int .i64 fun _=>_]=[AV.int .i64 fun _=>_]
  refine congrArg (fun y:Int=>[AV.int .i64 fun _=>y]) ?_
  exact ZqJ hnt hil
 ·simp only[decide_eq_false_iff_not]at hb
  have hD:Zhe n L:=⟨hL,fun j hj'=>by rw[hj j (by omega)];omega,fun j k h1 h2 e=>by rw[hj j (by omega),hj k (by omega)]at e;omega⟩
  refine wS ?_
  clear hj hL
  refine ZS false false [] [0,5,7] [] (fun(⟨i,L,s⟩:Nat×List Int×Int)=>[(7,.int .i64 fun _=>(i:Int)-1)]) (fun⟨i,L,s⟩=>[(0,XB s),(1,.arr 1 (fun _=>(n:Int)) (fun e=>XJ (nt Int 0 L (e ()))))])
   (fun⟨i,L,s⟩=>i≤n∧Zhe n L) (fun i=>i.1+0) (n,L,s) ⟨Nat.le_refl _,hD⟩ ?_ ?_
  ·exact ZK
  rintro⟨i,L,s⟩ ⟨hi,hD⟩
  have hL:=hD.len
  refine wS ?_
  refine⟨fun hb=>?_,fun hb=>?_⟩
  ·simp only[decide_eq_true_eq]at hb
   refine wS ?_
   refine cL0 [0] (c17 s ((i:Int)-1) (by omega)) fun r h₂ hp=>?_
   (try simp only[Zd,Zc,Za hnt]at hp)
   obtain⟨x,s',hx,rfl,rfl⟩:=hp
   refine wS ?_
   obtain⟨k,rfl⟩:∃k:Nat,x=k:=⟨x.toNat,by omega⟩
   obtain⟨j,rfl⟩:∃j,i=j+1:=⟨i-1,by omega⟩
   refine⟨(j,(L.set j (L.getD k 0)).set k (L.getD j 0),s'),⟨by omega,hD.swap (by omega) (by omega)⟩,by show j+0<j+1+0;omega,?_⟩
   have hjl:j<L.length:=by omega
   have hkl:k<L.length:=by omega
   refine JO ?_
   refine .arr rfl fun x hx=>?_
   show [AV.int .i64 fun _=>_]=[AV.int .i64 fun _=>_]
   refine congrArg (fun y:Int=>[AV.int .i64 fun _=>y]) ?_
   exact Zoe hnt hjl hkl (by omega) rfl
  ·refine wS ?_
   refine⟨lst 1 XJ 0 L,[XB s],?_,L,s,hD,rfl,rfl⟩
   rw[Za hnt]
   refine JO ?_
   refine .none (by omega) fun x hx=>?_
   show XJ (nt Int 0 L (0+(x:Int)))=XJ (nt Int 0 L (x:Int))
   rw[Int.zero_add]
structure Zha (zones:Int) (stations:Nat) (number:Int) (t:Train):Prop where
 number:t.number=number
 days:1≤t.days∧t.days≤127
 len:2≤t.stops.length∧t.stops.length≤4∧t.stops.length≤stations
 stop:∀s∈t.stops,(0≤s.station∧s.station<stations)∧(0≤s.zone∧s.zone<zones)∧0≤s.arrive∧s.arrive≤s.depart∧s.depart≤4319
 nodup:t.stops.Pairwise fun a b=>a.station≠b.station
end Go.Proofs.YtjgpiclllehgmaaGreat.Vm
