/- Contracts of late: how a traveller goes on (travel). -/
import Derived.Maps.RangeRun
import Derived.KernelRfl
import Derived.Test.YtjgpiclllehgmaaGreatB2
import Derived.Test.YtjgpiclllehgmaaGreatB0
import Derived.Test.YtjgpiclllehgmaaGreatB1
import Derived.Test.YtjgpiclllehgmaaGreatM5
set_option linter.all false
namespace Go.Proofs.YtjgpiclllehgmaaGreat.Vm
attribute [local irreducible] Dn
open Go Go.Proofs Sp
set_option maxRecDepth 100000
set_option maxHeartbeats 4000000
theorem ZtA {rd:Bool} {nb:Nat} {K:Ex→List AV→List Zi→Cd→Prop} {k:List Item} {s:List AV} {h:List Zi} {ι:Type} (L:List Nat) (n:Nat) (S:ι→List AV) (Hp:ι→List Zi) (inv:ι→Prop) (μ:ι→Nat) (i:ι)
  (hi:inv i) (hn:Z4 n h.length=true) (h0:Z4 nb n=true) (hto:To (trimS n h (Vm.keep L s)) (Vm.sel true (List.range n) h) (S i) (Hp i))
  (step:∀i,inv i→(∀j,inv j→μ j<μ i→HP rd nb (fun _=>Tryz.prog) k K (S j) (Hp j))→HP rd nb (fun _=>Tryz.prog) k K (S i) (Hp i)):HP rd nb (fun _=>Tryz.prog) k K s h:=by
 have key:∀(m:Nat) (i:ι),μ i<m→inv i→HP rd nb (fun _=>Tryz.prog) k K (S i) (Hp i):=by
  intro m
  induction m with
  |zero=>intro i h;omega
  |succ m ih=>exact fun i hm hi=>step i hi fun j hj hlt=>ih j (by omega) hj
 exact Zbr L n hn h0 hto (key (μ i+1) i (Nat.lt_succ_self _) hi)
theorem Zoo {rd:Bool} {nb:Nat} {K:Ex→List AV→List Zi→Cd→Prop} {k:List Item} {s:List AV} {h:List Zi} {ι:Type} (L:List Nat) (n:Nat) (ex:List Zi) (ch:ι→List (Nat×AV)) (hc:ι→List (Nat×Zi)) (inv:ι→Prop) (μ:ι→Nat) (i:ι)
  (hi:inv i) (hn:Z4 n h.length=true) (h0:Z4 nb n=true) (hto:To (trimS n h (Vm.keep L s)) (Vm.sel true (List.range n) h) (Jp (Vm.keep L s) (ch i)) (Yy (Vm.sel true (List.range n) h++ex) (hc i)))
  (step:∀i,inv i→(∀j,inv j→μ j<μ i→HP rd nb (fun _=>Tryz.prog) k K (Jp (Vm.keep L s) (ch j)) (Yy (Vm.sel true (List.range n) h++ex) (hc j)))→HP rd nb (fun _=>Tryz.prog) k K (Jp (Vm.keep L s) (ch i)) (Yy (Vm.sel true (List.range n) h++ex) (hc i))):HP rd nb (fun _=>Tryz.prog) k K s h:=
 ZtA L n (fun i=>Jp (Vm.keep L s) (ch i)) (fun i=>Yy (Vm.sel true (List.range n) h++ex) (hc i)) inv μ i hi hn h0 hto step
theorem ZpW (tk:List Int→Int→Bool) {l:List Int} {e:Int} {i:Nat} (he:e=i) (hi:i<6):Zih [fun _=>tk l 0,fun _=>tk l 1,fun _=>tk l 2,fun _=>tk l 3,fun _=>tk l 4,fun _=>tk l 5] e=tk l (i:Int):=by
 subst he
 match i,hi with
 |0,_=>rfl
 |1,_=>rfl
 |2,_=>rfl
 |3,_=>rfl
 |4,_=>rfl
 |5,_=>rfl
theorem ZpV {tk:List Int→Int→Bool} (htk:∀l i,tk l i=l.contains i) {l:List Int} {e:Int} {i j:Nat} (he:e=i):(bif decide (e=(j:Int))then true else tk l (j:Int))=tk (l++[(i:Int)]) (j:Int):=by
 subst he
 rw[htk,htk]
 by_cases h:(i:Int)=j
 ·rw[decide_eq_true h,h]
  simp
 ·rw[decide_eq_false h]
  have h':¬(j:Int)=i:=fun e=>h e.symm
  simp[h']
theorem Zlw {t:Ze} {x:List Int} {a:Zq} {l:List Int} {at_ now:Int} {i n:Nat} (h:0<n):Xl t x a l at_ now i n=if ZbX t x a l at_ now i then some i else Xl t x a l at_ now (i+1) (n-1):=by
 cases n with
 |zero=>omega
 |succ n=>rfl
theorem ZsE (t:Ze) (x:List Int) (a:Zq) (hf:ZA t) (hx:Y4 t x) (ha:QB (callsOf t) t.runs.length a=0):SC (fun _=>Tryz.prog) 115 [.iptr (ZT t) 0,ZQ a,.imap 2 3 fun _=>Qe t x] [] fun v h=>
  v= .tup [lst 1 XC 0 (YH t x a).1,.int .i64 fun _=>(YH t x a).2.1,.bool fun _=>(YH t x a).2.2]∧h=[]:=by
 obtain⟨nt,hnt⟩:=Zs
 have hok:=fun i h=> @ZkC t a hf ha i h
 have hlk:=fun r k (h:StopIn (callsOf t) r k)=> @Zaj t x r k h
 have hrow:=fun r k (h:StopIn (callsOf t) r k)=>(Jo hf.calls h).2.2
 have hgoal:=fun f l at_ now=> @Zgl t x a f l at_ now
 have hnone:=fun f l at_ now=> @Zle t x a f l at_ now
 have hsome:=fun f l at_ now i=> @Zld t x a f l at_ now i
 have hbd:=fun r k (h:StopIn (callsOf t) r k)=>ZhH hf x h
 obtain⟨tk,htk⟩:∃tk:List Int→Int→Bool,∀l i,tk l i=l.contains i:=⟨fun l i=>l.contains i,fun _ _=>rfl⟩
 have hla:a.steps.length≤6:=by
  by_cases h:0<a.steps.length
  ·exact(hok 0 h).1
  ·omega
 have hnil:= @Zoh a
 have hlt:=fun l i h=> @Zqm a l i h
 have hR0:Yh t x a (a.steps.length+1) [] a.from_ a.since=YH t x a:=rfl
 generalize YH t x a=R at*
 generalize hG:Yh t x a=G at*
 generalize ZiF a=LN at*
 generalize Qe t x=HL at*
 unfold ZT ZQ
 simp only[Za hnt,Zb,Q1]
 refine SC.less (Zsz false false [] [3] true 0 Tryz.func115 (body:=Zk Tryz.f115) rfl (by decide+kernel) rfl ?_)
 refine wS ?_
 refine Zoo [0,2,4,6,9,10,11] 2 [.tok 1 fun _=>0] (fun p:List Int×Int×Int×Nat=>[(6,.isl 1 (fun _=>(p.1.length:Int)) (fun e=>XC (nt Int 0 p.1 (e ()))) (.own 2)),(9,.int .i64 fun _=>p.2.1),(10,.int .i64 fun _=>p.2.2.1)])
  (fun p=>[(1,.cells [.bool fun _=>tk p.1 0,.bool fun _=>tk p.1 1,.bool fun _=>tk p.1 2,.bool fun _=>tk p.1 3,.bool fun _=>tk p.1 4,.bool fun _=>tk p.1 5]),(2,.tok 1 fun _=>(p.1.length:Int))])
  (fun p=>LN p.1<p.2.2.2∧p.1.length+LN p.1≤a.steps.length∧G p.2.2.2 p.1 p.2.1 p.2.2.1=R) (fun p=>LN p.1) ([],a.from_,a.since,a.steps.length+1) ⟨by show LN []<_;rw[hnil];exact Nat.lt_succ_self _,by show 0+LN []≤_;omega,hR0⟩ rfl rfl ?_ ?_
 ·(refine To.of [(1,false)] ?_;cbv;(try simp only[nc]);(repeat' (first|exact trivial|exact ZD.refl _|exact ZL.refl _|refine⟨?_,?_⟩|refine ZL.cells ?_|refine ZD.agg ?_|refine ZD.tup ?_));(all_goals (first|exact X9|skip)))
  all_goals exact .bool (by rw[htk];rfl)
 intro p hp ih
 refine Zd9 false false [] [] true ?_
 refine wS ?_
 refine⟨fun h1=>?_,fun h1=>?_⟩
 ·have h1:p.2.1=a.goal:=eq_of_beq h1
  have hr:=hp.2.2
  rw[hgoal _ _ _ _ (by have:=hp.1;omega) h1]at hr
  subst hr
  refine wS ?_
  refine⟨_,[],?_,rfl,rfl⟩
  exact ZI
 have h1:p.2.1≠a.goal:=ne_of_beq_false h1
 refine wS ?_
 refine Zoo [0,2,4,6,9,10,11,27,28,29] 3 [] (fun i:Nat=>[(29,.int .i64 fun _=>(i:Int))]) (fun _=>[]) (fun i=>i≤a.steps.length∧Xl t x a p.1 p.2.1 p.2.2.1 0 a.steps.length=Xl t x a p.1 p.2.1 p.2.2.1 i (a.steps.length-i)) (fun i=>a.steps.length-i) 0 ⟨by omega,rfl⟩ rfl rfl ?_ ?_
 ·exact ZI
 intro i hi ih2
 refine Zd9 false false [] [] true ?_
 refine wS ?_
 refine⟨fun h2=>?_,fun h2=>?_⟩
 case refine_2=>
  simp only[decide_eq_false_iff_not]at h2
  have hn:=hi.2
  rw[show a.steps.length-i=0 by omega,Xl]at hn
  have hr:=hp.2.2
  rw[hnone _ _ _ _ (by have:=hp.1;omega) h1 hn]at hr
  subst hr
  refine wS ?_
  refine⟨_,[],?_,rfl,rfl⟩
  exact ZI
 simp only[decide_eq_true_eq]at h2
 have hil:i<a.steps.length:=by omega
 have hns:= @Zlw t x a p.1 p.2.1 p.2.2.1 i (a.steps.length-i) (by omega)
 have hcan:ZbX t x a p.1 p.2.1 p.2.2.1 i=(!tk p.1 (i:Int)&&(decide ((ZW a i).from_=p.2.1)&&decide (p.2.2.1≤(ZU t x (ZW a i).run (XG t (ZW a i))).goes))):=by rw[htk];rfl
 have hok:=hok i hil
 have hsm:=hsome p.2.2.2 p.1 p.2.1 p.2.2.1 i (by have:=hp.1;omega) h1
 have hlt:=hlt p.1 i hil
 have e1:= @ZpW tk p.1 i i rfl (by omega)
 have hro:=hrow _ _ hok.2.1
 have hl1:=hlk _ _ hok.2.1
 have hl2:=hlk _ _ hok.2.2
 have hb1:=hbd _ _ hok.2.1
 have hst:ZW a i=nt Sp.Step default a.steps i:=by rw[hnt];rfl
 rw[hst]at hcan hok hsm hro hl1 hl2 hb1
 have hin:=hok.2.1
 have hin2:=hok.2.2
 unfold StopIn at hin hin2
 rw[JT hnt]at hro hin hin2
 have hfo:ZM (nt (List Sp.Call) [] (callsOf t) (nt Sp.Step default a.steps i).run) 0 (nt Sp.Step default a.steps i).from_=XG t (nt Sp.Step default a.steps i):=by unfold XG;rw[JT hnt]
 have hto:ZM (nt (List Sp.Call) [] (callsOf t) (nt Sp.Step default a.steps i).run) (XG t (nt Sp.Step default a.steps i)+1) (nt Sp.Step default a.steps i).to_=Zck t (nt Sp.Step default a.steps i):=by unfold Zck;rw[JT hnt]
 have k450:=ZlX (nt (List Sp.Call) [] (callsOf t) (nt Sp.Step default a.steps i).run) 0 (nt Sp.Step default a.steps i).from_ (by omega) (by omega)
 have k450b:=ZlX (nt (List Sp.Call) [] (callsOf t) (nt Sp.Step default a.steps i).run) (XG t (nt Sp.Step default a.steps i)+1) (nt Sp.Step default a.steps i).to_ (by omega) (by omega)
 rw[hfo]at k450
 rw[hto]at k450b
 simp only[Za hnt]at k450 k450b
 generalize hd:nt Sp.Step default a.steps i=d at*
 refine vS ?_
 simp only[hd,e1]
 refine Chk.mk (Qa) ?_
 refine⟨fun h3=>?_,fun h3=>?_⟩
 ·have hcf:ZbX t x a p.1 p.2.1 p.2.2.1 i=false:=by
   rw[hcan]
   cases hc:tk p.1 (i:Int)with
   |true=>rfl
   |false=>
    rw[hc]at h3
    have h3:(d.from_ !=p.2.1)=true:=h3
    rw[decide_eq_false (by simpa using h3)]
    rfl
  rw[hcf]at hns
  refine wS ?_
  refine Zbr [0,2,4,6,9,10,11,27,28,29] 3 rfl rfl ?_ (ih2 (i+1) ⟨by omega,?_⟩ (by show a.steps.length-(i+1)<a.steps.length-i;omega))
  ·exact ZI
  ·rw[hi.2,hns,if_neg Bool.false_ne_true,show a.steps.length-i-1=a.steps.length-(i+1) by omega]
 have hc:tk p.1 (i:Int)=false∧d.from_=p.2.1:=by
  cases hc:tk p.1 (i:Int)with
  |true=>rw[hc]at h3;cases h3
  |false=>
   rw[hc]at h3
   have h3:(d.from_ !=p.2.1)=false:=h3
   exact⟨rfl,by simpa using h3⟩
 rw[hc.1]at hcan
 rw[decide_eq_true hc.2]at hcan
 generalize hF:nt (List Sp.Call) [] (callsOf t) d.run=F at*
 generalize XG t d=fo at*
 generalize Zck t d=to at*
 have hg:((List.lookup [d.run,fo] (HL)).getD []).tail.tail.headD 0=(ZU t x d.run fo).goes:=by rw[hl1];rfl
 have hcm:((List.lookup [d.run,to] (HL)).getD []).headD 0=(ZU t x d.run to).comes:=by rw[hl2];rfl
 generalize (ZU t x d.run fo).goes=gs at*
 generalize (ZU t x d.run to).comes=cs at*
 refine vS ?_
 simp only[hF]
 refine Chk.mk (Qa) ?_
 refine ZS (k450) (by first|rfl|(simp only[Zd,Zc,Zf,Zb,Za hnt];rfl)) fun r h₂ hp=>?_
 (try simp only[Zd,Zc,Zf,Zb,Za hnt]at hp)
 obtain⟨rfl,rfl⟩:=hp
 refine vS ?_
 simp only[hg]
 try refine Chk.mk (Qa) ?_
 refine⟨fun h4=>?_,fun h4=>?_⟩
 ·have h4:=of_decide_eq_true h4
  rw[decide_eq_false (by omega)]at hcan
  rw[hcan]at hns
  refine wS ?_
  refine Zbr [0,2,4,6,9,10,11,27,28,29] 3 rfl rfl ?_ (ih2 (i+1) ⟨by omega,?_⟩ (by show a.steps.length-(i+1)<a.steps.length-i;omega))
  ·exact ZI
  ·rw[hi.2,hns,show a.steps.length-i-1=a.steps.length-(i+1) by omega]
   rfl
 have h4:=of_decide_eq_false h4
 rw[decide_eq_true (by omega)]at hcan
 rw[hcan]at hns
 have hsm:=hsm (by rw[hi.2,hns];rfl)
 have hlt:=hlt (by rw[←htk];exact hc.1)
 refine wS ?_
 refine ZS (k450b) (by first|rfl|(simp only[Zd,Zc,Zf,Zb,Za hnt];rfl)) fun r h₂ hp=>?_
 (try simp only[Zd,Zc,Zf,Zb,Za hnt]at hp)
 obtain⟨rfl,rfl⟩:=hp
 refine vS ?_
 simp only[hcm]
 try refine Chk.mk (Qa) ?_
 refine Zd9 false false [] [3] true ?_
 refine wS ?_
 refine Zbr [0,2,4,6,9,10,11] 3 rfl rfl ?_ (ih (p.1++[(i:Int)],d.to_,cs,p.2.2.2-1) ⟨?_,?_,?_⟩ hlt)
 ·(refine To.of [] ?_;cbv;(try simp only[nc]);(repeat' (first|exact trivial|exact ZD.refl _|exact ZL.refl _|refine⟨?_,?_⟩|refine ZL.cells ?_|refine ZD.agg ?_|refine ZD.tup ?_));(all_goals (first|exact X9|skip)))
  all_goals exact .bool (ZpV htk rfl)
 ·show LN (p.1++[(i:Int)])<p.2.2.2-1
  have:=hp.1
  omega
 ·show(p.1++[(i:Int)]).length+LN (p.1++[(i:Int)])≤a.steps.length
  have:=hp.2.1
  rw[List.length_append]
  show p.1.length+1+_≤_
  omega
 ·show G (p.2.2.2-1) (p.1++[(i:Int)]) d.to_ cs=R
  rw[←hsm]
  exact hp.2.2
end Go.Proofs.YtjgpiclllehgmaaGreat.Vm
namespace Go.Proofs.YtjgpiclllehgmaaGreat.Sp
open Vm
def wdS (stop:Nat→Bool) (f:Nat→Int):Nat→Wd
 |0=>⟨0,0,false⟩
 |n+1=>if stop n then wdS stop f n else(wdS stop f n).add (f n)
def XR (t:Ze) (a:Zq) (i:Nat):Bool:=(YH t (Zj t i) a).2.2
def ZaS (t:Ze) (a:Zq) (i:Nat):Int:=(YH t (Zj t i) a).2.1
def QH (t:Ze) (a:Zq):Bool:=(List.range (ZO t)).all (XR t a)
def QR (t:Ze) (a:Zq):Zes:=if QH t a then⟨(JF (ZaS t a) (ZO t)).fr,(JF (ZaS t a) (ZO t)).to_⟩else⟨0,0⟩
theorem Zmo {stop:Nat→Bool} {f:Nat→Int}:∀(n:Nat),(∀j,j<n→stop j=false)→wdS stop f n=JF f n
 |0,_=>rfl
 |n+1,h=>by
  rw[wdS,if_neg (by rw[h n (by omega)];exact Bool.false_ne_true),Zmo n fun j hj=>h j (by omega)]
  rfl
end Go.Proofs.YtjgpiclllehgmaaGreat.Sp
namespace Go.Proofs.YtjgpiclllehgmaaGreat.Vm
attribute [local irreducible] Dn
open Go Go.Proofs Sp
set_option maxRecDepth 100000
set_option maxHeartbeats 4000000
theorem ZtU (t:Ze) (a:Zq) (hw:ZA t) (ha:QB (callsOf t) t.runs.length a=0):SC (fun _=>Tryz.prog) 99 [.iptr (ZT t) 0,ZQ a] [] fun v h=>
  v= .tup [.agg (Qz (QR t a)),.bool fun _=>QH t a]∧h=[]:=by
 obtain⟨nt,hnt⟩:=Zs
 have k415:=fun i=>ZsE t (Zj t i) a hw (Xq hw i) ha
 have k382:=ZlZ t
 have k435:=fun B0 B1 B2 B3 B4 B5 stop=>ZlY t hw B0 B1 B2 B3 B4 B5 stop
 obtain⟨ST,hST⟩:∃s:Nat→Bool,∀i,s i= !XR t a i:=⟨_,fun _=>rfl⟩
 obtain⟨WD,hWD⟩:∃w:Nat→Wd,∀i,w i=wdS ST (ZaS t a) i:=⟨_,fun _=>rfl⟩
 have hW0:WD 0=⟨0,0,false⟩:=by rw[hWD];rfl
 have hWS:∀i,ST i=true→WD (i+1)=WD i:=fun i h=>by rw[hWD,hWD,wdS,if_pos h]
 have hWN:∀i,ST i=false→WD (i+1)=(WD i).add (ZaS t a i):=fun i h=>by rw[hWD,hWD,wdS,if_neg (by rw[h];exact Bool.false_ne_true)]
 have hci:∀i,(YH t (Zj t i) a).2.2=XR t a i:=fun _=>rfl
 have hca:∀i,(YH t (Zj t i) a).2.1=ZaS t a i:=fun _=>rfl
 have hall:(∀j,j<ZO t→ST j=false)→QH t a=true∧QR t a=⟨(WD (ZO t)).fr,(WD (ZO t)).to_⟩:=fun h=>by
  have h1:QH t a=true:=List.all_eq_true.2 fun j hj=>by
   have:=h j (List.mem_range.1 hj)
   rw[hST]at this
   simpa using this
  refine⟨h1,?_⟩
  unfold QR
  rw[if_pos h1,hWD,Zmo _ h]
 have hnot:∀j,j<ZO t→ST j=true→QH t a=false∧QR t a=⟨0,0⟩:=fun j hj h=>by
  have h1:QH t a=false:=by
   cases hc:QH t a with
   |false=>rfl
   |true=>
    have:=List.all_eq_true.1 hc j (List.mem_range.2 hj)
    rw[hST,this]at h
    cases h
  refine⟨h1,?_⟩
  unfold QR
  rw[if_neg (by rw[h1];exact Bool.false_ne_true)]
 simp only[hci,hca]at k415
 generalize QR t a=AS at*
 generalize QH t a=CA at*
 generalize hTR:YH t=TR at*
 generalize Zj t=TA at*
 generalize Qe t=HL at*
 generalize XR t a=CI at*
 generalize ZaS t a=CT at*
 unfold XM ZT ZQ at*
 simp only[Za hnt,Zb,ZE,Q1]at*
 refine SC.less (QP Tryz.func99 (body:=Zk Tryz.f99) rfl (by decide+kernel) ?_)
 refine wS ?_
 refine ZS (k382) (by first|rfl|(simp only[Zd,Zc,Zf,Zb,Za hnt];rfl)) fun r h₂ hp=>?_
 (try simp only[Zd,Zc,Zf,Zb,Za hnt]at hp)
 obtain⟨rfl,rfl⟩:=hp
 refine wS ?_
 refine Zcn [2,3,4,5,6,13] [] [(4,.cells [.int .i64 fun _=>(WD 0).fr,.int .i64 fun _=>(WD 0).to_,.bool fun _=>(WD 0).some_])] (fid:=135) (first:=[]) ?_ rfl ?_ ?_
 ·rw[hW0]
  exact ZI
 ·exact Xm
 refine SC.mono (k435 (fun _=>_) (fun _=>_) (fun _=>_) (fun _=>_) (fun i=>.cells [.int .i64 fun _=>(WD i).fr,.int .i64 fun _=>(WD i).to_,.bool fun _=>(WD i).some_]) (fun i=>.loop _ ⟨_,_,_,bif QC ST i then .done else .ready,bif QC ST i then some .ret else none⟩) ST ?_ ?_ ?_ ?_ ?_ ?_ ?_) ?_
 iterate 6 exact fun i=>Ql.of rfl
 ·intro i hi hno
  have hst:QC ST i=false:=by
   cases i with
   |zero=>rfl
   |succ j=>exact hno j (by omega)
  simp only[hst,cond_false]
  refine YC.less (Zat false false [] rfl rfl ?_)
  refine wS ?_
  refine ZS (k415 i) (by first|rfl|(simp only[Zd,Zc,Zf,Zb,Za hnt];rfl)) fun r h₂ hp=>?_
  (try simp only[Zd,Zc,Zf,Zb,Za hnt]at hp)
  obtain⟨rfl,rfl⟩:=hp
  refine wS ?_
  refine⟨fun h1=>?_,fun h1=>?_⟩
  ·have hs:ST i=true:=by rw[hST];exact h1
   have hs2:QC ST (i+1)=true:=hs
   refine wS ?_
   simp only[hs2,cond_true,hWS i hs]
   refine⟨.bool fun _=> !ST i,_,?_,rfl,rfl⟩
   refine toR ?_
   exact .bool (by rw[hs];rfl)
  ·have hs:ST i=false:=by rw[hST];exact h1
   have hs2:QC ST (i+1)=false:=hs
   have k:=ZtW (WD i) (CT i)
   rw[←hWN i hs]at k
   unfold Yt at k
   refine wS ?_
   refine cL1 [4] (k) fun r h₂ hp=>?_
   (try simp only[Zd,Zc,Zf,Zb,Za hnt]at hp)
   obtain rfl:=hp
   refine wS ?_
   simp only[hs2,cond_false]
   refine⟨.bool fun _=> !ST i,_,?_,rfl,rfl⟩
   refine toR ?_
   exact .bool (by rw[hs];rfl)
 ·intro v h hh
  obtain⟨m,hm,rfl⟩:=hh
  unfold Qz
  rcases hm with⟨hm,hno⟩|⟨j,hm,hj,hst,hno⟩
  ·have hst:QC ST m=false:=by
    cases m with
    |zero=>rfl
    |succ j=>exact hno j (by omega)
   have hA:=hall fun j hj=>hno j (by omega)
   rw[←hm]at hA
   simp only[hst,cond_false]
   refine wS ?_
   rw[hA.1,hA.2]
   refine⟨_,[],?_,rfl,rfl⟩
   exact ZI
  ·have hst2:QC ST m=true:=by rw[hm];exact hst
   have hA:=hnot j hj hst
   simp only[hst2,cond_true]
   refine wS ?_
   rw[hA.1,hA.2]
   refine⟨_,[],?_,rfl,rfl⟩
   exact ZI
theorem ZuG {nt:(α:Type)→α→List α→Int→α} (hnt:∀(α:Type) (d:α) (l:List α) (i:Int),nt α d l i=l.getD i.toNat d) (l:List Sp.Xo) (hl:0<l.length∧l.length≤1000000):SC (fun _=>Tryz.prog) 152 [lst 4 Xh default l] [] fun v h=>v= .gsl 0 (fun _=>(l.length:Int))∧h=[.gar 4 (fun _=>(l.length:Int)) (fun e=>Xh (nt Sp.Xo default l (e ())))]:=by
 simp only[Za hnt]
 refine SC.less (ZtI true false [] Tryz.func152 (body:=Zk Tryz.f152) rfl (by decide+kernel) ?_)
 refine wS ?_
 refine Br.isF rfl ?_
 refine wS ?_
 refine⟨_,_,?_,rfl,rfl⟩
 refine toR ?_
 exact .gar (by simp) fun i hi=>by rw[X7 (len:=0) rfl (Nat.zero_le _)];rfl
def Xp (t:Ze) (w n:Int):Ze:={t with waits:=t.waits.set w.toNat {t.waits.getD w.toNat default with minutes:=n}}
theorem ZtT (t:Ze) (w n:Int) (hf:Xi t) (hw:0≤w∧w<t.waits.length):SC (fun _=>Tryz.prog) 100 [Zf t,.int .i64 fun _=>w,.int .i64 fun _=>n] [] fun v h=>v=Zf (Xp t w n)∧h=[]:=by
 obtain⟨nt,hnt⟩:=Zs
 have hwl:=hf.waits
 have k:=ZuG hnt t.waits ⟨by omega,by omega⟩
 obtain⟨t2,ht2⟩:∃t2,t2=Xp t w n:=⟨_,rfl⟩
 have hlen:t2.waits.length=t.waits.length:=by rw[ht2];unfold Xp;simp
 have hrow:∀i:Nat,i<t.waits.length→[AV.int .i64 fun _=>(nt Sp.Xo default t.waits (i:Int)).feeder,.int .i64 fun _=>(nt Sp.Xo default t.waits (i:Int)).train,.int .i64 fun _=>(nt Sp.Xo default t.waits (i:Int)).station,.int .i64 fun _=>bif decide ((i:Int)=w)then n else(nt Sp.Xo default t.waits (i:Int)).minutes]=Xh (nt Sp.Xo default t2.waits (i:Int)):=fun i hi=>by
  have e:nt Sp.Xo default t2.waits (i:Int)=if(i:Int)=w then {nt Sp.Xo default t.waits (i:Int)with minutes:=n}else nt Sp.Xo default t.waits (i:Int):=by
   rw[hnt,hnt,Int.toNat_natCast,ht2]
   show(t.waits.set w.toNat _).getD i default=_
   by_cases h:(i:Int)=w
   ·subst h
    rw[if_pos rfl,Int.toNat_natCast,Vm.Zeb _ _ _ _ hi]
   ·rw[if_neg h,Vm.Zbs _ _ _ _ _ (by omega)]
  rw[e]
  by_cases h:(i:Int)=w
  ·rw[if_pos h,decide_eq_true h];rfl
  ·rw[if_neg h,decide_eq_false h];rfl
 have hb:t2.book=t.book:=by rw[ht2];rfl
 have hr:t2.runs=t.runs:=by rw[ht2];rfl
 have hd:t2.delays=t.delays:=by rw[ht2];rfl
 rw[←ht2]
 unfold Zf
 rw[hb,hr,hd]
 simp only[Za hnt]at k⊢
 refine SC.less (ZtI false false [] Tryz.func100 (body:=Zk Tryz.f100) rfl (by decide+kernel) ?_)
 refine wS ?_
 refine cL1 [] (k) fun r h₂ hp=>?_
 (try simp only[Zd,Zc,Zf,Zb,Za hnt]at hp)
 obtain⟨rfl,rfl⟩:=hp
 refine wS ?_
 refine⟨_,[],?_,rfl,rfl⟩
 refine toR ?_
 exact .gd (by simp) (.none (by show(t.waits.length:Int)=t2.waits.length;rw[hlen]) fun i hi=>hrow i (by have:(i:Int)<t.waits.length:=hi;omega))
end Go.Proofs.YtjgpiclllehgmaaGreat.Vm
namespace Go.Proofs.YtjgpiclllehgmaaGreat.Vm
open Go Go.Proofs Go.Proofs.YtjgpiclllehgmaaGreat.Conc1
def ZiQ:Nat→AV→Bool
 |0,_=>false
 |_+1,.int _ _=>true
 |_+1,.bool _=>true
 |_+1,.undef=>true
 |k+1,.agg cs=>cs.all (ZiQ k)
 |k+1,.tup cs=>cs.all (ZiQ k)
 |_+1,_=>false
theorem ZhJ {R R':RC}:∀(k:Nat) {a:AV} {v:Value},ZiQ k a=true→VR R a v→VR R' a v
 |0,a,v,h,_=>by cases h
 |k+1,a,v,h,hv=>by
  cases a with
  |int q n=>rw[hv.int_inv];exact .pure _ _ (.int q n)
  |bool b=>rw[hv.bool_inv];exact .pure _ _ (.bool b)
  |undef=>exact .undef _
  |agg cs=>
   obtain⟨us,rfl,hl,hr⟩:=hv.agg_inv
   exact .agg cs us hl fun j c hj=>ZhJ k (List.all_eq_true.1 h c (List.mem_of_getElem? hj)) (hr j c hj)
  |tup cs=>
   obtain⟨us,rfl,hl,hr⟩:=hv.tup_inv
   exact .tup cs us hl fun j c hj=>ZhJ k (List.all_eq_true.1 h c (List.mem_of_getElem? hj)) (hr j c hj)
  |_=>cases h
theorem SC.lend {p:Unit→Program} {f:FuncId} {xs ys:List AV} {h hc:List Zi} {Post Q:AV→List Zi→Prop} (l:List Nat) (hnd:l.Nodup) (hlt:∀i∈l,i<h.length) (hsel:sel true l h=hc) (hmain:∀b∈hc,b= .main) (H:SC p f ys hc Q) (hx:xs.map (Qs true l h 5)=ys)
  (hq:∀r h₂,Q r h₂→h₂=hc∧ZiQ 5 r=true∧Post r h):SC p f xs h Post:=
 ⟨H.enter,fun G R vs hr ha cs=>by
  obtain⟨R₂,acx,a0,a1,a2,a3,a4,a5,a6,a7,a8⟩:=hr.sel (fz:=true) (ι:=l) (fun _ _ _=>True) (fun _ _ _ _=>trivial) (fun _ _ _ _ _ _ _ _=>trivial) (fun _ _ _ _=>trivial) (fun _ _ _ _ _ _ _ _ _=>trivial) hnd hlt (fun _ _ _ _ _ _ _ _ _=>trivial) 0 (Nat.zero_le _) (fun _=>Nat.zero_le _)
  have hrow:XZ R₂ ys vs:=⟨by rw[←hx,List.length_map];exact ha.1,fun j c hj=>by
   rw[←hx,List.getElem?_map,Option.map_eq_some_iff]at hj
   obtain⟨x,hx,rfl⟩:=hj
   exact a8 5 x _ (ha.2 j x hx)⟩
  rw[hsel]at a6
  obtain⟨v,R',r,h',b1,b3,b4,b5,b6,b7⟩:=H.run _ R₂ vs a6 hrow cs
  obtain⟨rfl,hfl,hP⟩:=hq r h' b7
  have hheap:∀b,b<R.w.heap.size→R'.w.heap[b]? =R.w.heap[b]? :=fun b hb=>by
   rw[b4.frame b (by rw[a1];exact hb) (fun id blk hi hp=>by
    have:=hmain blk (List.mem_of_getElem? hi)
    subst this
    exact hp),a1]
  have hsz:R.w.heap.size≤R'.w.heap.size:=by rw[←a1];exact b4.size
  let R'':RC:={R with w:=R'.w,ok:=fun b o n=>b<R'.w.heap.size∧G b o n∧ZfZ R h b o n}
  have hok:∀b o n,R.ok b o n→R''.ok b o n:=fun b o n k=>by
   obtain⟨h1,h2,h3⟩:=(hr.okd _ _ _).1 k
   exact⟨by omega,h2,h3⟩
  have hkeep:∀b o n,R.ok b o n→∀j,j<n→R''.w.cell? ⟨b,o+j,none⟩=R.w.cell? ⟨b,o+j,none⟩:=fun b o n k j hj=>by
   have:=b5.keep b o n (a7 b o n k) j hj
   rw[a1]at this
   exact this
  have hle:R.le R'':=⟨Nat.le_refl _,fun _ _=>rfl,fun _ _=>⟨Int.le_refl _,fun _=>rfl⟩,fun _ _=>.refl _,hok,hkeep,fun b k es clk e=>by
   have:=b5.keepM b (a7 b 0 1 k) es clk (by rw[a1];exact e)
   exact this,rfl⟩
  refine⟨v,R'',r,h,?_,⟨hr.len,fun _ _ _=>Iff.rfl,fun id blk hi=>(hr.blk id blk hi).mono hle rfl rfl rfl rfl fun b hp=>hheap b (hr.phys_lt hi hp),hr.dis,hr.cl,fun b o n hb=>hr.fresh b o n (Nat.le_trans hsz hb),hr.tokG,hr.n0m⟩,
   ⟨rfl,by rw[←a1];exact b4.os,by rw[←a1];exact b4.tape,by rw[←a1];exact b4.output,hsz,Nat.le_refl _,fun _ _=>rfl,hok,hkeep,fun b hb _=>hheap b hb,fun id blk b hi hp=>.inr ⟨id,blk,hi,hp,.inl rfl⟩⟩,hle,ZhJ 5 hfl b6,hP⟩
  rw[a1,acx]at b1
  exact b1⟩
theorem SC.lend0 {p:Unit→Program} {f:FuncId} {xs ys:List AV} {h:List Zi} {Post Q:AV→List Zi→Prop} (H:SC p f ys [] Q) (hx:xs.map (Qs true [] h 5)=ys) (hq:∀r h₂,Q r h₂→h₂=[]∧ZiQ 5 r=true∧Post r h):SC p f xs h Post:=
 SC.lend [] List.nodup_nil (fun i hi=>by cases hi) rfl (fun b hb=>by cases hb) H hx hq
end Go.Proofs.YtjgpiclllehgmaaGreat.Vm
namespace Go.Proofs.YtjgpiclllehgmaaGreat.Sp
def Qt (t:Ze) (a:Zq):Int:=if Zr t≠0 then Zr t else QB (callsOf t) t.runs.length a
def XE (t:Ze) (a:Zq) (w:Int):Int:=if Qt t a=0 then(if Xw w 0 ((t.waits.length:Int)-1)then 3 else 0)else Qt t a
theorem Zkq {t:Ze} (h:Zr t=0):QO t=0:=by
 unfold Zr at h
 split at h
 ·exact absurd h (by assumption)
 split at h
 ·exact absurd h (by assumption)
 exact Decidable.of_not_not (by assumption)
theorem Zao {t:Ze} {a:Zq} (h:Qt t a=0):Zr t=0:=by
 unfold Qt at h
 split at h
 ·exact h
 ·exact Decidable.of_not_not (by assumption)
end Go.Proofs.YtjgpiclllehgmaaGreat.Sp
namespace Go.Proofs.YtjgpiclllehgmaaGreat.Vm
attribute [local irreducible] Dn
open Go Go.Proofs Sp
set_option maxRecDepth 100000
set_option maxHeartbeats 4000000
theorem ZqG (t:Ze) (a:Zq) (hf:Xi t) (ha:a.steps.length≤1000000):SC (fun _=>Tryz.prog) 114 [Zf t,ZQ a] [] fun v h=>v= .tup [QE (Zr t) t,.int .i64 fun _=>Qt t a]∧h=[]:=by
 obtain⟨nt,hnt⟩:=Zs
 refine SC.less (QP Tryz.func114 (body:=Zk Tryz.f114) rfl (by decide+kernel) ?_)
 have k:=ZqH t hf
 have k2:=fun h:Zr t=0=>ZuF t a (ZdD (Zkq h)) hf.runs ha
 generalize hE:Qt t a=e
 unfold Qt at hE
 unfold Zf ZQ at*
 simp only[Za hnt]at k k2⊢
 by_cases he:Zr t=0
 ·unfold QE at k⊢
  rw[if_pos he]at k⊢
  rw[if_neg (fun h=>h he)]at hE
  have k2:=k2 he
  unfold ZT at k k2⊢
  simp only[Za hnt,Zb]at k k2⊢
  rw[he]at k
  refine wS ?_
  refine ZoQ (k) ?_
  refine wS ?_
  refine Br.isF rfl ?_
  refine wS ?_
  refine ZoQ (k2) ?_
  rw[hE]
  refine wS ?_
  refine⟨_,[],?_,rfl,rfl⟩
  exact ZI
 ·unfold QE at k⊢
  rw[if_neg he]at k⊢
  rw[if_pos he]at hE
  rw[hE]at k he
  refine wS ?_
  refine ZoQ (k) ?_
  refine wS ?_
  refine⟨fun h=>?_,fun h=>?_⟩
  ·refine wS ?_
   refine⟨_,[],?_,rfl,rfl⟩
   exact ZI
  ·exact absurd (by simpa only[bne_eq_false_iff_eq]using h) he
theorem ZuN (t:Ze) (a:Zq) (w:Int) (hf:Xi t) (ha:a.steps.length≤1000000):SC (fun _=>Tryz.prog) 98 [Zf t,ZQ a,.int .i64 fun _=>w] [] fun v h=>v= .tup [QE (Zr t) t,.int .i64 fun _=>XE t a w]∧h=[]:=by
 obtain⟨nt,hnt⟩:=Zs
 refine SC.less (QP Tryz.func98 (body:=Zk Tryz.f98) rfl (by decide+kernel) ?_)
 have k:=ZqG t a hf ha
 have hw:=hf.waits
 have k1:=ZcY w 0 ((t.waits.length:Int)-1)
 generalize hE:XE t a w=e
 unfold XE at hE
 unfold Zf ZQ at*
 generalize hA:Qt t a=e2 at*
 simp only[Za hnt]at k⊢
 by_cases hb:Zr t=0
 ·unfold QE at k⊢
  rw[if_pos hb]at k⊢
  unfold ZT at k⊢
  simp only[Za hnt,Zb]at k⊢
  by_cases he:e2=0
  ·rw[if_pos he]at hE
   rw[he]at k
   refine wS ?_
   refine ZoQ (k) ?_
   refine wS ?_
   refine Br.isT rfl ?_
   refine wS ?_
   refine ZoQ (k1) ?_
   refine wS ?_
   refine⟨fun h=>?_,fun h=>?_⟩
   ·have h:Xw w 0 ((t.waits.length:Int)-1)=true:=h
    rw[if_pos h]at hE
    subst hE
    refine wS ?_
    refine⟨_,[],?_,rfl,rfl⟩
    exact ZI
   ·have h:Xw w 0 ((t.waits.length:Int)-1)=false:=h
    rw[if_neg (by rw[h];exact Bool.false_ne_true)]at hE
    subst hE
    refine wS ?_
    refine⟨_,[],?_,rfl,rfl⟩
    exact ZI
  ·rw[if_neg he]at hE
   subst hE
   refine wS ?_
   refine ZoQ (k) ?_
   refine wS ?_
   refine⟨fun h=>?_,fun h=>?_⟩
   ·exact absurd (eq_of_beq h) he
   refine wS ?_
   refine Br.isF rfl ?_
   refine wS ?_
   refine⟨_,[],?_,rfl,rfl⟩
   exact ZI
 ·unfold QE at k⊢
  rw[if_neg hb]at k⊢
  have he:e2≠0:=by
   intro h
   exact hb (Zao (hA.trans h))
  rw[if_neg he]at hE
  subst hE
  refine wS ?_
  refine ZoQ (k) ?_
  refine wS ?_
  refine⟨fun h=>?_,fun h=>?_⟩
  ·exact absurd (eq_of_beq h) he
  refine wS ?_
  refine Br.isF rfl ?_
  refine wS ?_
  refine⟨_,[],?_,rfl,rfl⟩
  exact ZI
end Go.Proofs.YtjgpiclllehgmaaGreat.Vm
namespace Go.Proofs.YtjgpiclllehgmaaGreat.Sp
open Vm
theorem Zgk {t:Ze} (hf:ZA t) {w n:Int} (hn:0≤n∧n≤60):ZA (Xp t w n):=by
 have hset:∀v∈(Xp t w n).waits,∃v'∈t.waits,v.feeder=v'.feeder∧v.train=v'.train∧v.station=v'.station∧(v.minutes=v'.minutes∨v.minutes=n):=fun v hv=>by
  rcases List.mem_or_eq_of_mem_set hv with h|rfl
  ·exact⟨v,h,rfl,rfl,rfl,.inl rfl⟩
  ·by_cases hl:w.toNat<t.waits.length
   ·refine⟨t.waits[w.toNat],List.getElem_mem hl,?_⟩
    rw[List.getD_eq_getElem?_getD,List.getElem?_eq_getElem hl]
    exact⟨rfl,rfl,rfl,.inr rfl⟩
   ·have:(Xp t w n).waits=t.waits:=List.set_eq_of_length_le (by omega)
    rw[this]at hv
    exact⟨_,hv,rfl,rfl,rfl,.inl rfl⟩
 refine⟨hf.calls,hf.nn,hf.asc,by show(t.waits.set _ _).length≤4;rw[List.length_set];exact hf.wlen,hf.dlen,fun v hv=>?_,hf.d⟩
 obtain⟨v',hv',e1,e2,e3,e4⟩:=hset v hv
 have h:=hf.w v' hv'
 rw[e1,e2,e3]
 exact⟨h.1,h.2.1,h.2.2.1,by omega,by omega,h.2.2.2.2.2⟩
def JB (t:Ze) (a:Zq) (w:Int):Nat→Int×Int×Bool
 |0=>(0,0,false)
 |n+1=>if QH (Xp t w n) a&&(!(JB t a w n).2.2||decide ((QR (Xp t w n) a).to_<(JB t a w n).2.1))then((n:Int),(QR (Xp t w n) a).to_,true)else JB t a w n
def Zh4 (t:Ze) (a:Zq) (w:Int):Int×Int×Int:=
 if XE t a w≠0 then(0,0,XE t a w)else if(JB t a w 61).2.2 then((JB t a w 61).1,(JB t a w 61).2.1,0)else(0,0,11)
end Go.Proofs.YtjgpiclllehgmaaGreat.Sp
namespace Go.Proofs.YtjgpiclllehgmaaGreat.Vm
attribute [local irreducible] Dn
open Go Go.Proofs Sp
set_option maxRecDepth 100000
set_option maxHeartbeats 4000000
theorem ZlV {t:Ze} {a:Zq} {w:Int} (h:XE t a w=0):Zr t=0∧QB (callsOf t) t.runs.length a=0∧0≤w∧w<t.waits.length:=by
 unfold XE at h
 split at h
 ·rename_i h1
  have hb:=Zao h1
  split at h
  ·cases h
  rename_i h2
  have:=XJ (by simpa using h2)
  unfold Qt at h1
  rw[if_neg (fun h=>h hb)]at h1
  exact⟨hb,h1,by omega,by omega⟩
 ·exact absurd h (by assumption)
theorem ZuW (t:Ze) (a:Zq) (w:Int) (hf:Xi t) (ha:a.steps.length≤1000000) (hw:Zr t=0→ZA t):SC (fun _=>Tryz.prog) 35 [Zf t,ZQ a,.int .i64 fun _=>w] [] fun v h=>
  v= .tup [.int .i64 fun _=>(Zh4 t a w).1,.int .i64 fun _=>(Zh4 t a w).2.1,.int .i64 fun _=>(Zh4 t a w).2.2]∧h=[]:=by
 obtain⟨nt,hnt⟩:=Zs
 have k:=ZuN t a w hf ha
 by_cases he:XE t a w=0
 ·have hok:=ZlV he
  have hw:=hw hok.1
  have k400:=fun n=>ZtT t w n hf hok.2.2
  have k399:=fun n h=>ZtU (Xp t w n) a (Zgk hw (n:=n) h) hok.2.1
  have hB0:JB t a w 0=(0,0,false):=rfl
  have hBS:∀n:Nat,JB t a w (n+1)=if QH (Xp t w n) a&&(!(JB t a w n).2.2||decide ((QR (Xp t w n) a).to_<(JB t a w n).2.1))then((n:Int),(QR (Xp t w n) a).to_,true)else JB t a w n:=fun _=>rfl
  have hE:Zh4 t a w=if(JB t a w 61).2.2 then((JB t a w 61).1,(JB t a w 61).2.1,0)else(0,0,11):=by
   unfold Zh4
   rw[if_neg (fun h=>h he)]
  have hbk:∀n,(Xp t w n).book=t.book:=fun _=>rfl
  have hrn:∀n,(Xp t w n).runs=t.runs:=fun _=>rfl
  have hdl:∀n,(Xp t w n).delays=t.delays:=fun _=>rfl
  have hcl:∀n,callsOf (Xp t w n)=callsOf t:=fun _=>rfl
  unfold QE at k
  rw[if_pos hok.1,he]at k
  unfold ZT Zf ZQ Qz at*
  simp only[hbk,hrn,hdl,hcl]at k400 k399
  simp only[Za hnt,Zb,Q1,ZE]at*
  generalize Zh4 t a w=BE at*
  generalize JB t a w=B at*
  generalize hWT:Xp t w=WT at*
  generalize hCA:(fun n=>QH (WT n) a)=CA at*
  generalize hAS:(fun n=>QR (WT n) a)=AS at*
  have hCA:∀n,QH (WT n) a=CA n:=fun n=>congrFun hCA n
  have hAS:∀n,QR (WT n) a=AS n:=fun n=>congrFun hAS n
  simp only[hCA,hAS]at k399 hBS
  refine SC.less (QP Tryz.func35 (body:=Zk Tryz.f35) rfl (by decide+kernel) ?_)
  refine wS ?_
  refine ZoQ (k) ?_
  refine wS ?_
  refine Br.isF rfl ?_
  refine wS ?_
  refine ZV false false [] [2,3,4,6,7,9,10,24] [] (fun p:Nat=>[(24,.int .i64 fun _=>(p:Int)),(6,.int .i64 fun _=>(B p).1),(7,.int .i64 fun _=>(B p).2.1),(10,.bool fun _=>(B p).2.2)]) (fun _=>[]) (fun p=>p≤61) (fun p=>61-p+0) 0 (by omega) ?_ ?_
  ·(refine To.of [] ?_;cbv;(try simp only[nc]);(repeat' (first|exact trivial|exact ZD.refl _|exact ZL.refl _|refine⟨?_,?_⟩|refine ZL.cells ?_|refine ZD.agg ?_|refine ZD.tup ?_));(all_goals (first|exact X9|skip)))
   all_goals first|exact .int (by rw[hB0])|exact .bool (by rw[hB0])
  intro p hp
  refine wS ?_
  refine⟨fun h1=>?_,fun h1=>?_⟩
  case refine_2=>
   simp only[decide_eq_false_iff_not]at h1
   have hp61:p=61:=by omega
   subst hp61
   refine wS ?_
   refine⟨fun h2=>?_,fun h2=>?_⟩
   ·have h2:(B 61).2.2=false:=nb2 h2
    rw[if_neg (by rw[h2];exact Bool.false_ne_true)]at hE
    subst hE
    refine wS ?_
    refine⟨_,[],?_,rfl,rfl⟩
    exact ZI
   ·have h2:(B 61).2.2=true:=nb4 h2
    rw[if_pos h2]at hE
    subst hE
    refine wS ?_
    refine⟨_,[],?_,rfl,rfl⟩
    exact ZI
  simp only[decide_eq_true_eq]at h1
  have k400:=k400 p
  have k399:=k399 p (by omega)
  refine wS ?_
  repeat' (first|(with_reducible refine Zmc.mk ?_ ?_)|((with_reducible refine Chk.mk ?_ ?_);(focus exact Qa))|((with_reducible refine ZS k400 ?_ ?_);(focus (first|rfl|(simp only[Za hnt];rfl)));(intro r h₂ hp;obtain⟨rfl,rfl⟩:=hp;cbv;(try simp only[nc]at*)))|((with_reducible refine SC.lend0 k399 ?_ ?_);(focus (first|rfl|(simp only[Za hnt];rfl)));(intro r h₂ hp;obtain⟨rfl,rfl⟩:=hp;refine⟨rfl,rfl,?_⟩;cbv;(try simp only[nc]at*))))
  all_goals
   have hcond:(bif CA p then bif !(B p).2.2 then true else decide ((AS p).to_<(B p).2.1)else false)=(CA p&&(!(B p).2.2||decide ((AS p).to_<(B p).2.1))):=by cases CA p<;>cases (B p).2.2<;>rfl
   refine⟨fun h2=>?_,fun h2=>?_⟩
   ·have hBp:=hBS p
    rw[if_pos (hcond.symm.trans h2)]at hBp
    refine wS ?_
    refine⟨p+1,by show p+1≤61;omega,by show 61-(p+1)+0<61-p+0;omega,?_⟩
    (refine To.of [] ?_;cbv;(try simp only[nc]);(repeat' (first|exact trivial|exact ZD.refl _|exact ZL.refl _|refine⟨?_,?_⟩|refine ZL.cells ?_|refine ZD.agg ?_|refine ZD.tup ?_));(all_goals (first|exact X9|skip)))
    all_goals first|exact .int (by rw[hBp])|exact .bool (by rw[hBp])
   ·have hBp:=hBS p
    rw[if_neg (fun h=>by rw[←hcond,h2]at h;cases h)]at hBp
    refine wS ?_
    refine⟨p+1,by show p+1≤61;omega,by show 61-(p+1)+0<61-p+0;omega,?_⟩
    (refine To.of [] ?_;cbv;(try simp only[nc]);(repeat' (first|exact trivial|exact ZD.refl _|exact ZL.refl _|refine⟨?_,?_⟩|refine ZL.cells ?_|refine ZD.agg ?_|refine ZD.tup ?_));(all_goals (first|exact X9|skip)))
    all_goals first|exact .int (by rw[hBp])|exact .bool (by rw[hBp])
 ·have hE:Zh4 t a w=(0,0,XE t a w):=by
   unfold Zh4
   rw[if_pos he]
  rw[hE]
  generalize XE t a w=e at*
  refine SC.less (QP Tryz.func35 (body:=Zk Tryz.f35) rfl (by decide+kernel) ?_)
  unfold Zf ZQ at*
  by_cases hb:Zr t=0
  ·unfold QE at k
   rw[if_pos hb]at k
   unfold ZT at k
   simp only[Za hnt,Zb,Q1,ZE]at*
   refine wS ?_
   refine ZoQ (k) ?_
   refine wS ?_
   refine⟨fun h=>?_,fun h=>?_⟩
   ·refine wS ?_
    refine⟨_,[],?_,rfl,rfl⟩
    exact ZI
   ·exact absurd (by simpa only[bne_eq_false_iff_eq]using h) he
  ·unfold QE at k
   rw[if_neg hb]at k
   simp only[Za hnt,Zb,Q1,ZE]at*
   refine wS ?_
   refine ZoQ (k) ?_
   refine wS ?_
   refine⟨fun h=>?_,fun h=>?_⟩
   ·refine wS ?_
    refine⟨_,[],?_,rfl,rfl⟩
    exact ZI
   ·exact absurd (by simpa only[bne_eq_false_iff_eq]using h) he
end Go.Proofs.YtjgpiclllehgmaaGreat.Vm
namespace Go.Proofs.YtjgpiclllehgmaaGreat.Sp
open Vm
def YY (t:Ze) (a:Zq):Zes×Int:=if Qt t a≠0 then(⟨0,0⟩,Qt t a)else if QH t a then(QR t a,0)else(⟨0,0⟩,11)
end Go.Proofs.YtjgpiclllehgmaaGreat.Sp
namespace Go.Proofs.YtjgpiclllehgmaaGreat.Vm
attribute [local irreducible] Dn
open Go Go.Proofs Sp
set_option maxRecDepth 100000
set_option maxHeartbeats 4000000
theorem ZsG (t:Ze) (a:Zq) (hf:Xi t) (ha:a.steps.length≤1000000) (hw:Zr t=0→ZA t):SC (fun _=>Tryz.prog) 50 [Zf t,ZQ a] [] fun v h=>
  v= .tup [.agg (Qz (YY t a).1),.int .i64 fun _=>(YY t a).2]∧h=[]:=by
 obtain⟨nt,hnt⟩:=Zs
 have k:=ZqG t a hf ha
 by_cases he:Qt t a=0
 ·have hb:=Zao he
  have ht:QB (callsOf t) t.runs.length a=0:=by
   unfold Qt at he
   rw[if_neg (fun h=>h hb)]at he
   exact he
  have k399:=ZtU t a (hw hb) ht
  have hE:YY t a=if QH t a then(QR t a,0)else(⟨0,0⟩,11):=by
   unfold YY
   rw[if_neg (fun h=>h he)]
  unfold QE at k
  rw[if_pos hb,he]at k
  unfold ZT Zf ZQ Qz at*
  simp only[Za hnt,Zb,Q1,ZE]at*
  generalize YY t a=BE at*
  generalize QH t a=CA at*
  generalize QR t a=AS at*
  refine SC.less (QP Tryz.func50 (body:=Zk Tryz.f50) rfl (by decide+kernel) ?_)
  refine wS ?_
  refine ZoQ (k) ?_
  refine wS ?_
  refine Br.isF rfl ?_
  refine wS ?_
  refine ZoQ (k399) ?_
  refine wS ?_
  refine⟨fun h2=>?_,fun h2=>?_⟩
  ·have h2:CA=false:=nb2 h2
   rw[if_neg (by rw[h2];exact Bool.false_ne_true)]at hE
   subst hE
   refine wS ?_
   refine⟨_,[],?_,rfl,rfl⟩
   exact ZI
  ·have h2:CA=true:=nb4 h2
   rw[if_pos h2]at hE
   subst hE
   refine wS ?_
   refine⟨_,[],?_,rfl,rfl⟩
   exact ZI
 ·have hE:YY t a=(⟨0,0⟩,Qt t a):=by
   unfold YY
   rw[if_pos he]
  rw[hE]
  generalize Qt t a=e at*
  refine SC.less (QP Tryz.func50 (body:=Zk Tryz.f50) rfl (by decide+kernel) ?_)
  unfold Zf ZQ Qz at*
  by_cases hb:Zr t=0
  ·unfold QE at k
   rw[if_pos hb]at k
   unfold ZT at k
   simp only[Za hnt,Zb,Q1,ZE]at*
   refine wS ?_
   refine ZoQ (k) ?_
   refine wS ?_
   refine⟨fun h=>?_,fun h=>?_⟩
   ·refine wS ?_
    refine⟨_,[],?_,rfl,rfl⟩
    exact ZI
   ·exact absurd (by simpa only[bne_eq_false_iff_eq]using h) he
  ·unfold QE at k
   rw[if_neg hb]at k
   simp only[Za hnt,Zb,Q1,ZE]at*
   refine wS ?_
   refine ZoQ (k) ?_
   refine wS ?_
   refine⟨fun h=>?_,fun h=>?_⟩
   ·refine wS ?_
    refine⟨_,[],?_,rfl,rfl⟩
    exact ZI
   ·exact absurd (by simpa only[bne_eq_false_iff_eq]using h) he
end Go.Proofs.YtjgpiclllehgmaaGreat.Vm
namespace Go.Proofs.YtjgpiclllehgmaaGreat.Vm
open Go Go.Proofs Sp
set_option maxRecDepth 100000
set_option maxHeartbeats 800000
theorem Zdf {z:Zone} (h:Zu z=0):(ZP z).length≤4∧∀p∈ZP z,0≤p.fr∧p.fr≤43200∧0≤p.bef∧p.bef≤1099511627776∧-1000000≤p.ahd∧p.ahd≤1000000:=by
 have hs:=J7 h
 have hl:=Zad z.chs 0 z.base
 have h3:z.chs.length≤3:=by
  unfold Zu at h
  split at h
  ·cases h
  ·split at h
   ·cases h
   ·omega
 have hat:∀c∈z.chs,0≤c.at_∧c.at_≤43200:=by
  unfold Zu at h
  split at h
  ·cases h
  ·split at h
   ·cases h
   ·have key:∀(l:List Chg) (p:Option Int),YO p l=0→∀c∈l,0≤c.at_∧c.at_≤43200:=by
     intro l
     induction l with
     |nil=>intro p _ c hc;cases hc
     |cons a l ih=>
      intro p hp c hc
      rw[Yu]at hp
      split at hp
      ·cases hp
      rename_i h3
      split at hp
      ·cases hp
      split at hp
      ·cases hp
      rcases List.mem_cons.1 hc with rfl|hc
      ·simp[Yx]at h3
       omega
      ·exact ih _ hp c hc
    exact key _ _ h
 refine⟨by unfold ZP;omega,?_⟩
 have key:∀(l:List Chg) (fr a:Int),(∀c∈l,0≤c.at_∧c.at_≤43200)→0≤fr∧fr≤43200→∀p∈QG fr a l,0≤p.fr∧p.fr≤43200∧0≤p.bef∧p.bef≤1099511627776:=by
  intro l
  induction l with
  |nil=>intro fr a _ hf p hp;simp[QG,Xk]at hp;subst hp;simp;omega
  |cons c l ih=>
   intro fr a hc hf p hp
   have h1:=hc c (List.mem_cons_self ..)
   simp only[QG]at hp
   split at hp
   ·rcases List.mem_cons.1 hp with rfl|hp
    ·simp;omega
    ·exact ih _ _ (fun x hx=>hc x (List.mem_cons_of_mem _ hx)) h1 p hp
   ·exact ih _ _ (fun x hx=>hc x (List.mem_cons_of_mem _ hx)) h1 p hp
 intro p hp
 have h1:=key z.chs 0 z.base hat (by omega) p hp
 have h2:=(Jf hs).2.2 p hp
 omega
end Go.Proofs.YtjgpiclllehgmaaGreat.Vm
namespace Go.Proofs.YtjgpiclllehgmaaGreat.Sp
open Vm
theorem ZeA:∀ {l:List Pc} {r a:Int},(∀p∈l,p.bef≤1099511627776)→0≤a∧a≤1099511627776→a≤QW l r a∧QW l r a≤1099511627776
 |[],r,a,_,h=>by unfold QW Xk;exact⟨h.2,Int.le_refl _⟩
 |p::l,r,a,hl,h=>by
  unfold QW
  have hp:=hl p (List.mem_cons_self ..)
  split
  ·omega
  ·exact ZeA (fun q hq=>hl q (List.mem_cons_of_mem _ hq)) h
theorem Zcu {zs:List Zone} (hz:∀z∈zs,Zu z=0) {day:Int} {many:Nat}:∀(S:List Stop) (i:Nat) (now:Int),0≤now∧now≤1099511627776→(∀s∈S,0≤s.zone∧s.zone<zs.length)→∀c∈QQ zs day many i now S,0≤c.arrive∧c.arrive≤c.depart∧c.depart≤1099511627776
 |[],_,_,_,_,c,hc=>by unfold QQ at hc;cases hc
 |s::r,i,now,hn,hs,c,hc=>by
  have hzs:=hs s (List.mem_cons_self ..)
  have hzm:zs.getD s.zone.toNat default∈zs:=by rw[List.getD_eq_getElem?_getD,List.getElem?_eq_getElem (by omega)];exact List.getElem_mem _
  have hp:=fun p hp=>((Zdf (hz _ hzm)).2 p hp).2.2.2.1
  have hr:=fun q hq=>hs q (List.mem_cons_of_mem _ hq)
  unfold QQ at hc
  split at hc
  ·have hd:0≤(if i+1<many then QW (ZP (zs.getD s.zone.toNat default)) (1440*day+s.depart) now else 0)∧(if i+1<many then QW (ZP (zs.getD s.zone.toNat default)) (1440*day+s.depart) now else 0)≤1099511627776:=by
    split
    ·have:=ZeA (r:=1440*day+s.depart) hp hn
     omega
    ·omega
   rcases List.mem_cons.1 hc with rfl|hc
   ·exact⟨hd.1,Int.le_refl _,hd.2⟩
   ·exact Zcu hz r _ _ hd hr c hc
  ·have ha:=ZeA (r:=1440*day+s.arrive) hp hn
   have hd:QW (ZP (zs.getD s.zone.toNat default)) (1440*day+s.arrive) now≤(if i+1<many then QW (ZP (zs.getD s.zone.toNat default)) (1440*day+s.depart) (QW (ZP (zs.getD s.zone.toNat default)) (1440*day+s.arrive) now)else QW (ZP (zs.getD s.zone.toNat default)) (1440*day+s.arrive) now)∧
     (if i+1<many then QW (ZP (zs.getD s.zone.toNat default)) (1440*day+s.depart) (QW (ZP (zs.getD s.zone.toNat default)) (1440*day+s.arrive) now)else QW (ZP (zs.getD s.zone.toNat default)) (1440*day+s.arrive) now)≤1099511627776:=by
    split
    ·exact ZeA hp ⟨by omega,ha.2⟩
    ·exact⟨Int.le_refl _,ha.2⟩
   rcases List.mem_cons.1 hc with rfl|hc
   ·exact⟨by show 0≤QW _ _ _;omega,hd⟩
   ·exact Zcu hz r _ _ ⟨by omega,hd.2⟩ hr c hc
theorem Zsg {b:XL} (h:Zkz b) {t:Train} {day:Int} (ht:t∈QT b day):Zc4 b.zones.length t:=by
 unfold QT at ht
 split at ht
 ·exact h.old t ht
 ·exact h.new t ht
theorem Zsk {b:XL} {n d:Int} (h:(J4 b n d).2=0):∀c∈(J4 b n d).1,0≤c.arrive∧c.arrive≤c.depart∧c.depart≤1099511627776:=by
 unfold J4 at*
 split
 ·intro c hc;cases hc
 rename_i h0
 split
 ·intro c hc;cases hc
 split
 ·intro c hc;cases hc
 rename_i h1
 split
 ·intro c hc;cases hc
 have hok:=ZbY (Decidable.of_not_not h0)
 have hlt:(place (QT b d) n).toNat<(QT b d).length:=by
  have:=Xz (q:=fun t:Train=>decide (t.number=n)) (l:=QT b d) (i:=0) (by omega)
  unfold place at*
  omega
 have hm:(QT b d).getD (place (QT b d) n).toNat default∈QT b d:=by
  rw[List.getD_eq_getElem?_getD,List.getElem?_eq_getElem hlt]
  exact List.getElem_mem _
 exact Zcu hok.zones _ 0 0 ⟨by omega,by omega⟩ fun s hs=>((Zsg hok hm).stops s hs).zone
theorem ZiI {α:Type} {q:α→Bool} {d:α}:∀ {l:List α} {i:Int} {k:Nat},k<l.length→q (l.getD k d)=true→i≤Zw q i l∧Zw q i l≤i+k
 |[],_,k,h,_=>by simp at h
 |x::r,i,0,_,hq=>by
  have hx:q x=true:=hq
  rw[Zw,if_pos hx]
  omega
 |x::r,i,k+1,h,hq=>by
  rw[Zw]
  split
  ·omega
  ·have:=ZiI (l:=r) (i:=i+1) (k:=k) (by simpa using h) hq
   omega
theorem X0 {t:Ze} (h:Zr t=0):ZA t:=by
 unfold Zr at h
 split at h
 ·exact absurd h (by assumption)
 split at h
 ·exact absurd h (by assumption)
 rename_i h0 h1
 split at h
 ·cases h
 split at h
 ·exact absurd h (by assumption)
 rename_i h2 h3
 split at h
 ·cases h
 rename_i h4
 have hr:=Decidable.of_not_not h1
 have hw:=Qb (Decidable.of_not_not h3)
 have hd:=Qb h
 have hcf:=ZdD hr
 have hlen:t.runs.length=(callsOf t).length:=by unfold callsOf;rw[List.length_map]
 have hrun:∀r:Int,0≤r→r<(callsOf t).length→(∀c∈Zo (callsOf t) r,0≤c.arrive∧c.arrive≤c.depart∧c.depart≤1099511627776)∧Q5 (Zo (callsOf t) r)=0:=fun r h1 h2=>by
  unfold QO at hr
  split at hr
  ·cases hr
  split at hr
  ·cases hr
  have h3:=Qb hr r.toNat (by omega) (by omega)
  have e:Zo (callsOf t) r=Zaa t (t.runs.getD r.toNat default):=by
   unfold Zo callsOf
   rw[List.getD_eq_getElem?_getD,List.getElem?_map,List.getD_eq_getElem?_getD,List.getElem?_eq_getElem (by omega)]
   rfl
  rw[e]
  unfold JS at h3
  split at h3
  ·exact absurd h3 (by assumption)
  rename_i h4
  split at h3
  ·cases h3
  rename_i h5
  exact⟨Zsk (Decidable.of_not_not h4),Decidable.of_not_not h5⟩
 have hmem:∀r a,StopIn (callsOf t) r a→Zy (callsOf t) r a∈Zo (callsOf t) r:=fun r a hs=>by
  unfold Zy
  rw[List.getD_eq_getElem?_getD,List.getElem?_eq_getElem (by have:=hs.2.2.2;have:=hs.2.2.1;omega)]
  exact List.getElem_mem _
 have hasc:∀r a,StopIn (callsOf t) r a→0<a→(Zy (callsOf t) r (a-1)).depart<(Zy (callsOf t) r a).arrive:=fun r a hs ha=>by
  have h1:=(hrun r hs.1 hs.2.1).2
  have h2:=hs.2.2.2
  have h3:=Qb h1 a.toNat (by omega) (by omega)
  unfold Jg at h3
  split at h3
  ·cases h3
  rename_i h4
  unfold Zy
  rw[show(a-1).toNat=a.toNat-1 by omega]
  omega
 refine⟨hcf,fun r a hs=>(hrun r hs.1 hs.2.1).1 _ (hmem r a hs),hasc,by omega,by omega,fun w hwm=>?_,fun d hdm=>?_⟩
 ·obtain⟨i,hi,he⟩:=Jw (d:=default) hwm
  have h5:=hw i (by omega) (by omega)
  rw[he]at h5
  unfold QA at h5
  split at h5
  ·cases h5
  rename_i g1
  split at h5
  ·cases h5
  split at h5
  ·cases h5
  rename_i g3
  split at h5
  ·cases h5
  rename_i g4
  split at h5
  ·cases h5
  rename_i g5
  have b1:0≤w.feeder∧w.feeder≤((callsOf t).length:Int)-1:=XJ (by cases hq:Xw w.feeder 0 ((callsOf t).length-1)with|false=>rfl|true=>exact absurd (by rw[hq];rfl) g1)
  have b4:=XJ (by simpa using g4)
  have s1:=Je (Zo (callsOf t) w.feeder) 1 w.station
  have hc1:1≤Qc (Zo (callsOf t) w.feeder) w.station:=by
   have:¬Qc (Zo (callsOf t) w.feeder) w.station<0:=fun h=>g3 (.inl h)
   unfold Qc at*
   omega
  refine⟨b1.1,by omega,hc1,b4.1,b4.2,fun a hs hne hst=>?_⟩
  have hg:0≤Z7 (Zo (callsOf t) w.train) w.station:=by
   have:¬Z7 (Zo (callsOf t) w.train) w.station<0:=fun h=>g3 (.inr h)
   omega
  have hge:Z7 (Zo (callsOf t) w.train) w.station=ZM (Zo (callsOf t) w.train) 0 w.station:=by
   unfold Z7 at*
   split at hg
   ·rw[if_pos (by assumption)]
   ·omega
  have hle:ZM (Zo (callsOf t) w.train) 0 w.station≤a:=by
   have:=ZiI (q:=fun c:Call=>decide (c.station=w.station)) (d:=default) (l:=Zo (callsOf t) w.train) (i:=0) (k:=a.toNat) (by have:=hs.2.2.2;have:=hs.2.2.1;omega) (decide_eq_true hst)
   have h0:=hs.2.2.1
   unfold ZM
   rw[show max 0 (0:Int)=0 from rfl,show(0:Int).toNat=0 from rfl,List.drop_zero]
   omega
  have hmono:∀(n:Nat) (g:Int),0≤g→StopIn (callsOf t) w.train (g+n)→(Zy (callsOf t) w.train g).depart≤(Zy (callsOf t) w.train (g+n)).depart:=by
   intro n
   induction n with
   |zero=>intro g _ _;rw[show g+((0:Nat):Int)=g by omega];exact Int.le_refl _
   |succ n ih=>
    intro g h0 hin
    have hp:StopIn (callsOf t) w.train (g+n):=⟨hin.1,hin.2.1,by omega,by have:=hin.2.2.2;omega⟩
    have h1:=ih g h0 hp
    have h2:=hasc w.train (g+((n+1:Nat):Int)) hin (by omega)
    rw[show g+((n+1:Nat):Int)-1=g+n by omega]at h2
    have h3:=((hrun w.train hin.1 hin.2.1).1 _ (hmem _ _ hin)).2.1
    omega
  have hm:=hmono (a-ZM (Zo (callsOf t) w.train) 0 w.station).toNat (ZM (Zo (callsOf t) w.train) 0 w.station) (by omega) (by rw[show ZM (Zo (callsOf t) w.train) 0 w.station+((a-ZM (Zo (callsOf t) w.train) 0 w.station).toNat:Int)=a by omega];exact hs)
  rw[show ZM (Zo (callsOf t) w.train) 0 w.station+((a-ZM (Zo (callsOf t) w.train) 0 w.station).toNat:Int)=a by omega]at hm
  have g6:¬(Zy (callsOf t) w.train (Z7 (Zo (callsOf t) w.train) w.station)).depart<(Zy (callsOf t) w.feeder (Qc (Zo (callsOf t) w.feeder) w.station)).arrive:=g5
  rw[hge]at g6
  omega
 ·obtain⟨i,hi,he⟩:=Jw (d:=default) hdm
  have h5:=hd i (by omega) (by omega)
  rw[he]at h5
  unfold QY at h5
  split at h5
  ·cases h5
  split at h5
  ·cases h5
  rename_i g2
  split at h5
  ·cases h5
  rename_i g3
  split at h5
  ·exact absurd h5 (by assumption)
  rename_i g4
  have g4:=Qb (Decidable.of_not_not g4)
  refine⟨by omega,by omega,fun n hn=>?_⟩
  obtain⟨k,hk,he⟩:=Jw (d:=0) hn
  have h6:=g4 k (by omega) (by omega)
  unfold ZhV at h6
  rw[he]at h6
  split at h6
  ·cases h6
  rename_i h7
  exact XJ (by simpa using h7)
def Y2 (t:Ze) (f r st:Int) (i:Nat):Bool:=
 decide ((ZU t (Zj t i) f (Qc (Zo (callsOf t) f) st)).comes≤(ZU t (Zj t i) r (Z7 (Zo (callsOf t) r) st)).goes)
def Qh (p:Nat→Bool):Nat→Int
 |0=>0
 |n+1=>if p n then Qh p n+1 else Qh p n
def Zfq (t:Ze) (f r st:Int):Int:=JJ (Qh (Y2 t f r st) (ZO t)) (Qh (fun i=> !Y2 t f r st i) (ZO t))
def XW (p:Nat→Bool):Nat→Nat→Int×Bool
 |_,0=>(0,false)
 |i,n+1=>if p i then((i:Int),true)else XW p (i+1) n
def QN (t:Ze) (w:Int):Xo:=t.waits.getD w.toNat default
def ZaQ (t:Ze) (w:Int) (n:Nat):Bool:=decide (Zfq (Xp t w n) (QN t w).feeder (QN t w).train (QN t w).station=1)
def JP (t:Ze) (w:Int):Int×Int:=if XD t w≠0 then(0,XD t w)else if(XW (ZaQ t w) 0 61).2 then((XW (ZaQ t w) 0 61).1,0)else(0,11)
theorem Zj4 {p:Nat→Bool} {i n:Nat} (h:0<n):XW p i n=if p i then((i:Int),true)else XW p (i+1) (n-1):=by
 cases n with
 |zero=>omega
 |succ n=>rfl
def ZdO (t:Ze) (f r st:Int):Prop:=StopIn (callsOf t) f (Qc (Zo (callsOf t) f) st)∧StopIn (callsOf t) r (Z7 (Zo (callsOf t) r) st)
theorem ZqD {t:Ze} (h:Zr t=0) {w:Int} (hw:0≤w∧w<t.waits.length):ZdO t (QN t w).feeder (QN t w).train (QN t w).station:=by
 have hf:=X0 h
 have hm:QN t w∈t.waits:=by
  unfold QN
  rw[List.getD_eq_getElem?_getD,List.getElem?_eq_getElem (by omega)]
  exact List.getElem_mem _
 refine⟨JA hf hm,?_⟩
 unfold Zr at h
 split at h
 ·exact absurd h (by assumption)
 split at h
 ·exact absurd h (by assumption)
 split at h
 ·cases h
 split at h
 ·exact absurd h (by assumption)
 rename_i h3
 have h5:=Qb (Decidable.of_not_not h3) w.toNat (by omega) (by omega)
 change QA (callsOf t) (QN t w) _=0 at h5
 unfold QA at h5
 split at h5
 ·cases h5
 rename_i g1
 split at h5
 ·cases h5
 split at h5
 ·cases h5
 rename_i g3
 have b1:=XJ (n:=(QN t w).train) (lo:=0) (hi:=((callsOf t).length:Int)-1) (by cases hq:Xw (QN t w).train 0 ((callsOf t).length-1)with|false=>rfl|true=>exact absurd (by rw[hq,Bool.or_true]) g1)
 have g4:¬Z7 (Zo (callsOf t) (QN t w).train) (QN t w).station<0:=fun h=>g3 (.inr h)
 have s1:=Je (Zo (callsOf t) (QN t w).train) 0 (QN t w).station
 refine⟨b1.1,by omega,by omega,?_⟩
 unfold Z7 at*
 split<;>omega
end Go.Proofs.YtjgpiclllehgmaaGreat.Sp
namespace Go.Proofs.YtjgpiclllehgmaaGreat.Vm
attribute [local irreducible] Dn
open Go Go.Proofs Sp
set_option maxRecDepth 100000
set_option maxHeartbeats 4000000
theorem ZuL (cs0 cs1 cs2 cs3:List AV) (p:Nat→Bool) (hk:∀n:Nat,n≤60→SC (fun _=>Tryz.prog) 113 [.int .i64 fun _=>(n:Int),.iptr cs0 0,.iptr cs1 0,.iptr cs2 0,.iptr cs3 0] [.main] fun v h=>v= .bool (fun _=>p n)∧h=[.main]):
  SC (fun _=>Tryz.prog) 112 [.int .i64 fun _=>60,.fn 113 [] [.iptr cs0 0,.iptr cs1 0,.iptr cs2 0,.iptr cs3 0]] [.main] fun v h=>v= .tup [.int .i64 fun _=>(XW p 0 61).1,.bool fun _=>(XW p 0 61).2]∧h=[.main]:=by
 refine SC.less (QP Tryz.func112 (body:=Zk Tryz.f112) rfl (by decide+kernel) ?_)
 generalize hF:XW p 0 61=F
 refine wS ?_
 refine ZV false false [] [0,1,6] [] (fun i:Nat=>[(6,.int .i64 fun _=>(i:Int))]) (fun _=>[]) (fun i=>i≤61∧XW p i (61-i)=F) (fun i=>61-i+0) 0 ⟨by omega,hF⟩ ?_ ?_
 ·exact ZI
 rintro i ⟨hi,hp⟩
 refine wS ?_
 refine⟨fun h1=>?_,fun h1=>?_⟩
 ·have h1:=of_decide_eq_true h1
  rw[show 61-i=0 by omega,XW]at hp
  subst hp
  refine wS ?_
  refine⟨_,_,?_,rfl,rfl⟩
  exact ZI
 have h1:=of_decide_eq_false h1
 have k:=hk i (by omega)
 rw[Zj4 (by omega)]at hp
 refine wS ?_
 refine cL1 [0] (k) fun r h₂ hp=>?_
 (try simp only[Zd,Zc,Zf,Zb,Za hnt]at hp)
 obtain⟨rfl,rfl⟩:=hp
 refine wS ?_
 refine⟨fun h2=>?_,fun h2=>?_⟩
 ·rw[if_pos h2]at hp
  subst hp
  refine wS ?_
  refine⟨_,_,?_,rfl,rfl⟩
  exact ZI
 ·rw[if_neg (by rw[h2];exact Bool.false_ne_true)]at hp
  refine wS ?_
  refine⟨i+1,⟨by omega,hp⟩,by show 61-(i+1)+0<61-i+0;omega,?_⟩
  exact ZI
theorem ZuK (t:Ze) (w:Int) (hf:Xi t) (hw:ZA t) (hi:0≤w∧w<t.waits.length) (hc:ZdO t (QN t w).feeder (QN t w).train (QN t w).station)
  (k397:∀t' f r st,ZA t'→ZdO t' f r st→SC (fun _=>Tryz.prog) 97 [.iptr (ZT t') 0,.int .i64 fun _=>f,.int .i64 fun _=>r,.int .i64 fun _=>st] [.main] fun v h=>v= .int .i64 (fun _=>Zfq t' f r st)∧h=[.main])
  (n:Nat) (hn:n≤60):SC (fun _=>Tryz.prog) 113 [.int .i64 fun _=>(n:Int),.iptr ((ZT t).take 8) 0,.iptr [.int .i64 fun _=>w] 0,.iptr [.iptr (ZT t) 0] 0,.iptr (Xh (QN t w)) 0] [.main] fun v h=>v= .bool (fun _=>ZaQ t w n)∧h=[.main]:=by
 obtain⟨nt,hnt⟩:=Zs
 have k400:=ZtT t w n hf hi
 have k:=k397 (Xp t w n) (QN t w).feeder (QN t w).train (QN t w).station (Zgk hw ⟨by omega,by omega⟩) hc
 have hbk:∀n,(Xp t w n).book=t.book:=fun _=>rfl
 have hrn:∀n,(Xp t w n).runs=t.runs:=fun _=>rfl
 have hdl:∀n,(Xp t w n).delays=t.delays:=fun _=>rfl
 have hcl:∀n,callsOf (Xp t w n)=callsOf t:=fun _=>rfl
 unfold ZaQ
 generalize QN t w=x at*
 generalize Zfq (Xp t w n) x.feeder x.train x.station=V at*
 unfold ZT Zf Xh at*
 simp only[hbk,hrn,hdl,hcl]at k400 k
 simp only[List.take,Za hnt,Zb,ZE]at*
 generalize Xp t w n=t2 at*
 refine SC.less (QP Tryz.func113 (body:=Zk Tryz.f113) rfl (by decide+kernel) ?_)
 refine wS ?_
 refine ZoQ (k400) ?_
 refine wS ?_
 refine SC.lend [0] (by decide) (by simp) rfl (fun b hb=>List.mem_singleton.1 hb) k ?_ fun r h₂ hp=>?_
 ·first|rfl|(simp only[Za hnt];rfl)
 obtain⟨rfl,rfl⟩:=hp
 refine⟨rfl,rfl,?_⟩
 refine wS ?_
 refine⟨_,_,?_,rfl,rfl⟩
 (refine To.of [] ?_;cbv;(try simp only[nc]);(repeat' (first|exact trivial|exact ZD.refl _|exact ZL.refl _|refine⟨?_,?_⟩|refine ZL.cells ?_|refine ZD.agg ?_|refine ZD.tup ?_));(all_goals (first|exact X9|skip)))
 all_goals exact .bool rfl
theorem ZuU (t:Ze) (w:Int) (hf:Xi t)
  (k397:∀t' f r st,ZA t'→ZdO t' f r st→SC (fun _=>Tryz.prog) 97 [.iptr (ZT t') 0,.int .i64 fun _=>f,.int .i64 fun _=>r,.int .i64 fun _=>st] [.main] fun v h=>v= .int .i64 (fun _=>Zfq t' f r st)∧h=[.main]):
  SC (fun _=>Tryz.prog) 45 [Zf t,.int .i64 fun _=>w] [.main] fun v h=>v= .tup [.int .i64 fun _=>(JP t w).1,.int .i64 fun _=>(JP t w).2]∧h=[.main]:=by
 obtain⟨nt,hnt⟩:=Zs
 have k:=ZuM t w hf
 by_cases he:XD t w=0
 ·have hb:Zr t=0:=by
   unfold XD at he
   split at he
   ·assumption
   ·exact he
  have hi:0≤w∧w<t.waits.length:=by
   unfold XD at he
   rw[if_pos hb]at he
   split at he
   ·cases he
   ·rename_i h2
    have:=XJ (by simpa using h2)
    omega
  have k413:=ZuK t w hf (X0 hb) hi (ZqD hb hi) k397
  have k412:=ZuL _ _ _ _ _ k413
  have hE:JP t w=if(XW (ZaQ t w) 0 61).2 then((XW (ZaQ t w) 0 61).1,0)else(0,11):=by
   unfold JP
   rw[if_neg (fun h=>h he)]
  have hx:QN t w=nt Sp.Xo default t.waits w:=by rw[hnt];rfl
  rw[hx]at k412
  unfold QE at k
  rw[if_pos hb,he]at k
  clear k413
  unfold ZT Zf Xh at*
  simp only[List.take,Za hnt,Zb,ZE]at*
  generalize JP t w=BE at*
  generalize XW (ZaQ t w) 0 61=F at*
  refine SC.less (QP Tryz.func45 (body:=Zk Tryz.f45) rfl (by decide+kernel) ?_)
  refine wS ?_
  refine ZoQ (k) ?_
  refine wS ?_
  refine Br.isF rfl ?_
  refine wS ?_
  refine SC.lend [0] (by decide) (by simp) rfl (fun b hb=>List.mem_singleton.1 hb) k412 ?_ fun r h₂ hp=>?_
  ·first|rfl|(simp only[Za hnt];rfl)
  obtain⟨rfl,rfl⟩:=hp
  refine⟨rfl,rfl,?_⟩
  refine wS ?_
  refine⟨fun h2=>?_,fun h2=>?_⟩
  ·have h2:F.2=false:=nb2 h2
   rw[if_neg (by rw[h2];exact Bool.false_ne_true)]at hE
   subst hE
   refine wS ?_
   refine⟨_,_,?_,rfl,rfl⟩
   exact ZI
  ·have h2:F.2=true:=nb4 h2
   rw[if_pos h2]at hE
   subst hE
   refine wS ?_
   refine⟨_,_,?_,rfl,rfl⟩
   exact ZI
 ·have hE:JP t w=(0,XD t w):=by
   unfold JP
   rw[if_pos he]
  rw[hE]
  generalize XD t w=e at*
  refine SC.less (QP Tryz.func45 (body:=Zk Tryz.f45) rfl (by decide+kernel) ?_)
  unfold Zf at*
  by_cases hb:Zr t=0
  ·unfold QE at k
   rw[if_pos hb]at k
   unfold ZT at k
   simp only[Za hnt,Zb,ZE]at*
   refine wS ?_
   refine ZoQ (k) ?_
   refine wS ?_
   refine⟨fun h=>?_,fun h=>?_⟩
   ·refine wS ?_
    refine⟨_,_,?_,rfl,rfl⟩
    exact ZI
   ·exact absurd (by simpa only[bne_eq_false_iff_eq]using h) he
  ·unfold QE at k
   rw[if_neg hb]at k
   simp only[Za hnt,Zb,ZE]at*
   refine wS ?_
   refine ZoQ (k) ?_
   refine wS ?_
   refine⟨fun h=>?_,fun h=>?_⟩
   ·refine wS ?_
    refine⟨_,_,?_,rfl,rfl⟩
    exact ZI
   ·exact absurd (by simpa only[bne_eq_false_iff_eq]using h) he
end Go.Proofs.YtjgpiclllehgmaaGreat.Vm
namespace Go.Proofs.YtjgpiclllehgmaaGreat.Sp
open Vm
def ZhO (t:Ze) (a:Zq):Int:=JJ (Qh (XR t a) (ZO t)) (Qh (fun i=> !XR t a i) (ZO t))
def ZaZ (t:Ze) (a:Zq):Int×Int:=if Qt t a≠0 then(0,Qt t a)else(ZhO t a,0)
end Go.Proofs.YtjgpiclllehgmaaGreat.Sp
namespace Go.Proofs.YtjgpiclllehgmaaGreat.Vm
attribute [local irreducible] Dn
open Go Go.Proofs Sp
set_option maxRecDepth 100000
set_option maxHeartbeats 4000000
theorem Zl3 {f:FuncId} {xs ys:List AV} {h:List Zi} {Post Q:AV→List Zi→Prop} {B:Prop} (H:SC (fun _=>Tryz.prog) f ys [] Q) (k:B) (t:SC (fun _=>Tryz.prog) f ys [] Q→HdW B→SC (fun _=>Tryz.prog) f xs h Post:=by intro hH hW;refine ZS hH (by first|rfl|(simp only[Zd,Zc,Zf,ZQ,Zb,Za hnt];rfl)) fun r h₂ hp=>?_;(try simp only[Zd,Zc,Zf,ZQ,Zb,Za hnt]at hp);obtain⟨rfl,rfl⟩:=hp;exact hW.out):SC (fun _=>Tryz.prog) f xs h Post:=t H ⟨k⟩
theorem Zis {ds:List Qn} (h:∀d∈ds,d.by_.length≤3):∀m,m≤ds.length→X8 ds m≤3^ m
 |0,_=>Nat.le_refl _
 |m+1,hm=>by
  unfold X8
  rw[Nat.pow_succ]
  refine Nat.mul_le_mul (Zis h m (by omega)) ?_
  unfold lenAt
  rw[List.getD_eq_getElem?_getD,List.getElem?_eq_getElem hm]
  exact h _ (List.getElem_mem hm)
theorem Zoa {t:Ze} (hw:ZA t):ZO t≤729:=by
 have h:=Zis (fun d hd=>(hw.d d hd).2.1) t.delays.length (Nat.le_refl _)
 have h2:3^ t.delays.length≤3^ 6:=Nat.pow_le_pow_right (by omega) hw.dlen
 exact Nat.le_trans h (Nat.le_trans h2 (by decide))
theorem ZdB (p:Nat→Bool):∀n,0≤Qh p n∧Qh p n≤n
 |0=>⟨Int.le_refl _,Int.le_refl _⟩
 |n+1=>by
  have:=ZdB p n
  unfold Qh
  split<;>omega
theorem ZuT (t:Ze) (a:Zq) (hf:Xi t) (ha:a.steps.length≤1000000) (hw:Zr t=0→ZA t):SC (fun _=>Tryz.prog) 51 [Zf t,ZQ a] [] fun v h=>
  v= .tup [.int .i64 fun _=>(ZaZ t a).1,.int .i64 fun _=>(ZaZ t a).2]∧h=[]:=by
 obtain⟨nt,hnt⟩:=Zs
 have k:=ZqG t a hf ha
 by_cases he:Qt t a=0
 ·have hb:=Zao he
  have ht:QB (callsOf t) t.runs.length a=0:=by
   unfold Qt at he
   rw[if_neg (fun h=>h hb)]at he
   exact he
  have hw:=hw hb
  have k415:=fun i=>ZsE t (Zj t i) a hw (Xq hw i) ht
  have k382:=ZlZ t
  have k435:=fun B0 B1 B2 B3 B4 B5 stop=>ZlY t hw B0 B1 B2 B3 B4 B5 stop
  have hmany:=Zoa hw
  have hci:∀i,(YH t (Zj t i) a).2.2=XR t a i:=fun _=>rfl
  have hE:ZaZ t a=(JJ (Qh (XR t a) (ZO t)) (Qh (fun i=> !XR t a i) (ZO t)),0):=by
   unfold ZaZ
   rw[if_neg (fun h=>h he)]
   rfl
  simp only[hci]at k415
  obtain⟨CY,hCY⟩:∃c:Nat→Int,∀i,c i=Qh (XR t a) i:=⟨_,fun _=>rfl⟩
  obtain⟨CN,hCN⟩:∃c:Nat→Int,∀i,c i=Qh (fun i=> !XR t a i) i:=⟨_,fun _=>rfl⟩
  rw[←hCY,←hCN]at hE
  have hby:∀i,0≤CY i∧CY i≤i:=fun i=>by rw[hCY];exact ZdB _ _
  have hbn:∀i,0≤CN i∧CN i≤i:=fun i=>by rw[hCN];exact ZdB _ _
  have hy0:CY 0=0:=by rw[hCY];rfl
  have hn0:CN 0=0:=by rw[hCN];rfl
  have hyS:∀i,XR t a i=true→CY (i+1)=CY i+1∧CN (i+1)=CN i:=fun i h=>by
   rw[hCY,hCY,hCN,hCN,Qh,Qh,if_pos h,if_neg (by rw[h];exact Bool.false_ne_true)]
   exact⟨rfl,rfl⟩
  have hnS:∀i,XR t a i=false→CY (i+1)=CY i∧CN (i+1)=CN i+1:=fun i h=>by
   rw[hCY,hCY,hCN,hCN,Qh,Qh,if_neg (by rw[h];exact Bool.false_ne_true),if_pos (by rw[h];rfl)]
   exact⟨rfl,rfl⟩
  have k416:=ZtS (CY (ZO t)) (CN (ZO t))
  unfold QE at k
  rw[if_pos hb,he]at k
  generalize ZaZ t a=CR at*
  generalize JJ (CY (ZO t)) (CN (ZO t))=V at*
  generalize hTR:YH t=TR at*
  generalize Zj t=TA at*
  generalize Qe t=HL at*
  generalize XR t a=CI at*
  unfold XM ZT Zf ZQ at*
  simp only[Za hnt,Zb,ZE,Q1]at*
  refine SC.less (QP Tryz.func51 (body:=Zk Tryz.f51) rfl (by decide+kernel) ?_)
  refine wS ?_
  refine Zl3 (k) ?_
  refine wS ?_
  refine Br.isF rfl ?_
  refine wS ?_
  refine Zl3 (k382) ?_
  refine wS ?_
  refine Zcn [3,6,8,9,25] [] [(3,.cells [.int .i64 fun _=>CY 0]),(4,.cells [.int .i64 fun _=>CN 0])] (fid:=135) (first:=[]) ?_ rfl ?_ ?_
  ·rw[hy0,hn0]
   exact ZI
  ·exact Xm
  refine SC.mono (k435 (fun _=>_) (fun _=>_) (fun _=>_) (fun i=>.cells [.int .i64 fun _=>CY i]) (fun i=>.cells [.int .i64 fun _=>CN i]) (fun _=>.loop _ ⟨_,_,_,.ready,none⟩) (fun _=>false) ?_ ?_ ?_ ?_ ?_ ?_ ?_) ?_
  iterate 6 exact fun i=>Ql.of rfl
  ·intro i hi hno
   have hyi:=hby i
   have hni:=hbn i
   refine YC.less (Zat false false [] rfl rfl ?_)
   refine wS ?_
   refine Zl3 (k415 i) ?_
   refine wS ?_
   refine⟨fun h1=>?_,fun h1=>?_⟩
   ·have h:=hyS i h1
    refine wS ?_
    simp only[h.1,h.2]
    refine⟨.bool fun _=> !false,_,?_,rfl,rfl⟩
    exact ZI
   ·have h:=hnS i h1
    refine wS ?_
    simp only[h.1,h.2]
    refine⟨.bool fun _=> !false,_,?_,rfl,rfl⟩
    exact ZI
  ·intro v h hh
   obtain⟨m,hm,rfl⟩:=hh
   rcases hm with⟨hm,hno⟩|⟨j,hm,hj,hst,hno⟩
   ·subst hm
    subst hE
    refine wS ?_
    refine Zl3 (k416) ?_
    refine wS ?_
    refine⟨_,[],?_,rfl,rfl⟩
    exact ZI
   ·cases hst
 ·have hE:ZaZ t a=(0,Qt t a):=by
   unfold ZaZ
   rw[if_pos he]
  rw[hE]
  generalize Qt t a=e at*
  refine SC.less (QP Tryz.func51 (body:=Zk Tryz.f51) rfl (by decide+kernel) ?_)
  unfold Zf ZQ at*
  by_cases hb:Zr t=0
  ·unfold QE at k
   rw[if_pos hb]at k
   unfold ZT at k
   simp only[Za hnt,Zb,Q1,ZE]at*
   refine wS ?_
   refine Zl3 (k) ?_
   refine wS ?_
   refine⟨fun h=>?_,fun h=>?_⟩
   ·refine wS ?_
    refine⟨_,[],?_,rfl,rfl⟩
    exact ZI
   ·exact absurd (by simpa only[bne_eq_false_iff_eq]using h) he
  ·unfold QE at k
   rw[if_neg hb]at k
   simp only[Za hnt,Zb,Q1,ZE]at*
   refine wS ?_
   refine Zl3 (k) ?_
   refine wS ?_
   refine⟨fun h=>?_,fun h=>?_⟩
   ·refine wS ?_
    refine⟨_,[],?_,rfl,rfl⟩
    exact ZI
   ·exact absurd (by simpa only[bne_eq_false_iff_eq]using h) he
end Go.Proofs.YtjgpiclllehgmaaGreat.Vm
namespace Go.Proofs.YtjgpiclllehgmaaGreat.Sp
open Vm
def ZcV (st a d:Int):Stop:={station:=st,zone:=0,arrive:=a,depart:=d}
def Z5 (m:Int):Ze:={book:={zones:=[⟨0,[]⟩],old:=[⟨1,127,[ZcV 0 0 60,ZcV 1 100 110,ZcV 2 160 0]⟩,⟨2,127,[ZcV 1 0 120,ZcV 3 200 0]⟩,⟨3,127,[ZcV 1 0 180,ZcV 3 260 0]⟩],new:=[],night:=1,last:=0},runs:=[⟨1,0⟩,⟨2,0⟩,⟨3,0⟩],waits:=[⟨0,1,1,m⟩],delays:=[⟨0,0,[0,20,40]⟩]}
def ZiM:Zq:=⟨0,0,3,[⟨0,0,1⟩,⟨1,1,3⟩,⟨2,1,3⟩]⟩
def ZlL:Zq:=⟨0,0,3,[⟨0,0,1⟩,⟨1,1,3⟩]⟩
theorem Zsu:Zr (Z5 15)=0∧Zr (Z5 30)=0:=by decide+kernel
theorem Zow:ZkZ (Z5 30) 1=[⟨120,140⟩,⟨200,220⟩]:=by decide+kernel
theorem ZlO:JP (Z5 15) 0=(20,0):=by decide+kernel
theorem Zj6:YY (Z5 15) ZiM=(⟨200,260⟩,0):=by decide+kernel
theorem Zqv:Zh4 (Z5 15) ZlL 0=(20,220,0):=by decide+kernel
end Go.Proofs.YtjgpiclllehgmaaGreat.Sp
namespace Go.Proofs.YtjgpiclllehgmaaGreat.Vm
open Go Go.Proofs
theorem ZbQ {α β:Type} {f:α→β}:∀ {l:List α},(l.map f).Nodup→∀ {a b:α},a∈l→b∈l→f a=f b→a=b
 |x::l,h,a,b,ha,hb,e=>by
  rw[List.map_cons,List.nodup_cons]at h
  rcases List.mem_cons.1 ha with ha1|ha1<;>rcases List.mem_cons.1 hb with hb1|hb1
  ·rw[ha1,hb1]
  ·rw[ha1]at e
   exact absurd (List.mem_map.2 ⟨b,hb1,e.symm⟩) h.1
  ·rw[hb1]at e
   exact absurd (List.mem_map.2 ⟨a,ha1,e⟩) h.1
  ·exact ZbQ h.2 ha1 hb1 e
theorem NC.next {p:Unit→Program} {id ka n:Nat} {L:Unit→List (List Int×List Int)} {seen:Unit→List (List Int)} {cur:Unit→List Int×List Int} {h:List Zi} {Post:AV→List Zi→Prop} (hi:h[id]? =some (.gob (.mapIt ka n L seen cur)))
  (h1:(∀q∈L (),q.1∈seen ())→Post (.tup [.bool fun _=>false]) h)
  (h2:∀e∈L (),e.1∉seen ()→Post (.tup [.bool fun _=>true,ZdT ka fun _=>e.1,ZdT n fun _=>e.2]) (h.set id (.gob (.mapIt ka n L (fun _=>seen ()++[e.1]) fun _=>e)))):NC p id h Post:=⟨fun G R H=>by
 obtain⟨o,ho,hk,hg⟩:=H.blk id _ hi
 have over:(∀q∈L (),q.1∈seen ())→(∀ty,(Instr.next (.pointer (some ⟨(R.α id).b,0,none⟩)) false ty).run (p ()) R.w= .ok (.tuple #[.bool false]) R.w)→∃v R' r h',(∀ty,(Instr.next (.pointer (some ⟨(R.α id).b,0,none⟩)) false ty).run (p ()) R.w= .ok v R'.w)∧HR G R' h'∧Xf R h R' h'∧R.le R'∧VR R' r v∧Post r h':=fun hs hr=>
  ⟨_,R,_,h,hr,H,Xf.refl _ _,RC.le.refl _,.tup [.bool fun _=>false] #[.bool false] rfl (fun j c hj=>by
   cases j with
   |zero=>simp at hj;subst hj;exact .pure _ _ (.bool _)
   |succ j=>simp at hj),h1 hs⟩
 rcases hg with⟨g1,g2,sn,rfl⟩|⟨m,es,clk,sn,l,rfl,g1,g2,g3,g4,g5⟩
 ·refine over (fun q hq=>by rw[g1]at hq;cases hq) fun ty=>?_
  simp[Instr.next,getObj,Sem.run_bind,Sem.run,ho,Result.andThen]
 have hold:∀x∈es.toList,x.born<clk:=fun x hx=>by
  rw[←g3.es]at hx
  obtain⟨q,hq,rfl⟩:=List.mem_map.1 hx
  exact(g3.e q hq).2.2.2
 have hleft:∀q∈l,q.1∈(leftOf es sn).toList↔q.2.1∉seen ():=fun q hq=>by
  have hqe:q.1∈es.toList:=by rw[←g3.es];exact List.mem_map.2 ⟨q,hq,rfl⟩
  have:=g4 q hq
  unfold leftOf
  simp only[Array.toList_filter,List.mem_filter]
  rw[this]
  simp[hqe]
 rcases run_next_at (P:=p ()) R.w 0 (R.α id).b m clk clk sn es clk ho g1 hold (Nat.le_refl _)with⟨q1,_⟩|⟨e,he,w1,hw1,q2⟩
 ·refine over (fun q hq=>?_) fun ty=>?_
  ·obtain⟨q',hq',e⟩:=List.mem_map.1 (g3.L.mem_iff.2 hq)
   subst e
   have h0:q'.1∉(leftOf es sn).toList:=by
    rw[show leftOf es sn= #[] by simpa using q1]
    simp
   have:=mt (hleft q' hq').2 h0
   exact Classical.not_not.1 this
  ·rcases run_next_at (P:=p ()) R.w ty (R.α id).b m clk clk sn es clk ho g1 hold (Nat.le_refl _)with⟨_,q2⟩|⟨e,he,_⟩
   ·exact q2
   ·rw[show leftOf es sn= #[] by simpa using q1]at he
    cases he
 ·have hee:e∈es.toList:=by
   unfold leftOf at he
   simp only[Array.toList_filter,List.mem_filter]at he
   exact he.1
  rw[←g3.es]at hee
  obtain⟨q,hq,rfl⟩:=List.mem_map.1 hee
  have hns:=(hleft q hq).1 he
  have hqL:q.2∈L ():=g3.L.mem_iff.1 (List.mem_map.2 ⟨q,hq,rfl⟩)
  obtain⟨e1,e2,_,_⟩:=g3.e q hq
  have hmr:m≠(R.α id).b:=fun he=>by rw[he,ho]at g1;cases g1
  have hcont:∀q'∈l,(sn.push q.1.born).contains q'.1.born=(seen ()++[q.2.1]).contains q'.2.1:=fun q' hq'=>by
   have hiff:(q'.1.born=q.1.born)↔(q'.2.1=q.2.1):=⟨fun he=>by rw[ZbQ (f:=fun z:MapEntry×(List Int×List Int)=>z.1.born) g3.bn hq' hq he],fun he=>by rw[ZbQ (f:=fun z:MapEntry×(List Int×List Int)=>z.2.1) g3.nd hq' hq he]⟩
   have:=g4 q' hq'
   rw[Bool.eq_iff_iff]at this⊢
   simp only[Array.contains_push,Bool.or_eq_true,List.contains_eq_mem,decide_eq_true_eq,List.mem_append,List.mem_singleton,beq_iff_eq]at this⊢
   rw[this,hiff]
  have hh1:w1.heap=R.w.heap:=by rcases hw1 with rfl|rfl<;>rfl
  obtain⟨R',hw,_,hα,H',hx',hle⟩:=H.upd hi rfl (blk':=.gob (.mapIt ka n L (fun _=>seen ()++[q.2.1]) fun _=>q.2)) rfl (ChangeMaps.setBlock w1 (R.α id).b (.mapIter (some m) clk (sn.push q.1.born) clk))
   (by rcases hw1 with rfl|rfl<;>rfl) (by rcases hw1 with rfl|rfl<;>rfl) (by rcases hw1 with rfl|rfl<;>rfl) (by simp[ChangeMaps.setBlock,hh1])
   (fun b hb=>by simp[ChangeMaps.setBlock,hh1,Array.getElem?_setIfInBounds_ne (Ne.symm hb)]) (fun R' hle hα hw=>⟨.mapIter (some m) clk (sn.push q.1.born) clk,by
    rw[hw,hα]
    simp[ChangeMaps.setBlock,hh1,(Array.getElem?_eq_some_iff.1 ho).1],rfl,.inr ⟨m,es,clk,sn.push q.1.born,l,rfl,by
    rw[hw]
    simp[ChangeMaps.setBlock,hh1,Array.getElem?_setIfInBounds_ne (Ne.symm hmr),g1],hle.ok _ _ _ g2,g3,hcont,fun _=>⟨q,hq,by simp,rfl⟩⟩⟩)
  ·refine⟨_,R',_,_,fun ty=>?_,H',hx',hle,.tup [.bool fun _=>true,ZdT ka fun _=>q.2.1,ZdT n fun _=>q.2.2] #[.bool true,q.1.key,q.1.val] rfl (fun j c hj=>?_),h2 _ hqL hns⟩
   ·rw[hw]
    exact q2
   ·match j,hj with
    |0,hj=>simp at hj;subst hj;exact .pure _ _ (.bool _)
    |1,hj=>simp at hj;subst hj;show VR R' _ q.1.key;rw[e1];exact J5 R' ka fun _=>q.2.1
    |2,hj=>simp at hj;subst hj;show VR R' _ q.1.val;rw[e2];exact J5 R' n fun _=>q.2.2
    |j+3,hj=>simp at hj⟩
end Go.Proofs.YtjgpiclllehgmaaGreat.Vm
namespace Go.Proofs.YtjgpiclllehgmaaGreat.Sp
open Vm
def Zkj (t:Ze) (d i:Nat) (r a:Int):Bool:=
 decide ((ZU t (Zj t i) r a).comes≠(ZU t ((Zj t i).set d 0) r a).comes)||decide ((ZU t (Zj t i) r a).goes≠(ZU t ((Zj t i).set d 0) r a).goes)
def ZaD (t:Ze) (d i:Nat) (r:Nat):Bool:=decide ((Zj t i).getD d 0≠0)&&(List.range (Zo (callsOf t) r).length).any fun a=>Zkj t d i r a
def Zey (t:Ze) (d:Nat):Nat→Nat→Bool
 |0,_=>false
 |i+1,r=>Zey t d i r||ZaD t d i r
def Zfd (t:Ze) (d:Nat):List Int:=((List.range 4).filter fun r=>Zey t d (ZO t) r).map fun(r:Nat)=>(r:Int)
def ZaX (t:Ze) (d:Int):List Int×Int:=if Zr t≠0 then([],Zr t)else if Xw d 0 ((t.delays.length:Int)-1)then([],3)else(Zfd t d.toNat,0)
theorem Zox:ZaX (Z5 30) 0=([0,1],0)∧ZaX (Z5 15) 0=([0],0):=by decide+kernel
theorem ZiW {ds:List Qn} (h6:ds.length≤6) {x:List Int}:∀m,m≤ds.length→(∀k,k<m→0≤x.getD k 0∧x.getD k 0<lenAt ds k)→∃n,n<X8 ds m∧∀k,k<m→(Yb ds m n).getD k 0=x.getD k 0
 |0,_,_=>⟨0,by unfold X8;omega,fun k h=>by omega⟩
 |m+1,hm,hx=>by
  obtain⟨n,hn,he⟩:=ZiW h6 m (by omega) fun k hk=>hx k (by omega)
  have hxm:=hx m (by omega)
  have hl:0<lenAt ds m:=by omega
  have hq:(n*lenAt ds m+(x.getD m 0).toNat)/lenAt ds m=n:=by
   rw[Nat.mul_comm,Nat.mul_add_div hl,Nat.div_eq_of_lt (by omega)]
   omega
  have hr:(n*lenAt ds m+(x.getD m 0).toNat)%lenAt ds m=(x.getD m 0).toNat:=by
   rw[Nat.mul_comm,Nat.mul_add_mod,Nat.mod_eq_of_lt (by omega)]
  refine⟨n*lenAt ds m+(x.getD m 0).toNat,?_,fun k hk=>?_⟩
  ·unfold X8
   have:=Nat.mul_le_mul_right (lenAt ds m) (show n+1≤X8 ds m by omega)
   rw[Nat.add_mul]at this
   omega
  ·unfold Yb
   rw[hq,hr]
   by_cases h:m=k
   ·subst h
    rw[List.getD_eq_getElem?_getD,List.getElem?_set_self (by rw[XX];omega)]
    show((x.getD m 0).toNat:Int)=_
    omega
   ·rw[List.getD_eq_getElem?_getD,List.getElem?_set_ne h,←List.getD_eq_getElem?_getD]
    exact he k (by omega)
theorem ZtE {x y:List Int} (hx:x.length=6) (hy:y.length=6) (h:∀k,k<6→x.getD k 0=y.getD k 0):x=y:=by
 refine List.ext_getElem (by omega) fun k h1 h2=>?_
 have:=h k (by omega)
 rw[List.getD_eq_getElem?_getD,List.getD_eq_getElem?_getD,List.getElem?_eq_getElem h1,List.getElem?_eq_getElem h2]at this
 exact this
theorem Zjs {t:Ze} (hf:ZA t) {x:List Int} (hx:Y4 t x) (h0:∀k,t.delays.length≤k→k<6→x.getD k 0=0):∃n,n<ZO t∧Zj t n=x:=by
 obtain⟨n,hn,he⟩:=ZiW (ds:=t.delays) hf.dlen (x:=x) t.delays.length (Nat.le_refl _) hx.d
 refine⟨n,hn,ZtE (XX _ _) hx.len fun k hk=>?_⟩
 by_cases h:k<t.delays.length
 ·exact he k h
 ·show(Yb t.delays t.delays.length n).getD k 0=_
  rw[Zam _ _ _ (by omega),h0 k (by omega) hk]
def keyT (x:List Int):List Int:=[x.getD 0 0,x.getD 1 0,x.getD 2 0,x.getD 3 0,x.getD 4 0,x.getD 5 0]
theorem Zok {x y:List Int} (hx:x.length=6) (hy:y.length=6) (h:keyT x=keyT y):x=y:=by
 unfold keyT at h
 simp only[List.cons.injEq,and_true]at h
 refine ZtE hx hy fun k hk=>?_
 match k,hk with
 |0,_=>exact h.1
 |1,_=>exact h.2.1
 |2,_=>exact h.2.2.1
 |3,_=>exact h.2.2.2.1
 |4,_=>exact h.2.2.2.2.1
 |5,_=>exact h.2.2.2.2.2
def J0 (t:Ze) (d:Nat):Nat→List (List Int×List (List Int×List Int))
 |0=>[]
 |i+1=>if(Zj t i).getD d 0=0 then Y0 (J0 t d i) (keyT (Zj t i)) (Qe t (Zj t i))else J0 t d i
theorem Zdw {t:Ze} {d:Nat}:∀n,((J0 t d n).map (·.1)).Nodup∧(∀p∈J0 t d n,∃i,p=(keyT (Zj t i),Qe t (Zj t i)))∧∀i,i<n→(Zj t i).getD d 0=0→(keyT (Zj t i),Qe t (Zj t i))∈J0 t d n
 |0=>⟨.nil,fun p h=>(by cases h),fun i h=>by omega⟩
 |n+1=>by
  obtain⟨h1,h2,h3⟩:=Zdw (t:=t) (d:=d) n
  unfold J0
  split
  ·rename_i h0
   refine⟨Zde h1,fun p hp=>?_,fun i hi hx=>?_⟩
   ·rcases Ze5 hp with rfl|hp
    ·exact⟨n,rfl⟩
    ·exact h2 p hp
   ·by_cases he:i=n
    ·subst he
     exact Zdd
    ·refine Zgt (h3 i (by omega) hx) fun e=>?_
     have:=Zok (XX _ _) (XX _ _) e
     show Qe t (Zj t i)=_
     rw[show Zj t i=Zj t n from this]
  ·rename_i h0
   refine⟨h1,h2,fun i hi hx=>?_⟩
   by_cases he:i=n
   ·subst he
    exact absurd hx h0
   ·exact h3 i (by omega) hx
theorem ZlN {t:Ze} (hf:ZA t) {d i:Nat} (hd:d<t.delays.length):(J0 t d (ZO t)).lookup (keyT ((Zj t i).set d 0))=some (Qe t ((Zj t i).set d 0)):=by
 have hfit:=Xq hf i
 have h6:=hf.dlen
 have hget:∀k,((Zj t i).set d 0).getD k 0=if k=d then 0 else(Zj t i).getD k 0:=fun k=>by
  by_cases h:k=d
  ·subst h
   rw[if_pos rfl,List.getD_eq_getElem?_getD,List.getElem?_set_self (by rw[hfit.len];omega)]
   rfl
  ·rw[if_neg h,List.getD_eq_getElem?_getD,List.getElem?_set_ne (Ne.symm h),←List.getD_eq_getElem?_getD]
 obtain⟨n,hn,he⟩:=Zjs hf (x:=(Zj t i).set d 0) ⟨by rw[List.length_set];exact hfit.len,fun k hk=>by
  rw[hget]
  split
  ·have:=(hfit.d k hk)
   omega
  ·exact hfit.d k hk⟩ fun k h1 h2=>by
  rw[hget]
  split
  ·rfl
  ·exact Zam _ _ _ h1
 rw[←he]
 refine ZbT (Zdw _).1 ((Zdw _).2.2 n hn ?_)
 rw[he,hget,if_pos rfl]
theorem Zsi {x:List Int} {D:Nat} (hx:x.length=6) (hD:D<6):(x.getD 0 0==(x.set D 0).getD 0 0&&(x.getD 1 0==(x.set D 0).getD 1 0&&(x.getD 2 0==(x.set D 0).getD 2 0&&(x.getD 3 0==(x.set D 0).getD 3 0&&(x.getD 4 0==(x.set D 0).getD 4 0&&(x.getD 5 0==(x.set D 0).getD 5 0&&true))))))=decide (x.getD D 0=0):=by
 match x,hx with
 |[a0,a1,a2,a3,a4,a5],_=>
  match D,hD with
  |0,_|1,_|2,_|3,_|4,_|5,_=>simp[List.set,List.getD];rfl
theorem ZjE {t:Ze} {d i:Nat} (h:(Zj t i).getD d 0=0) (r:Nat):ZaD t d i r=false:=by
 unfold ZaD
 rw[decide_eq_false (fun hn=>hn h),Bool.false_and]
def Zj1 (W:List (List Int×List Int)) (p:List Int×List Int):Bool:=p.2.headD 0 !=((W.lookup p.1).getD []).headD 0||p.2.tail.tail.headD 0 !=((W.lookup p.1).getD []).tail.tail.headD 0
def cvE (L W:List (List Int×List Int)) (S:List (List Int)) (r:Nat):Bool:=L.any fun p=>S.contains p.1&&(p.1.headD 0==(r:Int)&&Zj1 W p)
theorem ZqA {L W:List (List Int×List Int)} {r:Nat}:cvE L W [] r=false:=by
 unfold cvE
 rw[List.any_eq_false]
 intro p _
 simp
theorem ZoG {L W:List (List Int×List Int)} {S:List (List Int)} {e:List Int×List Int} (he:e∈L) (hn:(L.map (·.1)).Nodup) (r:Nat):cvE L W (S++[e.1]) r=(cvE L W S r||(e.1.headD 0==(r:Int)&&Zj1 W e)):=by
 unfold cvE
 rw[Bool.eq_iff_iff]
 simp only[List.any_eq_true,Bool.or_eq_true,Bool.and_eq_true,List.contains_eq_mem,decide_eq_true_eq,List.mem_append,List.mem_singleton]
 constructor
 ·rintro⟨p,hp,h1|h1,h2⟩
  ·exact .inl ⟨p,hp,h1,h2⟩
  ·have:p=e:=ZbQ (f:=fun q:List Int×List Int=>q.1) hn hp he h1
   subst this
   exact .inr h2
 ·rintro(⟨p,hp,h1,h2⟩|h2)
  ·exact⟨p,hp,.inl h1,h2⟩
  ·exact⟨e,he,.inr rfl,h2⟩
theorem ZiJ {t:Ze} {x:List Int}:((Qe t x).map (·.1)).Nodup:=by
 unfold Qe
 rw[List.map_map]
 exact List.Pairwise.map _ (fun a b hab e=>by
  apply hab
  simp only[Function.comp,List.cons.injEq,and_true]at e
  exact Prod.ext e.1 e.2) Zbd
theorem ZiK {t:Ze} (hf:ZA t) {x:List Int} {p:List Int×List Int} (hp:p∈Qe t x): [p.1.headD 0,p.1.tail.headD 0]=p.1∧0≤p.1.headD 0∧p.1.headD 0<4:=by
 obtain⟨⟨r,a⟩,hs,rfl⟩:=List.mem_map.1 hp
 have hs:=Jm.1 hs
 have:=hf.calls.len
 exact⟨rfl,hs.1,by have:=hs.2.1;show r<4;omega⟩
theorem ZkJ {L:List (List Int×List Int)} {S:List (List Int)} {e:List Int×List Int} (he:e∈L) (hn:e.1∉S):(L.filter fun q=> !(S++[e.1]).contains q.1).length<(L.filter fun q=> !S.contains q.1).length:=by
 refine Zdx (x:=e) (fun q hq=>?_) he (by simpa using hn) (by simp)
 simp only[Bool.not_eq_true',List.contains_eq_mem,List.mem_append,decide_eq_false_iff_not]at hq⊢
 exact fun h=>hq (.inl h)
theorem ZqB {t:Ze} {d i:Nat} (h0:(Zj t i).getD d 0≠0) {S:List (List Int)} (hS:∀p∈Qe t (Zj t i),p.1∈S) {r:Nat}:cvE (Qe t (Zj t i)) (Qe t ((Zj t i).set d 0)) S r=ZaD t d i r:=by
 have hat:∀r a,StopIn (callsOf t) r a→Zj1 (Qe t ((Zj t i).set d 0)) ([r,a],Zb6 (ZU t (Zj t i) r a))=Zkj t d i r a:=fun r a hs=>by
  unfold Zj1 Zkj
  rw[Zaj hs]
  show((ZU t (Zj t i) r a).comes !=(ZU t ((Zj t i).set d 0) r a).comes||(ZU t (Zj t i) r a).goes !=(ZU t ((Zj t i).set d 0) r a).goes)=_
  rw[Bool.eq_iff_iff]
  simp
 unfold cvE ZaD
 rw[decide_eq_true h0,Bool.true_and,Bool.eq_iff_iff]
 simp only[List.any_eq_true,Bool.and_eq_true,List.contains_eq_mem,decide_eq_true_eq,List.mem_range,beq_iff_eq]
 constructor
 ·rintro⟨p,hp,_,h2,h3⟩
  obtain⟨⟨r',a⟩,hs,rfl⟩:=List.mem_map.1 hp
  have hs:=Jm.1 hs
  have h2:r'=(r:Int):=h2
  subst h2
  have h3:Zj1 (Qe t ((Zj t i).set d 0)) ([(r:Int),a],Zb6 (ZU t (Zj t i) r a))=true:=h3
  rw[hat _ _ hs]at h3
  exact⟨a.toNat,by have:=hs.2.2.2;have:=hs.2.2.1;omega,by rw[show((a.toNat:Nat):Int)=a by have:=hs.2.2.1;omega];exact h3⟩
 ·rintro⟨a,ha,h3⟩
  by_cases hr:r<(callsOf t).length
  ·have hs:StopIn (callsOf t) r a:=⟨by omega,by omega,by omega,by omega⟩
   have hm:([(r:Int),(a:Int)],Zb6 (ZU t (Zj t i) r a))∈Qe t (Zj t i):=List.mem_map.2 ⟨((r:Int),(a:Int)),Jm.2 hs,rfl⟩
   exact⟨_,hm,hS _ hm,rfl,by rw[hat _ _ hs];exact h3⟩
  ·exfalso
   have:Zo (callsOf t) r=[]:=by
    unfold Zo
    rw[List.getD_eq_getElem?_getD,List.getElem?_eq_none (by omega)]
    rfl
   rw[this]at ha
   simp at ha
end Go.Proofs.YtjgpiclllehgmaaGreat.Sp
namespace Go.Proofs.YtjgpiclllehgmaaGreat.Vm
open Go Go.Proofs Sp
set_option maxRecDepth 100000
set_option maxHeartbeats 800000
def Xe (s:Int):Zi:=.cells [.int .u64 fun _=>s]
theorem Zmn (n:Int):0≤IntKind.u64.wrap n∧IntKind.u64.wrap n<18446744073709551616:=by
 have h:IntKind.u64.wrap n=n%18446744073709551616:=by
  simp[IntKind.wrap,IntKind.signed,IntKind.bits]
 omega
theorem c60 (s:Int):SC (fun _=>Tryz.prog) 79 [.ptr 0 0] [Xe s] fun r h=>∃x s':Int,(0≤x∧x<18446744073709551616)∧r= .int .u64 (fun _=>x)∧h=[Xe s']:=by
 refine QP Tryz.func79 (body:=Zk Tryz.f79) rfl (by decide+kernel) ?_
 (cbv;(try simp only[nc]at*);(try refine Chk.mk (Qa) ?_))
 exact⟨_,_,Zmn _,rfl,rfl⟩
theorem Zr8 (x m:Int) (h0:0≤x∧x<18446744073709551616) (h1:1≤m) (h2:m≤1000000000):
  0≤(x.fdiv (2^ min (Int.toNat 13) IntKind.u64.bits)).tmod (IntKind.u64.wrap (m+1))∧(x.fdiv (2^ min (Int.toNat 13) IntKind.u64.bits)).tmod (IntKind.u64.wrap (m+1))≤m∧IntKind.u64.wrap (m+1)≠0:=by
 have hw:IntKind.u64.wrap (m+1)=m+1:=by
  have h:∀n,IntKind.u64.wrap n=n%18446744073709551616:=fun n=>by simp[IntKind.wrap,IntKind.signed,IntKind.bits]
  rw[h];omega
 rw[hw]
 have h3:(2:Int)^ min (Int.toNat 13) IntKind.u64.bits=8192:=by decide
 rw[h3]
 have h4:0≤x.fdiv 8192:=by rw[Int.fdiv_eq_ediv_of_nonneg _ (by omega)];omega
 rw[Int.tmod_eq_emod_of_nonneg h4]
 have:=Int.emod_nonneg (x.fdiv 8192) (show m+1≠0 by omega)
 have:=Int.emod_lt_of_pos (x.fdiv 8192) (show 0<m+1 by omega)
 omega
theorem c17 (s m:Int) (hm:m≤1000000000):SC (fun _=>Tryz.prog) 21 [.ptr 0 0,.int .i64 fun _=>m] [Xe s] fun r h=>∃x s':Int,(0≤x∧(x≤m∨x=0))∧r= .int .i64 (fun _=>x)∧h=[Xe s']:=by
 refine QP Tryz.func21 (body:=Zk Tryz.f21) rfl (by decide+kernel) ?_
 cbv
 refine⟨fun hb=>?_,fun hb=>?_⟩
 ·(cbv;(try simp only[nc]at*);(try refine Chk.mk (Qa) ?_))
  exact⟨0,s,⟨by omega,.inr rfl⟩,rfl,rfl⟩
 ·simp only[decide_eq_false_iff_not]at hb
  (cbv;(try simp only[nc]at*);(try refine Chk.mk (Qa) ?_))
  refine ZH [0] (c60 s) (by decide) (by simp) rfl rfl fun r h₂ hp=>?_
  obtain⟨x,s',hx,rfl,rfl⟩:=hp
  have hv:=Zr8 x m hx (by omega) (by omega)
  (cbv;try simp only[nc]at*)
  generalize (x.fdiv (2^ min (Int.toNat 13) IntKind.u64.bits)).tmod (IntKind.u64.wrap (m+1))=y at*
  generalize IntKind.u64.wrap (m+1)=z at*
  refine Chk.mk (Qa) ?_
  exact⟨y,s',⟨by omega,.inl (by omega)⟩,rfl,rfl⟩
theorem c22 (s l m:Int) (hl:-1000000000≤l∧l≤1000000000) (hm:m-l≤1000000000∧-1000000000≤m):SC (fun _=>Tryz.prog) 48 [.ptr 0 0,.int .i64 fun _=>l,.int .i64 fun _=>m] [Xe s] fun r h=>∃x s':Int,(l≤x∧(x≤m∨x=l))∧r= .int .i64 (fun _=>x)∧h=[Xe s']:=by
 refine QP Tryz.func48 (body:=Zk Tryz.f48) rfl (by decide+kernel) ?_
 (cbv;(try simp only[nc]at*);(try refine Chk.mk (Qa) ?_))
 refine ZH [0] (c17 s (m-l) (by omega)) (by decide) (by simp) rfl rfl fun r h₂ hp=>?_
 obtain⟨x,s',hx,rfl,rfl⟩:=hp
 (cbv;(try simp only[nc]at*);(try refine Chk.mk (Qa) ?_))
 exact⟨l+x,s',by omega,rfl,rfl⟩
theorem c37 (s n m:Int) (hm:0≤m∧m≤1000000000):SC (fun _=>Tryz.prog) 72 [.ptr 0 0,.int .i64 fun _=>n,.int .i64 fun _=>m] [Xe s] fun r h=>∃(b:Bool) (s':Int),r= .bool (fun _=>b)∧h=[Xe s']:=by
 refine QP Tryz.func72 (body:=Zk Tryz.f72) rfl (by decide+kernel) ?_
 (cbv;(try simp only[nc]at*);(try refine Chk.mk (Qa) ?_))
 refine ZH [0] (c17 s (m-1) (by omega)) (by decide) (by simp) rfl rfl fun r h₂ hp=>?_
 obtain⟨x,s',hx,rfl,rfl⟩:=hp
 (cbv;(try simp only[nc]at*);(try refine Chk.mk (Qa) ?_))
 exact⟨_,s',rfl,rfl⟩
theorem c81 (s:Int) (l:List Int) (hl:0<l.length∧l.length≤1000000):SC (fun _=>Tryz.prog) 57 [.ptr 0 0,lst 1 XC 0 l] [Xe s] fun r h=>∃x s':Int,x∈l∧r= .int .i64 (fun _=>x)∧h=[Xe s']:=by
 obtain⟨nt,hnt⟩:=Zs
 rw[Za hnt]
 refine QP Tryz.func57 (body:=Zk Tryz.f57) rfl (by decide+kernel) ?_
 cbv
 refine⟨fun hb=>?_,fun hb=>?_⟩
 ·simp only[nc,beq_iff_eq]at hb
  omega
 (cbv;(try simp only[nc]at*);(try refine Chk.mk (Qa) ?_))
 refine ZH [0] (c17 s ((l.length:Int)-1) (by omega)) (by decide) (by simp) rfl rfl fun r h₂ hp=>?_
 obtain⟨x,s',hx,rfl,rfl⟩:=hp
 (cbv;(try simp only[nc]at*);(try refine Chk.mk (Qa) ?_))
 obtain⟨i,rfl⟩:∃i:Nat,x=i:=⟨x.toNat,by omega⟩
 exact⟨_,s',XF hnt (by omega),rfl,rfl⟩
theorem c14 (l:List Int) (hl:(l.length:Int)≤9223372036854775807):SC (fun _=>Tryz.prog) 18 [lst 1 XC 0 l] [] fun r h=>∃s:Int,r= .ptr 0 0∧h=[Xe s]:=by
 obtain⟨nt,hnt⟩:=Zs
 rw[Za hnt]
 refine Zux true false Tryz.func18 (body:=Zk Tryz.f18) rfl (by decide+kernel) ?_
 (cbv;(try simp only[nc]at*);(try refine Chk.mk (Qa) ?_))
 refine Ztw true false [0,3,4] (fun(⟨i,s⟩:Nat×Int)=>mkS 41 [(0,.isl 1 (fun _=>(l.length:Int)) (fun e=>XC (nt Int 0 l (e ()))) .none),(3,.ptr 0 0),(4,.int .i64 fun _=>(i:Int))])
  (fun⟨i,s⟩=>[Xe s]) (fun⟨i,s⟩=>i≤l.length) (fun i=>l.length-i.1+0) (0,11400714819323198485) 1 (fun _=>rfl) (Nat.zero_le _) (To.of [] ?_) ?_
 ·cbv
  exact⟨⟨.refl _,.refl _,.int rfl,trivial⟩,.refl _,trivial⟩
 rintro⟨i,s⟩ hi
 have hi:i≤l.length:=hi
 (cbv;(try simp only[nc]at*);(try refine Chk.mk (Qa) ?_))
 refine⟨fun hb=>?_,fun hb=>?_⟩
 ·simp only[decide_eq_true_eq]at hb
  (cbv;(try simp only[nc]at*);(try refine Chk.mk (Qa) ?_))
  exact⟨(i+1,_),(by omega:i+1≤l.length),by show l.length-(i+1)+0<l.length-i+0;omega,To.of [] (by
   cbv
   exact⟨⟨.refl _,.refl _,.int rfl,trivial⟩,.refl _,trivial⟩)⟩
 ·(cbv;(try simp only[nc]at*);(try refine Chk.mk (Qa) ?_))
  exact⟨s,rfl,rfl⟩
attribute [local irreducible] Dn
def Zpa (n:Int):Prop:=n=60∨n=-60∨n=30∨n=-90∨(1≤n∧n≤20)
structure ZoX (k:Int) (z:Sp.Zone):Prop where
 base:-120≤z.base∧z.base≤120
 len:(z.chs.length:Int)≤k∨z.chs.length=0
 asc:z.chs.Pairwise fun a b=>a.at_<b.at_
 at_:∀c∈z.chs,0≤c.at_∧c.at_≤1500+2000*((z.chs.length:Int)-1)
 by_:∀c∈z.chs,Zpa c.by_
theorem Zql {α:Type} {n k sz:Nat} (enc:α→List AV) (d:α) (l:List α):ZD n k (Zcq sz (l.map enc)) (lst sz enc d l):=
 .none (by simp) fun i hi=>by
  have hi:i<l.length:=by simpa using hi
  show(l.map enc).getD i _=enc (l.getD i d)
  simp[List.getD_eq_getElem?_getD,List.getElem?_eq_getElem hi]
theorem ZfN (s:Int) (l:List Int) (hl:0<l.length∧l.length≤1000000):SC (fun _=>Tryz.prog) 57 [.ptr 0 0,Zcq 1 (l.map XC)] [Xe s] fun r h=>∃x s':Int,x∈l∧r= .int .i64 (fun _=>x)∧h=[Xe s']:=
 SC.to (xs₂:=[.ptr 0 0,lst 1 XC 0 l]) (h₂:=[Xe s]) (To.of [] ⟨⟨.refl _,Zql XC 0 l,trivial⟩,.refl _,trivial⟩) (c81 s l hl)
theorem c29 (s k:Int) (hk:k≤10):SC (fun _=>Tryz.prog) 73 [.ptr 0 0,.int .i64 fun _=>k] [Xe s] fun r h=>∃(z:Sp.Zone) (s':Int),ZoX k z∧r=Zd z∧h=[Xe s']:=by
 obtain⟨nt,hnt⟩:=Zs
 refine SC.less (QP Tryz.func73 (body:=Zk Tryz.f73) rfl (by decide+kernel) ?_)
 refine wS ?_
 refine ZH [0] (c22 s (-4) 4 (by omega) (by omega)) (by decide) (by simp) rfl rfl fun r h₂ hp=>?_
 obtain⟨b,s1,hb,rfl,rfl⟩:=hp
 refine wS ?_
 refine ZH [0] (c17 s1 1500 (by omega)) (by decide) (by simp) rfl rfl fun r h₂ hp=>?_
 obtain⟨a,s2,ha,rfl,rfl⟩:=hp
 refine wS ?_
 refine ZH [0] (c17 s2 k (by omega)) (by decide) (by simp) rfl rfl fun r h₂ hp=>?_
 obtain⟨n,s3,hn,rfl,rfl⟩:=hp
 refine wS ?_
 refine ZiA [0,4,5,6,7] (fun(⟨i,t,s,l⟩:Int×Int×Int×List Chg)=>mkS 43 [(0,.ptr 0 0),(4,.ptr 1 0),(5,.ptr 2 0),(6,.int .i64 fun _=>t),(7,.int .i64 fun _=>i)])
  (fun⟨i,t,s,l⟩=>[Xe s,.cells [.int .i64 fun _=>0,.isl 0 (fun _=>0) (fun _=>[]) .nil],.cells [.int .i64 fun _=>30*b,.isl 2 (fun _=>(l.length:Int)) (fun e=>ZbA (nt Chg default l (e ()))) (.own 3)],.tok 2 fun _=>(l.length:Int)])
  (fun⟨i,t,s,l⟩=>0≤i∧(l.length+i≤k∨(l.length:Int)+i=0)∧0≤t∧t≤1500+2000*(l.length:Int)∧l.Pairwise (fun a b=>a.at_<b.at_)∧(∀c∈l,0≤c.at_∧c.at_<t∧c.at_≤1500+2000*((l.length:Int)-1))∧∀c∈l,Zpa c.by_)
  (fun i=>i.1.toNat+0) (n,a,s3,[]) 4 (fun _=>rfl) ⟨by omega,by simp;omega,by omega,by simp;omega,.nil,by simp,by simp⟩ (To.of [(2,false)] ?_) ?_
 ·cbv
  exact⟨⟨.refl _,.refl _,.refl _,.refl _,.refl _,trivial⟩,.refl _,.refl _,.cells ⟨.refl _,.nilOwn (by decide) (by decide) rfl,trivial⟩,.tok rfl,trivial⟩
 rintro⟨i,t,s,l⟩ ⟨hi,hlen,ht0,ht,hpw,hat,hby⟩
 refine wS ?_
 refine⟨fun hb=>?_,fun hb=>?_⟩
 ·simp only[gt_iff_lt,decide_eq_true_eq]at hb
  refine wS ?_
  refine ZH [0] (c22 s 1 20 (by omega) (by omega)) (by decide) (by simp) rfl rfl fun r h₂ hp=>?_
  obtain⟨x,s1,hx,rfl,rfl⟩:=hp
  refine wS ?_
  refine ZH [0] (ZfN s1 [60,-60,30,-90,x] (by simp)) (by decide) (by simp) rfl rfl fun r h₂ hp=>?_
  obtain⟨y,s2,hy,rfl,rfl⟩:=hp
  refine wS ?_
  refine ZH [0] (c22 s2 1 40 (by omega) (by omega)) (by decide) (by simp) rfl rfl fun r h₂ hp=>?_
  obtain⟨u,s3,hu,rfl,rfl⟩:=hp
  refine wS ?_
  refine ZH [0] (c22 s3 100 2000 (by omega) (by omega)) (by decide) (by simp) rfl rfl fun r h₂ hp=>?_
  obtain⟨v,s4,hv,rfl,rfl⟩:=hp
  refine wS ?_
  refine ZH [0] (ZfN s4 [u,v] (by simp)) (by decide) (by simp) rfl rfl fun r h₂ hp=>?_
  obtain⟨q,s5,hq,rfl,rfl⟩:=hp
  have hq:1≤q∧q≤2000:=by simp at hq;omega
  refine wS ?_
  have hlen':((l++[(⟨t,y⟩:Chg)]).length:Int)=l.length+1:=by simp
  refine⟨(i-1,t+q,s5,l++[⟨t,y⟩]),⟨by dsimp only;omega,by dsimp only;omega,by dsimp only;omega,by dsimp only;omega,?_,?_,?_⟩,by show(i-1).toNat+0<i.toNat+0;omega,To.of [] ?_⟩
  ·refine List.pairwise_append.2 ⟨hpw,List.pairwise_singleton _ _,fun c hc d hd=>?_⟩
   simp only[List.mem_singleton]at hd
   subst hd
   exact(hat c hc).2.1
  ·intro c hc
   rw[hlen']
   dsimp only
   rcases List.mem_append.1 hc with hc|hc
   ·have:=hat c hc
    omega
   ·simp only[List.mem_singleton]at hc
    subst hc
    dsimp only
    omega
  ·intro c hc
   rcases List.mem_append.1 hc with hc|hc
   ·exact hby c hc
   ·simp only[List.mem_singleton]at hc
    subst hc
    simp at hy
    unfold Zpa
    dsimp only
    omega
  ·cbv
   exact⟨⟨.refl _,.refl _,.refl _,.refl _,.refl _,trivial⟩,.refl _,.refl _,.cells ⟨.refl _,.snoc hnt rfl rfl rfl,trivial⟩,.tok (by simp),trivial⟩
 ·simp only[decide_eq_false_iff_not]at hb
  refine wS ?_
  exact⟨Zd ⟨30*b,l⟩,[Xe s],To.of [] ⟨⟨.agg ⟨.refl _,.lst hnt rfl,trivial⟩,trivial⟩,.refl _,trivial⟩,⟨30*b,l⟩,_,⟨by dsimp only;omega,by dsimp only;omega,hpw,fun c hc=>by have:=hat c hc;dsimp only;omega,hby⟩,rfl,rfl⟩
set_option maxHeartbeats 1600000
structure Zg2 (n:Nat) (L:List Int):Prop where
 len:L.length=n
 bd:∀i,i<n→0≤L.getD i 0∧L.getD i 0<n
 inj:∀i j,i<n→j<n→L.getD i 0=L.getD j 0→i=j
theorem ZbK {L:List Int} {i k:Nat} (hi:i<L.length) (hk:k<L.length) (x:Nat):((L.set i (L.getD k 0)).set k (L.getD i 0)).getD x 0=L.getD (if x=k then i else if x=i then k else x) 0:=by
 simp only[List.getD_eq_getElem?_getD,List.getElem?_set,List.length_set]
 by_cases h1:x=k
 ·subst h1
  simp[hk]
 ·rw[if_neg (Ne.symm h1),if_neg h1]
  by_cases h2:x=i
  ·subst h2
   simp[hi]
  ·rw[if_neg (Ne.symm h2),if_neg h2]
theorem Zg2.swap {n:Nat} {L:List Int} (h:Zg2 n L) {i k:Nat} (hi:i<n) (hk:k<n):Zg2 n ((L.set i (L.getD k 0)).set k (L.getD i 0)):=by
 have hl:=h.len
 refine⟨by simpa using hl,fun x hx=>?_,fun x y hx hy e=>?_⟩
 ·rw[ZbK (by omega) (by omega)]
  exact h.bd _ (by split<;>(try split)<;>omega)
 ·rw[ZbK (by omega) (by omega),ZbK (by omega) (by omega)]at e
  have:=h.inj _ _ (by split<;>(try split)<;>omega) (by split<;>(try split)<;>omega) e
  split at this<;>split at this<;>(try split at this)<;>(try split at this)<;>omega
theorem Zp2 {nt:(α:Type)→α→List α→Int→α} (hnt:∀(α:Type) (d:α) (l:List α) (i:Int),nt α d l i=l.getD i.toNat d) {L:List Int} {i x:Nat} {v:Int} (hi:i<L.length):(bif decide ((x:Int)=0+(i:Int))then v else nt Int 0 L (x:Int))=nt Int 0 (L.set i v) (x:Int):=by
 rw[hnt,hnt]
 simp only[Int.toNat_natCast,List.getD_eq_getElem?_getD,List.getElem?_set]
 by_cases h:i=x
 ·subst h
  rw[decide_eq_true (by omega)]
  simp[hi]
 ·rw[decide_eq_false (by omega),if_neg h]
  rfl
theorem ZnH {nt:(α:Type)→α→List α→Int→α} (hnt:∀(α:Type) (d:α) (l:List α) (i:Int),nt α d l i=l.getD i.toNat d) {L:List Int} {i k x:Nat} {p q:Int} (hi:i<L.length) (hk:k<L.length) (hp:p=i) (hq:q=k):
  (bif decide ((x:Int)=0+q)then nt Int 0 L (0+p)else bif decide ((x:Int)=0+p)then nt Int 0 L (0+q)else nt Int 0 L (x:Int))=nt Int 0 ((L.set i (L.getD k 0)).set k (L.getD i 0)) (x:Int):=by
 subst hp hq
 simp only[hnt,Int.toNat_natCast,Int.zero_add]
 rw[ZbK hi hk]
 by_cases h1:x=k
 ·rw[decide_eq_true (by omega),if_pos h1];rfl
 ·rw[decide_eq_false (by omega),if_neg h1]
  by_cases h2:x=i
  ·rw[decide_eq_true (by omega),if_pos h2];rfl
  ·rw[decide_eq_false (by omega),if_neg h2];rfl
theorem Zve (s:Int) (n:Nat) (hn:n≤1000):SC (fun _=>Tryz.prog) 127 [.ptr 0 0,.int .i64 fun _=>(n:Int)] [Xe s] fun v h=>∃(L:List Int) (s':Int),Zg2 n L∧v=lst 1 XC 0 L∧h=[Xe s']:=by
 obtain⟨nt,hnt⟩:=Zs
 obtain⟨Z,hZ1,hZ2⟩:∃Z:List Int,Z.length=n∧∀j:Nat,Z.getD j 0=0:=⟨List.replicate n 0,by simp,fun j=>by simp only[List.getD_eq_getElem?_getD,List.getElem?_replicate];split<;>rfl⟩
 refine SC.less (QP Tryz.func127 (body:=Zk Tryz.f127) rfl (by decide+kernel) ?_)
 refine vS ?_
 simp only[show¬((n:Int)<0)from by omega,if_false]
 refine Chk.mk (Qa) ?_
 refine ZV false false [] [0,1,5,6] [] (fun(⟨i,L⟩:Nat×List Int)=>[(6,.int .i64 fun _=>i)]) (fun⟨i,L⟩=>[(1,.arr 1 (fun _=>(n:Int)) (fun e=>XC (nt Int 0 L (e ()))))])
  (fun⟨i,L⟩=>i≤n∧L.length=n∧∀j,j<i→L.getD j 0=(j:Int)) (fun i=>n-i.1+0) (0,Z) ⟨Nat.zero_le _,hZ1,fun j hj=>by omega⟩ ?_ ?_
 ·refine toR ?_
  refine .arr rfl fun x hx=>?_
  show [AV.int .i64 fun _=>_]=[AV.int .i64 fun _=>_]
  refine congrArg (fun y:Int=>[AV.int .i64 fun _=>y]) ?_
  rw[hnt]
  exact(hZ2 _).symm
 rintro⟨i,L⟩ ⟨hi,hL,hj⟩
 refine wS ?_
 refine⟨fun hb=>?_,fun hb=>?_⟩
 ·simp only[decide_eq_true_eq]at hb
  have hil:i<L.length:=by omega
  refine wS ?_
  refine⟨(i+1,L.set i (i:Int)),⟨by omega,by simpa using hL,fun j hj'=>?_⟩,by show n-(i+1)+0<n-i+0;omega,?_⟩
  ·simp only[List.getD_eq_getElem?_getD,List.getElem?_set]
   by_cases h:i=j
   ·subst h
    rw[if_pos rfl,if_pos (by omega)]
    rfl
   ·rw[if_neg h,←List.getD_eq_getElem?_getD];exact hj j (by omega)
  refine toR ?_
  refine .arr rfl fun x hx=>?_
  show [AV.int .i64 fun _=>_]=[AV.int .i64 fun _=>_]
  refine congrArg (fun y:Int=>[AV.int .i64 fun _=>y]) ?_
  exact Zp2 hnt hil
 ·simp only[decide_eq_false_iff_not]at hb
  have hD:Zg2 n L:=⟨hL,fun j hj'=>by rw[hj j (by omega)];omega,fun j k h1 h2 e=>by rw[hj j (by omega),hj k (by omega)]at e;omega⟩
  refine wS ?_
  clear hj hL
  refine ZV false false [] [0,5,7] [] (fun(⟨i,L,s⟩:Nat×List Int×Int)=>[(7,.int .i64 fun _=>(i:Int)-1)]) (fun⟨i,L,s⟩=>[(0,Xe s),(1,.arr 1 (fun _=>(n:Int)) (fun e=>XC (nt Int 0 L (e ()))))])
   (fun⟨i,L,s⟩=>i≤n∧Zg2 n L) (fun i=>i.1+0) (n,L,s) ⟨Nat.le_refl _,hD⟩ ?_ ?_
  ·exact ZI
  rintro⟨i,L,s⟩ ⟨hi,hD⟩
  have hL:=hD.len
  refine wS ?_
  refine⟨fun hb=>?_,fun hb=>?_⟩
  ·simp only[decide_eq_true_eq]at hb
   refine wS ?_
   refine cL0 [0] (c17 s ((i:Int)-1) (by omega)) fun r h₂ hp=>?_
   (try simp only[Zd,Zc,Za hnt]at hp)
   obtain⟨x,s',hx,rfl,rfl⟩:=hp
   refine wS ?_
   obtain⟨k,rfl⟩:∃k:Nat,x=k:=⟨x.toNat,by omega⟩
   obtain⟨j,rfl⟩:∃j,i=j+1:=⟨i-1,by omega⟩
   refine⟨(j,(L.set j (L.getD k 0)).set k (L.getD j 0),s'),⟨by omega,hD.swap (by omega) (by omega)⟩,by show j+0<j+1+0;omega,?_⟩
   have hjl:j<L.length:=by omega
   have hkl:k<L.length:=by omega
   refine toR ?_
   refine .arr rfl fun x hx=>?_
   show [AV.int .i64 fun _=>_]=[AV.int .i64 fun _=>_]
   refine congrArg (fun y:Int=>[AV.int .i64 fun _=>y]) ?_
   exact ZnH hnt hjl hkl (by omega) rfl
  ·refine wS ?_
   refine⟨lst 1 XC 0 L,[Xe s],?_,L,s,hD,rfl,rfl⟩
   rw[Za hnt]
   refine toR ?_
   refine .none (by omega) fun x hx=>?_
   show XC (nt Int 0 L (0+(x:Int)))=XC (nt Int 0 L (x:Int))
   rw[Int.zero_add]
structure ZgY (zones:Int) (stations:Nat) (number:Int) (t:Train):Prop where
 number:t.number=number
 days:1≤t.days∧t.days≤127
 len:2≤t.stops.length∧t.stops.length≤4∧t.stops.length≤stations
 stop:∀s∈t.stops,(0≤s.station∧s.station<stations)∧(0≤s.zone∧s.zone<zones)∧0≤s.arrive∧s.arrive≤s.depart∧s.depart≤4319
 nodup:t.stops.Pairwise fun a b=>a.station≠b.station
set_option maxHeartbeats 4000000
theorem Zmc.join3 {A B:Prop} {α β γ:Type} {G P:α→β→γ→Prop} (hA:(∀a c d,P a c d→G a c d)→A) (hB:(∀a c d,P a c d→G a c d)→B) (hM:∀a c d,P a c d→G a c d):Zmc A B:=⟨hA hM,hB hM⟩
structure Zjm (st:Nat) (number:Int) (t:Train):Prop where
 made:ZgY 1 st number t
 days:t.days=127
 late:∀s∈t.stops,s.depart≤1000
 asc:∀k,k+1<t.stops.length→(t.stops.getD k default).depart<(t.stops.getD (k+1) default).arrive
theorem ZuQ (s number:Int) (st:Nat) (hs:2≤st∧st≤10):SC (fun _=>Tryz.prog) 74 [.ptr 0 0,.int .i64 fun _=>number,.int .i64 fun _=>(st:Int)] [Xe s] fun v h=>∃(t:Train) (s':Int),Zjm st number t∧v= .agg (encTrain t)∧h=[Xe s']:=by
 obtain⟨nt,hnt⟩:=Zs
 refine SC.less (QP Tryz.func74 (body:=Zk Tryz.f74) rfl (by decide+kernel) ?_)
 refine wS ?_
 refine cL0 [0] (c17 s 90 (by omega)) fun r h₂ hp=>?_
 (try simp only[Zd,Zc,Za hnt]at hp)
 obtain⟨now,s1,hnow,rfl,rfl⟩:=hp
 refine wS ?_
 refine cL0 [0] (Zve s1 st (by omega)) fun r h₂ hp=>?_
 (try simp only[Zd,Zc,Za hnt]at hp)
 obtain⟨L,s4,hL,rfl,rfl⟩:=hp
 refine wS ?_
 have hmn:2≤(if(st:Int)<4 then(st:Int)else 4)∧(if(st:Int)<4 then(st:Int)else 4)≤4∧(if(st:Int)<4 then(st:Int)else 4)≤st:=by split<;>omega
 generalize (if(st:Int)<4 then(st:Int)else 4)=mn at*
 refine cL0 [0] (c22 s4 2 mn (by omega) (by omega)) fun r h₂ hp=>?_
 (try simp only[Zd,Zc,Za hnt]at hp)
 obtain⟨m,s5,hm,rfl,rfl⟩:=hp
 refine wS ?_
 obtain⟨m,rfl⟩:∃k:Nat,m=k:=⟨m.toNat,by omega⟩
 refine ZV false false [] [0,6,7,8,9,10] [.tok 4 fun _=>0] (fun(⟨i,now,s,out⟩:Nat×Int×Int×List Stop)=>[(8,.int .i64 fun _=>60+now),(10,.int .i64 fun _=>i)])
  (fun⟨i,now,s,out⟩=>[(0,Xe s),(2,.cells [.int .i64 fun _=>number,.int .i64 fun _=>127,.isl 4 (fun _=>(out.length:Int)) (fun e=>Q0 (nt Stop default out (e ()))) (.own 3)]),(3,.tok 4 fun _=>(out.length:Int))])
  (fun⟨i,now,s,out⟩=>i≤m∧out.length+i=m∧(0≤now∧now≤90+70*(out.length:Int))∧(∀x∈out,(0≤x.station∧x.station<st)∧(0≤x.zone∧x.zone<1)∧0≤x.arrive∧x.arrive≤x.depart∧x.depart<60+now)∧out.Pairwise (fun a b=>a.station≠b.station)∧(∀x∈out,∃j,i≤j∧j<m∧x.station=L.getD j 0)∧∀k,k+1<out.length→(out.getD k default).depart<(out.getD (k+1) default).arrive) (fun i=>i.1+0) (m,now,s5,[]) ⟨Nat.le_refl _,by simp,by simp;omega,by simp,.nil,by simp,by simp⟩ ?_ ?_
 ·(refine To.of [(4,false)] ?_;cbv;(try simp only[nc]);(repeat' (first|exact trivial|exact ZD.refl _|exact ZL.refl _|refine⟨?_,?_⟩|refine ZL.cells ?_|refine ZD.agg ?_|refine ZD.tup ?_));(all_goals (first|exact X9|skip)))
 rintro⟨i,now,s,out⟩ ⟨hi,hlen,hnow,hall,hpw,hst,hasc⟩
 refine wS ?_
 refine⟨fun hb=>?_,fun hb=>?_⟩
 ·simp only[decide_eq_true_eq]at hb
  have hLi:=hL.bd (i-1) (by omega)
  have hLn:nt Int 0 L ((i:Int)-1)=L.getD (i-1) 0:=by rw[hnt];congr 1;omega
  have hLl:=hL.len
  refine wS ?_
  apply Zmc.join3 (P:=fun(x y s8:Int)=>0≤y∧y≤20)
  ·intro M
   refine cL0 [0] (c17 s 20 (by omega)) fun r h₂ hp=>?_
   (try simp only[Zd,Zc,Za hnt]at hp)
   obtain⟨x,s7,hx,rfl,rfl⟩:=hp
   refine wS ?_
   refine⟨?_,?_⟩
   ·skip
    refine cL0 [0] (ZfN s7 [0,x] (by simp)) fun r h₂ hp=>?_
    (try simp only[Zd,Zc,Za hnt]at hp)
    obtain⟨y,s8,hy,rfl,rfl⟩:=hp
    have hy:0≤y∧y≤20:=by simp at hy;omega
    refine wS ?_
    exact M x y s8 hy
   ·refine wS ?_
    refine cL0 [0] (ZfN s7 [0,x] (by simp)) fun r h₂ hp=>?_
    (try simp only[Zd,Zc,Za hnt]at hp)
    obtain⟨y,s8,hy,rfl,rfl⟩:=hp
    have hy:0≤y∧y≤20:=by simp at hy;omega
    refine wS ?_
    exact M x y s8 hy
  ·intro M
   refine wS ?_
   refine cL0 [0] (c17 s 20 (by omega)) fun r h₂ hp=>?_
   (try simp only[Zd,Zc,Za hnt]at hp)
   obtain⟨x,s7,hx,rfl,rfl⟩:=hp
   refine wS ?_
   refine cL0 [0] (ZfN s7 [0,x] (by simp)) fun r h₂ hp=>?_
   (try simp only[Zd,Zc,Za hnt]at hp)
   obtain⟨y,s8,hy,rfl,rfl⟩:=hp
   have hy:0≤y∧y≤20:=by simp at hy;omega
   refine wS ?_
   refine SC.mono (M x y s8 hy) fun r h' hr=>?_
   revert hr
   generalize YX _ _ _ _ _ _=z
   cases z with
   |none=>exact id
   |some z=>exact fun h=>Zr2 (by decide) h
  intro x y s8 hy
  rw[hLn]
  refine cL0 [0] (c22 s8 10 50 (by omega) (by omega)) fun r h₂ hp=>?_
  (try simp only[Zd,Zc,Za hnt]at hp)
  obtain⟨q,s9,hq,rfl,rfl⟩:=hp
  refine wS ?_
  obtain⟨j,rfl⟩:∃j,i=j+1:=⟨i-1,by omega⟩
  refine⟨(j,now+y+q,s9,out++[⟨L.getD j 0,0,60+now,60+now+y⟩]),⟨by omega,by simp only[List.length_append,List.length_cons,List.length_nil];omega,by simp only[List.length_append,List.length_cons,List.length_nil];omega,?_,?_,?_,?_⟩,by show j+0<j+1+0;omega,?_⟩
  ·intro x hx
   rcases List.mem_append.1 hx with hx|hx
   ·have:=hall x hx
    refine⟨this.1,this.2.1,this.2.2.1,this.2.2.2.1,?_⟩
    show x.depart<60+(now+y+q)
    omega
   ·simp only[List.mem_singleton]at hx
    subst hx
    simp only[Nat.add_sub_cancel]at hLi
    dsimp only
    omega
  ·refine List.pairwise_append.2 ⟨hpw,List.pairwise_singleton _ _,fun c hc e he=>?_⟩
   simp only[List.mem_singleton]at he
   subst he
   obtain⟨k,hk1,hk2,hk3⟩:=hst c hc
   dsimp only
   rw[hk3]
   intro e
   have:=hL.inj _ _ (by omega) (by omega) e
   omega
  ·intro x hx
   rcases List.mem_append.1 hx with hx|hx
   ·obtain⟨k,hk1,hk2,hk3⟩:=hst x hx
    exact⟨k,by omega,hk2,hk3⟩
   ·simp only[List.mem_singleton]at hx
    subst hx
    exact⟨j,Nat.le_refl _,by omega,rfl⟩
  ·intro k hk
   simp only[List.length_append,List.length_cons,List.length_nil]at hk
   by_cases hk2:k+1<out.length
   ·simp only[List.getD_eq_getElem?_getD,List.getElem?_append_left hk2,List.getElem?_append_left (show k<out.length by omega)]
    simp only[←List.getD_eq_getElem?_getD]
    exact hasc k hk2
   ·have hk3:k+1=out.length:=by omega
    have hm:out.getD k default∈out:=by rw[List.getD_eq_getElem?_getD,List.getElem?_eq_getElem (by omega)];exact List.getElem_mem _
    have:=hall _ hm
    have e2:(out++[(⟨L.getD j 0,0,60+now,60+now+y⟩:Stop)]).getD (k+1) default=⟨L.getD j 0,0,60+now,60+now+y⟩:=by rw[hk3];simp[List.getD_eq_getElem?_getD]
    have e3:(out++[(⟨L.getD j 0,0,60+now,60+now+y⟩:Stop)]).getD k default=out.getD k default:=by simp only[List.getD_eq_getElem?_getD,List.getElem?_append_left (show k<out.length by omega)]
    rw[e2,e3]
    exact this.2.2.2.2
  ·exact ZI
 ·simp only[decide_eq_false_iff_not]at hb
  refine wS ?_
  refine⟨.agg (encTrain ⟨number,127,out⟩),[Xe s],?_,⟨number,127,out⟩,s,⟨⟨rfl,by dsimp only;omega,by dsimp only;omega,fun x hx=>?_,hpw⟩,rfl,fun x hx=>?_,hasc⟩,rfl,rfl⟩
  ·unfold encTrain
   simp only[Za hnt]
   exact ZI
  ·have:=hall x hx
   exact⟨this.1,this.2.1,this.2.2.1,this.2.2.2.1,by omega⟩
  ·have:=hall x hx
   omega
theorem ZuP (l:List Sp.Xo) (w:Sp.Xo) (hl:l.length≤1000000):SC (fun _=>Tryz.prog) 76 [lst 4 Xh default l,.agg (Xh w)] [] fun v h=>v= .bool (fun _=>l.any fun x=>decide (x.feeder=w.feeder∧x.train=w.train∧x.station=w.station))∧h=[]:=by
 obtain⟨nt,hnt⟩:=Zs
 generalize hE:(l.any fun x=>decide (x.feeder=w.feeder∧x.train=w.train∧x.station=w.station))=E
 unfold Xh
 simp only[Za hnt]
 refine QP Tryz.func76 (body:=Zk Tryz.f76) rfl (by decide+kernel) ?_
 refine wS ?_
 refine ZV false false [] [0,3,5] [] (fun(i:Nat)=>[(5,.int .i64 fun _=>i)]) (fun _=>[]) (fun i=>i≤l.length∧(l.drop i).any (fun x=>decide (x.feeder=w.feeder∧x.train=w.train∧x.station=w.station))=E) (fun i=>l.length-i+0) 0 ⟨Nat.zero_le _,hE⟩ ?_ ?_
 ·exact ZI
 rintro i ⟨hi,hp⟩
 refine wS ?_
 refine⟨fun hb=>?_,fun hb=>?_⟩
 ·have hb:=of_decide_eq_true hb
  have hd:=Qu (d:=default) hnt (l:=l) (i:=i) (by omega)
  rw[hd,List.any_cons]at hp
  generalize hx:nt Sp.Xo default l i=x at*
  refine vS ?_
  try simp only[hx]
  try refine Chk.mk (Qa) ?_
  have he:(bif (bif x.feeder==w.feeder then x.train==w.train else false)then x.station==w.station else false)=decide (x.feeder=w.feeder∧x.train=w.train∧x.station=w.station):=by
   by_cases e1:x.feeder=w.feeder<;>by_cases e2:x.train=w.train<;>by_cases e3:x.station=w.station<;>simp[e1,e2,e3]
  refine⟨fun h9=>?_,fun h9=>?_⟩
  ·rw[he]at h9
   rw[h9,Bool.true_or]at hp
   subst hp
   (cbv;(try simp only[nc]at*);(try refine Chk.mk (Qa) ?_))
   (try first|exact⟨rfl,trivial⟩|exact⟨trivial,trivial⟩)
  ·rw[he]at h9
   rw[h9,Bool.false_or]at hp
   refine wS ?_
   refine⟨i+1,⟨by omega,hp⟩,by show l.length-(i+1)+0<l.length-i+0;omega,?_⟩
   exact ZI
 ·have hb:=of_decide_eq_false hb
  rw[List.drop_eq_nil_of_le (by omega),List.any_nil]at hp
  subst hp
  (cbv;(try simp only[nc]at*);(try refine Chk.mk (Qa) ?_))
  (try first|exact⟨rfl,trivial⟩|exact⟨trivial,trivial⟩)
end Go.Proofs.YtjgpiclllehgmaaGreat.Vm
namespace Go.Proofs.YtjgpiclllehgmaaGreat.Vm
open Go Go.Proofs Sp
set_option maxRecDepth 100000
set_option maxHeartbeats 1600000
theorem ZgY.with {zones n m:Int} {t u:Train} (ht:ZgY zones 4 n t) (hu:ZgY zones 4 m u):ZgY zones 4 n ⟨t.number,t.days,u.stops⟩:=⟨ht.number,ht.days,hu.len,hu.stop,hu.nodup⟩
attribute [local irreducible] Dn
set_option maxHeartbeats 800000
theorem c39 (a b:List Int) (ha:a.length≤1000000000):SC (fun _=>Tryz.prog) 47 [lst 1 XC 0 a,lst 1 XC 0 b] [] fun r h=>r= .bool (fun _=>decide (a=b))∧h=[]:=by
 obtain⟨nt,hnt⟩:=Zs
 rw[Za hnt,Za hnt]
 refine QP Tryz.func47 (body:=Zk Tryz.f47) rfl (by decide+kernel) ?_
 refine wS ?_
 refine⟨fun hb=>?_,fun hb=>?_⟩
 ·simp only[bne_iff_ne,ne_eq]at hb
  refine wS ?_
  refine⟨?_,trivial⟩
  rw[decide_eq_false (fun h=>hb (by rw[h]))]
 simp only[bne_eq_false_iff_eq]at hb
 refine wS ?_
 refine ZiA [0,1,5] (fun i:Nat=>mkS 26 [(0,.isl 1 (fun _=>(a.length:Int)) (fun e=>XC (nt Int 0 a (e ()))) .none),(1,.isl 1 (fun _=>(b.length:Int)) (fun e=>XC (nt Int 0 b (e ()))) .none),(5,.int .i64 fun _=>(i:Int))]) (fun _=>[])
  (fun i=>i≤a.length∧(a=b↔a.drop i=b.drop i)) (fun i=>a.length-i+0) 0 0 (fun _=>rfl) ⟨Nat.zero_le _,by simp⟩ (To.of [] ?_) ?_
 ·cbv
  exact⟨⟨.refl _,.refl _,.int rfl,trivial⟩,trivial⟩
 rintro i ⟨hi,hp⟩
 refine wS ?_
 refine⟨fun hb'=>?_,fun hb'=>?_⟩
 ·simp only[decide_eq_true_eq]at hb'
  have hd:=Qu (d:=(0:Int)) hnt (l:=a) (i:=i) (by omega)
  have hd':=Qu (d:=(0:Int)) hnt (l:=b) (i:=i) (by omega)
  rw[hd,hd']at hp
  refine wS ?_
  refine⟨fun hb''=>?_,fun hb''=>?_⟩
  ·simp only[bne_iff_ne,ne_eq]at hb''
   refine wS ?_
   exact⟨by rw[decide_eq_false (fun h=>hb'' (List.cons.inj (hp.1 h)).1)],trivial⟩
  ·simp only[bne_eq_false_iff_eq]at hb''
   refine wS ?_
   refine⟨i+1,⟨by omega,by rw[hp,hb''];simp⟩,by show a.length-(i+1)+0<a.length-i+0;omega,To.of [] ?_⟩
   cbv
   exact⟨⟨.refl _,.refl _,.int rfl,trivial⟩,trivial⟩
 ·simp only[decide_eq_false_iff_not]at hb'
  have h1:a.drop i=[]:=List.drop_eq_nil_of_le (by omega)
  have h2:b.drop i=[]:=List.drop_eq_nil_of_le (by omega)
  rw[h1,h2]at hp
  have hp:a=b:=hp.2 rfl
  subst hp
  refine wS ?_
  exact⟨by simp,trivial⟩
end Go.Proofs.YtjgpiclllehgmaaGreat.Vm
namespace Go.Proofs.YtjgpiclllehgmaaGreat.Vm
open Go Go.Proofs Sp
set_option maxRecDepth 100000
def sl (s:Nat) (rows:List (List AV)):AV:=.isl s (fun _=>(rows.length:Int)) (fun e=>rows.getD (e ()).toNat (rows.headD [])) .none
set_option maxHeartbeats 4000000
set_option maxHeartbeats 800000
open Sp
set_option maxHeartbeats 1600000
theorem nb5 {a b:Bool} (h1:a=true) (h2:b=true):(bif a then b else false)=true:=by rw[h1,h2];rfl
theorem nb6 {a b:Bool} (h1:a=false) (h2:b=false):(bif a then true else b)=false:=by rw[h1,h2];rfl
theorem c72 (n a b:Int):SC (fun _=>Tryz.prog) 141 [.int .i64 fun _=>n,.int .i64 fun _=>a,.int .i64 fun _=>b] [] fun r h=>r= .bool (fun _=>Yx n a b)∧h=[]:=by
 refine QP Tryz.func141 (body:=Zk Tryz.f141) rfl (by decide+kernel) ?_
 cbv
 try simp only[nc]at*
 refine⟨by simp[QK,QJ,QU,QI,Cn.p],?_,trivial⟩
 congr 1;funext _;unfold Yx;cases decide (a≤n)<;>rfl
theorem c70 (z:Zone) (hlen:z.chs.length≤1000000):SC (fun _=>Tryz.prog) 139 [Zd z] [] fun v h=>v= .int .i64 (fun _=>Zu z)∧h=[]:=by
 obtain⟨nt,hnt⟩:=Zs
 unfold Zd Zu
 rw[Za hnt]
 refine QP Tryz.func139 (body:=Zk Tryz.f139) rfl (by decide+kernel) ?_
 (cbv;(try simp only[nc]at*);(try refine Chk.mk (Qa) ?_))
 refine ZS (c72 z.base (-720) 720) (by first|rfl|(simp only[Zd,Za hnt];rfl)) fun r h₂ hp=>?_
 (try simp only[Zd,Za hnt]at hp)
 obtain⟨rfl,rfl⟩:=hp
 (cbv;(try simp only[nc]at*);(try refine Chk.mk (Qa) ?_))
 refine⟨fun h1=>?_,fun h1=>?_⟩
 ·rw[if_pos h1]
  (cbv;(try simp only[nc]at*);(try refine Chk.mk (Qa) ?_))
  (try first|exact⟨rfl,trivial⟩|exact⟨trivial,trivial⟩)
 rw[if_neg (by rw[h1];exact Bool.false_ne_true)]
 refine⟨fun h2=>?_,fun h2=>?_⟩
 ·simp only[decide_eq_true_eq]at h2
  rw[if_pos (by omega)]
  (cbv;(try simp only[nc]at*);(try refine Chk.mk (Qa) ?_))
  (try first|exact⟨rfl,trivial⟩|exact⟨trivial,trivial⟩)
 simp only[decide_eq_false_iff_not]at h2
 rw[if_neg (by omega)]
 generalize hC:YO none z.chs=C at*
 (cbv;(try simp only[nc]at*);(try refine Chk.mk (Qa) ?_))
 refine ZV false false [] [1,3] [] (fun(i:Nat)=>[(3,.int .i64 fun _=>(i:Int))]) (fun _=>[]) (fun i=>i≤z.chs.length∧YO (if i=0 then none else some (nt Chg default z.chs ((i:Int)-1)).at_) (z.chs.drop i)=C) (fun i=>z.chs.length-i+0) 0 ⟨Nat.zero_le _,by simpa using hC⟩ ?_ ?_
 ·(refine To.of [] ?_;cbv;(try simp only[nc]);(repeat' (first|exact trivial|exact ZD.refl _|exact ZL.refl _|refine⟨?_,?_⟩|refine ZL.cells ?_|refine ZD.agg ?_|refine ZD.tup ?_));(all_goals (first|exact X9|skip)))
 rintro i ⟨hi,hp⟩
 (cbv;(try simp only[nc]at*);(try refine Chk.mk (Qa) ?_))
 refine⟨fun hb=>?_,fun hb=>?_⟩
 ·simp only[decide_eq_true_eq]at hb
  have hil:i<z.chs.length:=by omega
  rw[Qu (d:=default) hnt hil,Yu]at hp
  have hnx:(if i+1=0 then none else some (nt Chg default z.chs (((i+1:Nat):Int)-1)).at_)=some (nt Chg default z.chs (i:Int)).at_:=by
   rw[if_neg (by omega)];congr 3;omega
  generalize hc:nt Chg default z.chs (i:Int)=c at*
  have hlow:(bif decide (0<(i:Int))then decide (c.at_≤(nt Chg default z.chs ((i:Int)-1)).at_)else false)=leP (if i=0 then none else some (nt Chg default z.chs ((i:Int)-1)).at_) c.at_:=by
   by_cases h0:i=0
   ·subst h0;rfl
   ·rw[if_neg h0,decide_eq_true (show 0<(i:Int) by omega)];rfl
  rw[←hlow]at hp
  have k1:=c72 c.at_ 0 43200
  have k2:=c72 c.by_ (-180) 180
  generalize Yx c.at_ 0 43200=b1 at*
  generalize Yx c.by_ (-180) 180=b2 at*
  (cbv;try simp only[nc]at*)
  simp only[hc]
  refine Chk.mk (Qa) ?_
  refine ZS (k1) (by first|rfl|(simp only[Zd,Za hnt];rfl)) fun r h₂ hp=>?_
  (try simp only[Zd,Za hnt]at hp)
  obtain⟨rfl,rfl⟩:=hp
  (cbv;(try simp only[nc]at*);(try refine Chk.mk (Qa) ?_))
  refine⟨fun h3=>?_,fun h3=>?_⟩
  ·rw[if_pos h3]at hp
   rw[←hp]
   (cbv;(try simp only[nc]at*);(try refine Chk.mk (Qa) ?_))
   (try first|exact⟨rfl,trivial⟩|exact⟨trivial,trivial⟩)
  rw[if_neg (by rw[h3];exact Bool.false_ne_true)]at hp
  (cbv;(try simp only[nc]at*);(try refine Chk.mk (Qa) ?_))
  refine⟨fun h4=>?_,fun h4=>?_⟩
  ·rw[if_pos h4]at hp
   rw[←hp]
   (cbv;(try simp only[nc]at*);(try refine Chk.mk (Qa) ?_))
   (try first|exact⟨rfl,trivial⟩|exact⟨trivial,trivial⟩)
  rw[if_neg (by rw[h4];exact Bool.false_ne_true)]at hp
  (cbv;(try simp only[nc]at*);(try refine Chk.mk (Qa) ?_))
  refine ZS (k2) (by first|rfl|(simp only[Zd,Za hnt];rfl)) fun r h₂ hp=>?_
  (try simp only[Zd,Za hnt]at hp)
  obtain⟨rfl,rfl⟩:=hp
  (cbv;(try simp only[nc]at*);(try refine Chk.mk (Qa) ?_))
  refine⟨fun h5=>?_,fun h5=>?_⟩
  ·have h5':(!b2||decide (c.by_=0))=true:=by
    cases b2
    ·rfl
    ·simpa using h5
   rw[if_pos h5']at hp
   rw[←hp]
   (cbv;(try simp only[nc]at*);(try refine Chk.mk (Qa) ?_))
   (try first|exact⟨rfl,trivial⟩|exact⟨trivial,trivial⟩)
  ·have h5':¬(!b2||decide (c.by_=0))=true:=by
    cases b2
    ·simp at h5
    ·simpa using h5
   rw[if_neg h5']at hp
   (cbv;(try simp only[nc]at*);(try refine Chk.mk (Qa) ?_))
   refine⟨i+1,⟨by omega,by rw[hnx];exact hp⟩,by show z.chs.length-(i+1)+0<z.chs.length-i+0;omega,?_⟩
   (refine To.of [] ?_;cbv;(try simp only[nc]);(repeat' (first|exact trivial|exact ZD.refl _|exact ZL.refl _|refine⟨?_,?_⟩|refine ZL.cells ?_|refine ZD.agg ?_|refine ZD.tup ?_));(all_goals (first|exact X9|skip)))
 ·have hie:z.chs.length≤i:=by simp only[decide_eq_false_iff_not]at hb;omega
  rw[List.drop_eq_nil_of_le hie,Zct]at hp
  rw[←hp]
  (cbv;(try simp only[nc]at*);(try refine Chk.mk (Qa) ?_))
  (try first|exact⟨rfl,trivial⟩|exact⟨trivial,trivial⟩)
end Go.Proofs.YtjgpiclllehgmaaGreat.Vm
