/- How a traveller goes on in a truth, in plain Lean. -/
import Derived.Maps.RangeRun
import Derived.KernelRfl
import Derived.Test.YtjgpiclllehgmaaB2
import Derived.Test.YtjgpiclllehgmaaB0
import Derived.Test.YtjgpiclllehgmaaB1
import Derived.Test.YtjgpiclllehgmaaM5
set_option linter.all false
namespace Go.Proofs.Ytjgpiclllehgmaa.Sp
open Vm
def Zbu (a:Zau) (i:Nat):Step:=a.steps.getD i default
def ZeD (t:Zad) (s:Step):Int:=ZaC (Zap (callsOf t) s.run) 0 s.from_
def ZrP (t:Zad) (s:Step):Int:=ZaC (Zap (callsOf t) s.run) (ZeD t s+1) s.to_
def ZjU (t:Zad) (x:List Int) (a:Zau) (taken:List Int) (at_ now:Int) (i:Nat):Bool:=
 !taken.contains (i:Int)&&(decide ((Zbu a i).from_=at_)&&decide (now≤(Za0 t x (Zbu a i).run (ZeD t (Zbu a i))).goes))
def ZcZ (t:Zad) (x:List Int) (a:Zau) (taken:List Int) (at_ now:Int):Nat→Nat→Option Nat
 |_,0=>none
 |i,n+1=>if ZjU t x a taken at_ now i then some i else ZcZ t x a taken at_ now (i+1) n
def Zek (t:Zad) (x:List Int) (a:Zau):Nat→List Int→Int→Int→List Int×Int×Bool
 |0,l,_,_=>(l,0,false)
 |f+1,l,at_,now=>if at_=a.goal then(l,now,true)else match ZcZ t x a l at_ now 0 a.steps.length with
  |none=>(l,0,false)
  |some i=>Zek t x a f (l++[(i:Int)]) (Zbu a i).to_ (Za0 t x (Zbu a i).run (ZrP t (Zbu a i))).comes
def Zfb (t:Zad) (x:List Int) (a:Zau):List Int×Int×Bool:=Zek t x a (a.steps.length+1) [] a.from_ a.since
def Zo4 (a:Zau) (l:List Int):Nat:=((List.range a.steps.length).filter fun(i:Nat)=> !l.contains (i:Int)).length
theorem ZhX {α:Type} {p q:α→Bool} (hq:∀x,q x=true→p x=true):∀ {l:List α} {x:α},x∈l→p x=true→q x=false→(l.filter q).length<(l.filter p).length
 |a::l,x,hx,h1,h2=>by
  have hle:∀l:List α,(l.filter q).length≤(l.filter p).length:=fun l=>by
   induction l with
   |nil=>exact Nat.le_refl _
   |cons a l ih=>
    rw[List.filter_cons,List.filter_cons]
    cases h:q a with
    |true=>rw[hq a h];simpa using ih
    |false=>cases p a<;>simp<;>omega
  rw[List.filter_cons,List.filter_cons]
  rcases List.mem_cons.1 hx with rfl|hx
  ·rw[h1,h2]
   have:=hle l
   simp
   omega
  ·have ih:=ZhX hq hx h1 h2
   cases h:q a with
   |true=>rw[hq a h];simpa using ih
   |false=>cases p a<;>simp<;>omega
theorem ZtM {a:Zau} {l:List Int} {i:Nat} (hi:i<a.steps.length) (h:l.contains (i:Int)=false):Zo4 a (l++[(i:Int)])<Zo4 a l:=by
 refine ZhX (x:=i) (fun j hj=>?_) (List.mem_range.2 hi) (by rw[h];rfl) (by simp)
 simp only[Bool.not_eq_true',List.contains_eq_mem,List.mem_append,decide_eq_false_iff_not]at hj⊢
 exact fun h=>hj (.inl h)
theorem Zrd {a:Zau}:Zo4 a []=a.steps.length:=by
 unfold Zo4
 rw[show(List.range a.steps.length).filter (fun(i:Nat)=> !([]:List Int).contains (i:Int))=List.range a.steps.length from List.filter_eq_self.2 fun _ _=>rfl,List.length_range]
theorem Zoi {t:Zad} {x:List Int} {a:Zau} {f:Nat} {l:List Int} {at_ now:Int} (hf:0<f) (h:at_=a.goal):Zek t x a f l at_ now=(l,now,true):=by
 cases f with
 |zero=>omega
 |succ f=>rw[Zek,if_pos h]
theorem Zoh {t:Zad} {x:List Int} {a:Zau} {f:Nat} {l:List Int} {at_ now:Int} (hf:0<f) (h:at_≠a.goal) (hn:ZcZ t x a l at_ now 0 a.steps.length=none):Zek t x a f l at_ now=(l,0,false):=by
 cases f with
 |zero=>omega
 |succ f=>rw[Zek,if_neg h,hn]
theorem Zog {t:Zad} {x:List Int} {a:Zau} {f:Nat} {l:List Int} {at_ now:Int} {i:Nat} (hf:0<f) (h:at_≠a.goal) (hn:ZcZ t x a l at_ now 0 a.steps.length=some i):
  Zek t x a f l at_ now=Zek t x a (f-1) (l++[(i:Int)]) (Zbu a i).to_ (Za0 t x (Zbu a i).run (ZrP t (Zbu a i))).comes:=by
 cases f with
 |zero=>omega
 |succ f=>rw[Zek,if_neg h,hn];rfl
theorem Ztm {t:Zad} {a:Zau} (hf:Zay t) (h:Zdz (callsOf t) t.runs.length a=0) {i:Nat} (hi:i<a.steps.length):
  a.steps.length≤6∧StopIn (callsOf t) (Zbu a i).run (ZeD t (Zbu a i))∧StopIn (callsOf t) (Zbu a i).run (ZrP t (Zbu a i)):=by
 have hlen:t.runs.length=(callsOf t).length:=by unfold callsOf;rw[List.length_map]
 unfold Zdz at h
 split at h
 ·cases h
 split at h
 ·cases h
 have h1:=ZaM h i (by omega) (by omega)
 unfold Zfn at h1
 split at h1
 ·cases h1
 split at h1
 ·cases h1
 rename_i h2 h3
 have hb:0≤(Zbu a i).run∧(Zbu a i).run≤(t.runs.length:Int)-1:=ZbI (by cases hq:Zdc (Zbu a i).run 0 ((t.runs.length:Int)-1)with|false=>rfl|true=>exact absurd hq h2)
 have f1:ZeD t (Zbu a i)<(Zap (callsOf t) (Zbu a i).run).length:=(Zel _ _ _).1
 have f2:ZrP t (Zbu a i)<(Zap (callsOf t) (Zbu a i).run).length:=(Zel _ _ _).1
 change¬(ZeD t (Zbu a i)<0∨ZrP t (Zbu a i)<0)at h3
 exact⟨by omega,⟨hb.1,by omega,by omega,f1⟩,hb.1,by omega,by omega,f2⟩
end Go.Proofs.Ytjgpiclllehgmaa.Sp
namespace Go.Proofs.Ytjgpiclllehgmaa.Vm
attribute [local irreducible] Dn
open Go Go.Proofs Sp
set_option maxRecDepth 100000
set_option maxHeartbeats 4000000
theorem Zwj {rd:Bool} {nb:Nat} {K:Ex→List AV→List Blk→Cd→Prop} {k:List Item} {s:List AV} {h:List Blk} {ι:Type} (L:List Nat) (n:Nat) (S:ι→List AV) (Hp:ι→List Blk) (inv:ι→Prop) (μ:ι→Nat) (i:ι)
  (hi:inv i) (hn:leN n h.length=true) (h0:leN nb n=true) (hto:To (trimS n h (Vm.keep L s)) (Vm.sel true (List.range n) h) (S i) (Hp i))
  (step:∀i,inv i→(∀j,inv j→μ j<μ i→HP rd nb (fun _=>Try.prog) k K (S j) (Hp j))→HP rd nb (fun _=>Try.prog) k K (S i) (Hp i)):HP rd nb (fun _=>Try.prog) k K s h:=by
 have key:∀(m:Nat) (i:ι),μ i<m→inv i→HP rd nb (fun _=>Try.prog) k K (S i) (Hp i):=by
  intro m
  induction m with
  |zero=>intro i h;omega
  |succ m ih=>exact fun i hm hi=>step i hi fun j hj hlt=>ih j (by omega) hj
 exact ZgR L n hn h0 hto (key (μ i+1) i (Nat.lt_succ_self _) hi)
theorem Zr1 {rd:Bool} {nb:Nat} {K:Ex→List AV→List Blk→Cd→Prop} {k:List Item} {s:List AV} {h:List Blk} {ι:Type} (L:List Nat) (n:Nat) (ex:List Blk) (ch:ι→List (Nat×AV)) (hc:ι→List (Nat×Blk)) (inv:ι→Prop) (μ:ι→Nat) (i:ι)
  (hi:inv i) (hn:leN n h.length=true) (h0:leN nb n=true) (hto:To (trimS n h (Vm.keep L s)) (Vm.sel true (List.range n) h) (ZgG (Vm.keep L s) (ch i)) (Zfd (Vm.sel true (List.range n) h++ex) (hc i)))
  (step:∀i,inv i→(∀j,inv j→μ j<μ i→HP rd nb (fun _=>Try.prog) k K (ZgG (Vm.keep L s) (ch j)) (Zfd (Vm.sel true (List.range n) h++ex) (hc j)))→HP rd nb (fun _=>Try.prog) k K (ZgG (Vm.keep L s) (ch i)) (Zfd (Vm.sel true (List.range n) h++ex) (hc i))):HP rd nb (fun _=>Try.prog) k K s h:=
 Zwj L n (fun i=>ZgG (Vm.keep L s) (ch i)) (fun i=>Zfd (Vm.sel true (List.range n) h++ex) (hc i)) inv μ i hi hn h0 hto step
theorem Zti (tk:List Int→Int→Bool) {l:List Int} {e:Int} {i:Nat} (he:e=i) (hi:i<6):ZrT [fun _=>tk l 0,fun _=>tk l 1,fun _=>tk l 2,fun _=>tk l 3,fun _=>tk l 4,fun _=>tk l 5] e=tk l (i:Int):=by
 subst he
 match i,hi with
 |0,_=>rfl
 |1,_=>rfl
 |2,_=>rfl
 |3,_=>rfl
 |4,_=>rfl
 |5,_=>rfl
theorem Zth {tk:List Int→Int→Bool} (htk:∀l i,tk l i=l.contains i) {l:List Int} {e:Int} {i j:Nat} (he:e=i):(bif decide (e=(j:Int))then true else tk l (j:Int))=tk (l++[(i:Int)]) (j:Int):=by
 subst he
 rw[htk,htk]
 by_cases h:(i:Int)=j
 ·rw[decide_eq_true h,h]
  simp
 ·rw[decide_eq_false h]
  have h':¬(j:Int)=i:=fun e=>h e.symm
  simp[h']
theorem ZoQ {t:Zad} {x:List Int} {a:Zau} {l:List Int} {at_ now:Int} {i n:Nat} (h:0<n):ZcZ t x a l at_ now i n=if ZjU t x a l at_ now i then some i else ZcZ t x a l at_ now (i+1) (n-1):=by
 cases n with
 |zero=>omega
 |succ n=>rfl
theorem Zx3 (t:Zad) (x:List Int) (a:Zau) (hf:Zay t) (hx:Zdx t x) (ha:Zdz (callsOf t) t.runs.length a=0):SC (fun _=>Try.prog) 78 [.iptr (Za1 t) 0,Zdp a,.imap 2 3 fun _=>Za7 t x] [] fun v h=>
  v= .tup [lst 1 Ze3 0 (Zfb t x a).1,.int .i64 fun _=>(Zfb t x a).2.1,.bool fun _=>(Zfb t x a).2.2]∧h=[]:=by
 obtain⟨nt,hnt⟩:=Zat
 have hok:=fun i h=> @Ztm t a hf ha i h
 have hlk:=fun r k (h:StopIn (callsOf t) r k)=> @ZeC t x r k h
 have hrow:=fun r k (h:StopIn (callsOf t) r k)=>(ZdX hf.calls h).2.2
 have hgoal:=fun f l at_ now=> @Zoi t x a f l at_ now
 have hnone:=fun f l at_ now=> @Zoh t x a f l at_ now
 have hsome:=fun f l at_ now i=> @Zog t x a f l at_ now i
 have hbd:=fun r k (h:StopIn (callsOf t) r k)=>ZlG hf x h
 obtain⟨tk,htk⟩:∃tk:List Int→Int→Bool,∀l i,tk l i=l.contains i:=⟨fun l i=>l.contains i,fun _ _=>rfl⟩
 have hla:a.steps.length≤6:=by
  by_cases h:0<a.steps.length
  ·exact(hok 0 h).1
  ·omega
 have hnil:= @Zrd a
 have hlt:=fun l i h=> @ZtM a l i h
 have hR0:Zek t x a (a.steps.length+1) [] a.from_ a.since=Zfb t x a:=rfl
 generalize Zfb t x a=R at*
 generalize hG:Zek t x a=G at*
 generalize Zo4 a=LN at*
 generalize Za7 t x=HL at*
 unfold Za1 Zdp
 simp only[Zaa hnt,Zac,ZcF]
 refine SC.less (Zwn false false [] [3] true 0 Try.func78 (body:=Zal Try.f78) rfl (by decide+kernel) rfl ?_)
 refine wS ?_
 refine Zr1 [0,2,4,6,9,10,11] 2 [.tok 1 fun _=>0] (fun p:List Int×Int×Int×Nat=>[(6,.isl 1 (fun _=>(p.1.length:Int)) (fun e=>Ze3 (nt Int 0 p.1 (e ()))) (.own 2)),(9,.int .i64 fun _=>p.2.1),(10,.int .i64 fun _=>p.2.2.1)])
  (fun p=>[(1,.cells [.bool fun _=>tk p.1 0,.bool fun _=>tk p.1 1,.bool fun _=>tk p.1 2,.bool fun _=>tk p.1 3,.bool fun _=>tk p.1 4,.bool fun _=>tk p.1 5]),(2,.tok 1 fun _=>(p.1.length:Int))])
  (fun p=>LN p.1<p.2.2.2∧p.1.length+LN p.1≤a.steps.length∧G p.2.2.2 p.1 p.2.1 p.2.2.1=R) (fun p=>LN p.1) ([],a.from_,a.since,a.steps.length+1) ⟨by show LN []<_;rw[hnil];exact Nat.lt_succ_self _,by show 0+LN []≤_;omega,hR0⟩ rfl rfl ?_ ?_
 ·(refine To.of [(1,false)] ?_;cbv;(try simp only[nc]);(repeat' (first|exact trivial|exact WkN.refl _|exact WkB.refl _|refine⟨?_,?_⟩|refine WkB.cells ?_|refine WkN.agg ?_|refine WkN.tup ?_));(all_goals (first|exact okt|skip)))
  all_goals exact .bool (by rw[htk];rfl)
 intro p hp ih
 refine ZkO false false [] [] true ?_
 refine wS ?_
 refine⟨fun h1=>?_,fun h1=>?_⟩
 ·have h1:p.2.1=a.goal:=eq_of_beq h1
  have hr:=hp.2.2
  rw[hgoal _ _ _ _ (by have:=hp.1;omega) h1]at hr
  subst hr
  refine wS ?_
  refine⟨_,[],?_,rfl,rfl⟩
  exact toT
 have h1:p.2.1≠a.goal:=ne_of_beq_false h1
 refine wS ?_
 refine Zr1 [0,2,4,6,9,10,11,27,28,29] 3 [] (fun i:Nat=>[(29,.int .i64 fun _=>(i:Int))]) (fun _=>[]) (fun i=>i≤a.steps.length∧ZcZ t x a p.1 p.2.1 p.2.2.1 0 a.steps.length=ZcZ t x a p.1 p.2.1 p.2.2.1 i (a.steps.length-i)) (fun i=>a.steps.length-i) 0 ⟨by omega,rfl⟩ rfl rfl ?_ ?_
 ·exact toT
 intro i hi ih2
 refine ZkO false false [] [] true ?_
 refine wS ?_
 refine⟨fun h2=>?_,fun h2=>?_⟩
 case refine_2=>
  simp only[decide_eq_false_iff_not]at h2
  have hn:=hi.2
  rw[show a.steps.length-i=0 by omega,ZcZ]at hn
  have hr:=hp.2.2
  rw[hnone _ _ _ _ (by have:=hp.1;omega) h1 hn]at hr
  subst hr
  refine wS ?_
  refine⟨_,[],?_,rfl,rfl⟩
  exact toT
 simp only[decide_eq_true_eq]at h2
 have hil:i<a.steps.length:=by omega
 have hns:= @ZoQ t x a p.1 p.2.1 p.2.2.1 i (a.steps.length-i) (by omega)
 have hcan:ZjU t x a p.1 p.2.1 p.2.2.1 i=(!tk p.1 (i:Int)&&(decide ((Zbu a i).from_=p.2.1)&&decide (p.2.2.1≤(Za0 t x (Zbu a i).run (ZeD t (Zbu a i))).goes))):=by rw[htk];rfl
 have hok:=hok i hil
 have hsm:=hsome p.2.2.2 p.1 p.2.1 p.2.2.1 i (by have:=hp.1;omega) h1
 have hlt:=hlt p.1 i hil
 have e1:= @Zti tk p.1 i i rfl (by omega)
 have hro:=hrow _ _ hok.2.1
 have hl1:=hlk _ _ hok.2.1
 have hl2:=hlk _ _ hok.2.2
 have hb1:=hbd _ _ hok.2.1
 have hst:Zbu a i=nt Sp.Step default a.steps i:=by rw[hnt];rfl
 rw[hst]at hcan hok hsm hro hl1 hl2 hb1
 have hin:=hok.2.1
 have hin2:=hok.2.2
 unfold StopIn at hin hin2
 rw[Zfe hnt]at hro hin hin2
 have hfo:ZaC (nt (List Sp.Call) [] (callsOf t) (nt Sp.Step default a.steps i).run) 0 (nt Sp.Step default a.steps i).from_=ZeD t (nt Sp.Step default a.steps i):=by unfold ZeD;rw[Zfe hnt]
 have hto:ZaC (nt (List Sp.Call) [] (callsOf t) (nt Sp.Step default a.steps i).run) (ZeD t (nt Sp.Step default a.steps i)+1) (nt Sp.Step default a.steps i).to_=ZrP t (nt Sp.Step default a.steps i):=by unfold ZrP;rw[Zfe hnt]
 have k450:=Zur (nt (List Sp.Call) [] (callsOf t) (nt Sp.Step default a.steps i).run) 0 (nt Sp.Step default a.steps i).from_ (by omega) (by omega)
 have k450b:=Zur (nt (List Sp.Call) [] (callsOf t) (nt Sp.Step default a.steps i).run) (ZeD t (nt Sp.Step default a.steps i)+1) (nt Sp.Step default a.steps i).to_ (by omega) (by omega)
 rw[hfo]at k450
 rw[hto]at k450b
 simp only[Zaa hnt]at k450 k450b
 generalize hd:nt Sp.Step default a.steps i=d at*
 refine vS ?_
 simp only[hd,e1]
 refine Chk.mk (okc) ?_
 refine⟨fun h3=>?_,fun h3=>?_⟩
 ·have hcf:ZjU t x a p.1 p.2.1 p.2.2.1 i=false:=by
   rw[hcan]
   cases hc:tk p.1 (i:Int)with
   |true=>rfl
   |false=>
    rw[hc]at h3
    have h3:(d.from_ !=p.2.1)=true:=h3
    rw[decide_eq_false (by simpa using h3)]
    rfl
  rw[hcf]at hns
  refine wS ?_
  refine ZgR [0,2,4,6,9,10,11,27,28,29] 3 rfl rfl ?_ (ih2 (i+1) ⟨by omega,?_⟩ (by show a.steps.length-(i+1)<a.steps.length-i;omega))
  ·exact toT
  ·rw[hi.2,hns,if_neg Bool.false_ne_true,show a.steps.length-i-1=a.steps.length-(i+1) by omega]
 have hc:tk p.1 (i:Int)=false∧d.from_=p.2.1:=by
  cases hc:tk p.1 (i:Int)with
  |true=>rw[hc]at h3;cases h3
  |false=>
   rw[hc]at h3
   have h3:(d.from_ !=p.2.1)=false:=h3
   exact⟨rfl,by simpa using h3⟩
 rw[hc.1]at hcan
 rw[decide_eq_true hc.2]at hcan
 generalize hF:nt (List Sp.Call) [] (callsOf t) d.run=F at*
 generalize ZeD t d=fo at*
 generalize ZrP t d=to at*
 have hg:((List.lookup [d.run,fo] (HL)).getD []).tail.tail.headD 0=(Za0 t x d.run fo).goes:=by rw[hl1];rfl
 have hcm:((List.lookup [d.run,to] (HL)).getD []).headD 0=(Za0 t x d.run to).comes:=by rw[hl2];rfl
 generalize (Za0 t x d.run fo).goes=gs at*
 generalize (Za0 t x d.run to).comes=cs at*
 refine vS ?_
 simp only[hF]
 refine Chk.mk (okc) ?_
 refine Za3 (k450) (by first|rfl|(simp only[Zae,Zaf,Zah,Zac,Zaa hnt];rfl)) fun r h₂ hp=>?_
 (try simp only[Zae,Zaf,Zah,Zac,Zaa hnt]at hp)
 obtain⟨rfl,rfl⟩:=hp
 refine vS ?_
 simp only[hg]
 try refine Chk.mk (okc) ?_
 refine⟨fun h4=>?_,fun h4=>?_⟩
 ·have h4:=of_decide_eq_true h4
  rw[decide_eq_false (by omega)]at hcan
  rw[hcan]at hns
  refine wS ?_
  refine ZgR [0,2,4,6,9,10,11,27,28,29] 3 rfl rfl ?_ (ih2 (i+1) ⟨by omega,?_⟩ (by show a.steps.length-(i+1)<a.steps.length-i;omega))
  ·exact toT
  ·rw[hi.2,hns,show a.steps.length-i-1=a.steps.length-(i+1) by omega]
   rfl
 have h4:=of_decide_eq_false h4
 rw[decide_eq_true (by omega)]at hcan
 rw[hcan]at hns
 have hsm:=hsm (by rw[hi.2,hns];rfl)
 have hlt:=hlt (by rw[←htk];exact hc.1)
 refine wS ?_
 refine Za3 (k450b) (by first|rfl|(simp only[Zae,Zaf,Zah,Zac,Zaa hnt];rfl)) fun r h₂ hp=>?_
 (try simp only[Zae,Zaf,Zah,Zac,Zaa hnt]at hp)
 obtain⟨rfl,rfl⟩:=hp
 refine vS ?_
 simp only[hcm]
 try refine Chk.mk (okc) ?_
 refine ZkO false false [] [3] true ?_
 refine wS ?_
 refine ZgR [0,2,4,6,9,10,11] 3 rfl rfl ?_ (ih (p.1++[(i:Int)],d.to_,cs,p.2.2.2-1) ⟨?_,?_,?_⟩ hlt)
 ·(refine To.of [] ?_;cbv;(try simp only[nc]);(repeat' (first|exact trivial|exact WkN.refl _|exact WkB.refl _|refine⟨?_,?_⟩|refine WkB.cells ?_|refine WkN.agg ?_|refine WkN.tup ?_));(all_goals (first|exact okt|skip)))
  all_goals exact .bool (Zth htk rfl)
 ·show LN (p.1++[(i:Int)])<p.2.2.2-1
  have:=hp.1
  omega
 ·show(p.1++[(i:Int)]).length+LN (p.1++[(i:Int)])≤a.steps.length
  have:=hp.2.1
  rw[List.length_append]
  show p.1.length+1+_≤_
  omega
 ·show G (p.2.2.2-1) (p.1++[(i:Int)]) d.to_ cs=R
  rw[←hsm]
  exact hp.2.2
end Go.Proofs.Ytjgpiclllehgmaa.Vm
namespace Go.Proofs.Ytjgpiclllehgmaa.Sp
open Vm
def wdS (stop:Nat→Bool) (f:Nat→Int):Nat→Wd
 |0=>⟨0,0,false⟩
 |n+1=>if stop n then wdS stop f n else(wdS stop f n).add (f n)
def ZmH (t:Zad) (a:Zau) (i:Nat):Bool:=(Zfb t (Zai t i) a).2.2
def Zi1 (t:Zad) (a:Zau) (i:Nat):Int:=(Zfb t (Zai t i) a).2.1
def Zcb (t:Zad) (a:Zau):Bool:=(List.range (Za9 t)).all (ZmH t a)
def Zcd (t:Zad) (a:Zau):ZpN:=if Zcb t a then⟨(Zn7 (Zi1 t a) (Za9 t)).fr,(Zn7 (Zi1 t a) (Za9 t)).to_⟩else⟨0,0⟩
theorem ZrN {stop:Nat→Bool} {f:Nat→Int}:∀(n:Nat),(∀j,j<n→stop j=false)→wdS stop f n=Zn7 f n
 |0,_=>rfl
 |n+1,h=>by
  rw[wdS,if_neg (by rw[h n (by omega)];exact Bool.false_ne_true),ZrN n fun j hj=>h j (by omega)]
  rfl
end Go.Proofs.Ytjgpiclllehgmaa.Sp
namespace Go.Proofs.Ytjgpiclllehgmaa.Vm
attribute [local irreducible] Dn
open Go Go.Proofs Sp
set_option maxRecDepth 100000
set_option maxHeartbeats 4000000
theorem ZxC (t:Zad) (a:Zau) (hw:Zay t) (ha:Zdz (callsOf t) t.runs.length a=0):SC (fun _=>Try.prog) 52 [.iptr (Za1 t) 0,Zdp a] [] fun v h=>
  v= .tup [.agg (Ze7 (Zcd t a)),.bool fun _=>Zcb t a]∧h=[]:=by
 obtain⟨nt,hnt⟩:=Zat
 have k415:=fun i=>Zx3 t (Zai t i) a hw (ZbO hw i) ha
 have k382:=Zv0 t
 have k435:=fun B0 B1 B2 B3 B4 B5 stop=>ZvZ t hw B0 B1 B2 B3 B4 B5 stop
 obtain⟨ST,hST⟩:∃s:Nat→Bool,∀i,s i= !ZmH t a i:=⟨_,fun _=>rfl⟩
 obtain⟨WD,hWD⟩:∃w:Nat→Wd,∀i,w i=wdS ST (Zi1 t a) i:=⟨_,fun _=>rfl⟩
 have hW0:WD 0=⟨0,0,false⟩:=by rw[hWD];rfl
 have hWS:∀i,ST i=true→WD (i+1)=WD i:=fun i h=>by rw[hWD,hWD,wdS,if_pos h]
 have hWN:∀i,ST i=false→WD (i+1)=(WD i).add (Zi1 t a i):=fun i h=>by rw[hWD,hWD,wdS,if_neg (by rw[h];exact Bool.false_ne_true)]
 have hci:∀i,(Zfb t (Zai t i) a).2.2=ZmH t a i:=fun _=>rfl
 have hca:∀i,(Zfb t (Zai t i) a).2.1=Zi1 t a i:=fun _=>rfl
 have hall:(∀j,j<Za9 t→ST j=false)→Zcb t a=true∧Zcd t a=⟨(WD (Za9 t)).fr,(WD (Za9 t)).to_⟩:=fun h=>by
  have h1:Zcb t a=true:=List.all_eq_true.2 fun j hj=>by
   have:=h j (List.mem_range.1 hj)
   rw[hST]at this
   simpa using this
  refine⟨h1,?_⟩
  unfold Zcd
  rw[if_pos h1,hWD,ZrN _ h]
 have hnot:∀j,j<Za9 t→ST j=true→Zcb t a=false∧Zcd t a=⟨0,0⟩:=fun j hj h=>by
  have h1:Zcb t a=false:=by
   cases hc:Zcb t a with
   |false=>rfl
   |true=>
    have:=List.all_eq_true.1 hc j (List.mem_range.2 hj)
    rw[hST,this]at h
    cases h
  refine⟨h1,?_⟩
  unfold Zcd
  rw[if_neg (by rw[h1];exact Bool.false_ne_true)]
 simp only[hci,hca]at k415
 generalize Zcd t a=AS at*
 generalize Zcb t a=CA at*
 generalize hTR:Zfb t=TR at*
 generalize Zai t=TA at*
 generalize Za7 t=HL at*
 generalize ZmH t a=CI at*
 generalize Zi1 t a=CT at*
 unfold Zdy Za1 Zdp at*
 simp only[Zaa hnt,Zac,Zaz,ZcF]at*
 refine SC.less (con Try.func52 (body:=Zal Try.f52) rfl (by decide+kernel) ?_)
 refine wS ?_
 refine Za3 (k382) (by first|rfl|(simp only[Zae,Zaf,Zah,Zac,Zaa hnt];rfl)) fun r h₂ hp=>?_
 (try simp only[Zae,Zaf,Zah,Zac,Zaa hnt]at hp)
 obtain⟨rfl,rfl⟩:=hp
 refine wS ?_
 refine Zkm [2,3,4,5,6,13] [] [(4,.cells [.int .i64 fun _=>(WD 0).fr,.int .i64 fun _=>(WD 0).to_,.bool fun _=>(WD 0).some_])] (fid:=42) (first:=[]) ?_ rfl ?_ ?_
 ·rw[hW0]
  exact toT
 ·exact Zcq
 refine SC.mono (k435 (fun _=>_) (fun _=>_) (fun _=>_) (fun _=>_) (fun i=>.cells [.int .i64 fun _=>(WD i).fr,.int .i64 fun _=>(WD i).to_,.bool fun _=>(WD i).some_]) (fun i=>.loop _ ⟨_,_,_,bif Zbo ST i then .done else .ready,bif Zbo ST i then some .ret else none⟩) ST ?_ ?_ ?_ ?_ ?_ ?_ ?_) ?_
 iterate 6 exact fun i=>ZbD.of rfl
 ·intro i hi hno
  have hst:Zbo ST i=false:=by
   cases i with
   |zero=>rfl
   |succ j=>exact hno j (by omega)
  simp only[hst,cond_false]
  refine YC.less (Zha false false [] rfl rfl ?_)
  refine wS ?_
  refine Za3 (k415 i) (by first|rfl|(simp only[Zae,Zaf,Zah,Zac,Zaa hnt];rfl)) fun r h₂ hp=>?_
  (try simp only[Zae,Zaf,Zah,Zac,Zaa hnt]at hp)
  obtain⟨rfl,rfl⟩:=hp
  refine wS ?_
  refine⟨fun h1=>?_,fun h1=>?_⟩
  ·have hs:ST i=true:=by rw[hST];exact h1
   have hs2:Zbo ST (i+1)=true:=hs
   refine wS ?_
   simp only[hs2,cond_true,hWS i hs]
   refine⟨.bool fun _=> !ST i,_,?_,rfl,rfl⟩
   refine toR ?_
   exact .bool (by rw[hs];rfl)
  ·have hs:ST i=false:=by rw[hST];exact h1
   have hs2:Zbo ST (i+1)=false:=hs
   have k:=Zws (WD i) (CT i)
   rw[←hWN i hs]at k
   unfold ZdQ at k
   refine wS ?_
   refine ZaY [4] (k) (by decide) (by simp) (by first|rfl|(simp only[Zae,Zaf,Zah,Zac,Zaa hnt];rfl)) (by first|rfl|(simp only[Zae,Zaf,Zah,Zac,Zaa hnt];rfl)) fun r h₂ hp=>?_
   (try simp only[Zae,Zaf,Zah,Zac,Zaa hnt]at hp)
   obtain rfl:=hp
   refine wS ?_
   simp only[hs2,cond_false]
   refine⟨.bool fun _=> !ST i,_,?_,rfl,rfl⟩
   refine toR ?_
   exact .bool (by rw[hs];rfl)
 ·intro v h hh
  obtain⟨m,hm,rfl⟩:=hh
  unfold Ze7
  rcases hm with⟨hm,hno⟩|⟨j,hm,hj,hst,hno⟩
  ·have hst:Zbo ST m=false:=by
    cases m with
    |zero=>rfl
    |succ j=>exact hno j (by omega)
   have hA:=hall fun j hj=>hno j (by omega)
   rw[←hm]at hA
   simp only[hst,cond_false]
   refine wS ?_
   rw[hA.1,hA.2]
   refine⟨_,[],?_,rfl,rfl⟩
   exact toT
  ·have hst2:Zbo ST m=true:=by rw[hm];exact hst
   have hA:=hnot j hj hst
   simp only[hst2,cond_true]
   refine wS ?_
   rw[hA.1,hA.2]
   refine⟨_,[],?_,rfl,rfl⟩
   exact toT
end Go.Proofs.Ytjgpiclllehgmaa.Vm
namespace Go.Proofs.Ytjgpiclllehgmaa.Vm
attribute [local irreducible] Dn
open Go Go.Proofs Sp
set_option maxRecDepth 100000
set_option maxHeartbeats 4000000
theorem ZxY {nt:(α:Type)→α→List α→Int→α} (hnt:∀(α:Type) (d:α) (l:List α) (i:Int),nt α d l i=l.getD i.toNat d) (l:List Sp.Zck) (hl:0<l.length∧l.length≤1000000):SC (fun _=>Try.prog) 74 [lst 4 Zb2 default l] [] fun v h=>v= .gsl 0 (fun _=>(l.length:Int))∧h=[.gar 4 (fun _=>(l.length:Int)) (fun e=>Zb2 (nt Sp.Zck default l (e ())))]:=by
 simp only[Zaa hnt]
 refine SC.less (Zxx true false [] Try.func74 (body:=Zal Try.f74) rfl (by decide+kernel) ?_)
 refine wS ?_
 refine Br.isF rfl ?_
 refine wS ?_
 refine⟨_,_,?_,rfl,rfl⟩
 refine toR ?_
 exact .gar (by simp) fun i hi=>by rw[Zb7 (len:=0) rfl (Nat.zero_le _)];rfl
def ZcP (t:Zad) (w n:Int):Zad:={t with waits:=t.waits.set w.toNat {t.waits.getD w.toNat default with minutes:=n}}
theorem ZxB (t:Zad) (w n:Int) (hf:ZcL t) (hw:0≤w∧w<t.waits.length):SC (fun _=>Try.prog) 49 [Zah t,.int .i64 fun _=>w,.int .i64 fun _=>n] [] fun v h=>v=Zah (ZcP t w n)∧h=[]:=by
 obtain⟨nt,hnt⟩:=Zat
 have hwl:=hf.waits
 have k:=ZxY hnt t.waits ⟨by omega,by omega⟩
 obtain⟨t2,ht2⟩:∃t2,t2=ZcP t w n:=⟨_,rfl⟩
 have hlen:t2.waits.length=t.waits.length:=by rw[ht2];unfold ZcP;simp
 have hrow:∀i:Nat,i<t.waits.length→[AV.int .i64 fun _=>(nt Sp.Zck default t.waits (i:Int)).feeder,.int .i64 fun _=>(nt Sp.Zck default t.waits (i:Int)).train,.int .i64 fun _=>(nt Sp.Zck default t.waits (i:Int)).station,.int .i64 fun _=>bif decide ((i:Int)=w)then n else(nt Sp.Zck default t.waits (i:Int)).minutes]=Zb2 (nt Sp.Zck default t2.waits (i:Int)):=fun i hi=>by
  have e:nt Sp.Zck default t2.waits (i:Int)=if(i:Int)=w then {nt Sp.Zck default t.waits (i:Int)with minutes:=n}else nt Sp.Zck default t.waits (i:Int):=by
   rw[hnt,hnt,Int.toNat_natCast,ht2]
   show(t.waits.set w.toNat _).getD i default=_
   by_cases h:(i:Int)=w
   ·subst h
    rw[if_pos rfl,Int.toNat_natCast,Vm.ZhS _ _ _ _ hi]
   ·rw[if_neg h,Vm.Zfz _ _ _ _ _ (by omega)]
  rw[e]
  by_cases h:(i:Int)=w
  ·rw[if_pos h,decide_eq_true h];rfl
  ·rw[if_neg h,decide_eq_false h];rfl
 have hb:t2.book=t.book:=by rw[ht2];rfl
 have hr:t2.runs=t.runs:=by rw[ht2];rfl
 have hd:t2.delays=t.delays:=by rw[ht2];rfl
 rw[←ht2]
 unfold Zah
 rw[hb,hr,hd]
 simp only[Zaa hnt]at k⊢
 refine SC.less (Zxx false false [] Try.func49 (body:=Zal Try.f49) rfl (by decide+kernel) ?_)
 refine wS ?_
 refine ZaY [] (k) (by decide) (by simp) (by first|rfl|(simp only[Zae,Zaf,Zah,Zac,Zaa hnt];rfl)) (by first|rfl|(simp only[Zae,Zaf,Zah,Zac,Zaa hnt];rfl)) fun r h₂ hp=>?_
 (try simp only[Zae,Zaf,Zah,Zac,Zaa hnt]at hp)
 obtain⟨rfl,rfl⟩:=hp
 refine wS ?_
 refine⟨_,[],?_,rfl,rfl⟩
 refine toR ?_
 exact .gd (by simp) (.none (by show(t.waits.length:Int)=t2.waits.length;rw[hlen]) fun i hi=>hrow i (by have:(i:Int)<t.waits.length:=hi;omega))
end Go.Proofs.Ytjgpiclllehgmaa.Vm
namespace Go.Proofs.Ytjgpiclllehgmaa.Vm
open Go Go.Proofs Go.Proofs.Ytjgpiclllehgmaa.Conc1
def Zph:Nat→AV→Bool
 |0,_=>false
 |_+1,.int _ _=>true
 |_+1,.bool _=>true
 |_+1,.undef=>true
 |k+1,.agg cs=>cs.all (Zph k)
 |k+1,.tup cs=>cs.all (Zph k)
 |_+1,_=>false
theorem ZlK {R R':RC}:∀(k:Nat) {a:AV} {v:Value},Zph k a=true→VR R a v→VR R' a v
 |0,a,v,h,_=>by cases h
 |k+1,a,v,h,hv=>by
  cases a with
  |int q n=>rw[hv.int_inv];exact .pure _ _ (.int q n)
  |bool b=>rw[hv.bool_inv];exact .pure _ _ (.bool b)
  |undef=>exact .undef _
  |agg cs=>
   obtain⟨us,rfl,hl,hr⟩:=hv.agg_inv
   exact .agg cs us hl fun j c hj=>ZlK k (List.all_eq_true.1 h c (List.mem_of_getElem? hj)) (hr j c hj)
  |tup cs=>
   obtain⟨us,rfl,hl,hr⟩:=hv.tup_inv
   exact .tup cs us hl fun j c hj=>ZlK k (List.all_eq_true.1 h c (List.mem_of_getElem? hj)) (hr j c hj)
  |_=>cases h
theorem SC.lend {p:Unit→Program} {f:FuncId} {xs ys:List AV} {h hc:List Blk} {Post Q:AV→List Blk→Prop} (l:List Nat) (hnd:l.Nodup) (hlt:∀i∈l,i<h.length) (hsel:sel true l h=hc) (hmain:∀b∈hc,b= .main) (H:SC p f ys hc Q) (hx:xs.map (Zb6 true l h 5)=ys)
  (hq:∀r h₂,Q r h₂→h₂=hc∧Zph 5 r=true∧Post r h):SC p f xs h Post:=
 ⟨H.enter,fun G R vs hr ha cs=>by
  obtain⟨R₂,acx,a0,a1,a2,a3,a4,a5,a6,a7,a8⟩:=hr.sel (fz:=true) (ι:=l) (fun _ _ _=>True) (fun _ _ _ _=>trivial) (fun _ _ _ _ _ _ _ _=>trivial) (fun _ _ _ _=>trivial) (fun _ _ _ _ _ _ _ _ _=>trivial) hnd hlt (fun _ _ _ _ _ _ _ _ _=>trivial) 0 (Nat.zero_le _) (fun _=>Nat.zero_le _)
  have hrow:Ze8 R₂ ys vs:=⟨by rw[←hx,List.length_map];exact ha.1,fun j c hj=>by
   rw[←hx,List.getElem?_map,Option.map_eq_some_iff]at hj
   obtain⟨x,hx,rfl⟩:=hj
   exact a8 5 x _ (ha.2 j x hx)⟩
  rw[hsel]at a6
  obtain⟨v,R',r,h',b1,b3,b4,b5,b6,b7⟩:=H.run _ R₂ vs a6 hrow cs
  obtain⟨rfl,hfl,hP⟩:=hq r h' b7
  have hheap:∀b,b<R.w.heap.size→R'.w.heap[b]? =R.w.heap[b]? :=fun b hb=>by
   rw[b4.frame b (by rw[a1];exact hb) (fun id blk hi hp=>by
    have:=hmain blk (List.mem_of_getElem? hi)
    subst this
    exact hp),a1]
  have hsz:R.w.heap.size≤R'.w.heap.size:=by rw[←a1];exact b4.size
  let R'':RC:={R with w:=R'.w,ok:=fun b o n=>b<R'.w.heap.size∧G b o n∧Zj5 R h b o n}
  have hok:∀b o n,R.ok b o n→R''.ok b o n:=fun b o n k=>by
   obtain⟨h1,h2,h3⟩:=(hr.okd _ _ _).1 k
   exact⟨by omega,h2,h3⟩
  have hkeep:∀b o n,R.ok b o n→∀j,j<n→R''.w.cell? ⟨b,o+j,none⟩=R.w.cell? ⟨b,o+j,none⟩:=fun b o n k j hj=>by
   have:=b5.keep b o n (a7 b o n k) j hj
   rw[a1]at this
   exact this
  have hle:R.le R'':=⟨Nat.le_refl _,fun _ _=>rfl,fun _ _=>⟨Int.le_refl _,fun _=>rfl⟩,fun _ _=>.refl _,hok,hkeep,fun b k es clk e=>by
   have:=b5.keepM b (a7 b 0 1 k) es clk (by rw[a1];exact e)
   exact this,rfl⟩
  refine⟨v,R'',r,h,?_,⟨hr.len,fun _ _ _=>Iff.rfl,fun id blk hi=>(hr.blk id blk hi).mono hle rfl rfl rfl rfl fun b hp=>hheap b (hr.phys_lt hi hp),hr.dis,hr.cl,fun b o n hb=>hr.fresh b o n (Nat.le_trans hsz hb),hr.tokG,hr.n0m⟩,
   ⟨rfl,by rw[←a1];exact b4.os,by rw[←a1];exact b4.tape,by rw[←a1];exact b4.output,hsz,Nat.le_refl _,fun _ _=>rfl,hok,hkeep,fun b hb _=>hheap b hb,fun id blk b hi hp=>.inr ⟨id,blk,hi,hp,.inl rfl⟩⟩,hle,ZlK 5 hfl b6,hP⟩
  rw[a1,acx]at b1
  exact b1⟩
theorem SC.lend0 {p:Unit→Program} {f:FuncId} {xs ys:List AV} {h:List Blk} {Post Q:AV→List Blk→Prop} (H:SC p f ys [] Q) (hx:xs.map (Zb6 true [] h 5)=ys) (hq:∀r h₂,Q r h₂→h₂=[]∧Zph 5 r=true∧Post r h):SC p f xs h Post:=
 SC.lend [] List.nodup_nil (fun i hi=>by cases hi) rfl (fun b hb=>by cases hb) H hx hq
end Go.Proofs.Ytjgpiclllehgmaa.Vm
namespace Go.Proofs.Ytjgpiclllehgmaa.Sp
def Zdm (t:Zad) (a:Zau):Int:=if Zam t≠0 then Zam t else Zdz (callsOf t) t.runs.length a
def Zb5 (t:Zad) (a:Zau) (w:Int):Int:=if Zdm t a=0 then(if Zdc w 0 ((t.waits.length:Int)-1)then 3 else 0)else Zdm t a
theorem ZnP {t:Zad} (h:Zam t=0):Zb0 t=0:=by
 unfold Zam at h
 split at h
 ·exact absurd h (by assumption)
 split at h
 ·exact absurd h (by assumption)
 exact Decidable.of_not_not (by assumption)
theorem Zh9 {t:Zad} {a:Zau} (h:Zdm t a=0):Zam t=0:=by
 unfold Zdm at h
 split at h
 ·exact h
 ·exact Decidable.of_not_not (by assumption)
end Go.Proofs.Ytjgpiclllehgmaa.Sp
namespace Go.Proofs.Ytjgpiclllehgmaa.Vm
attribute [local irreducible] Dn
open Go Go.Proofs Sp
set_option maxRecDepth 100000
set_option maxHeartbeats 4000000
theorem Zuc {f:FuncId} {xs ys:List AV} {h:List Blk} {Post Q:AV→List Blk→Prop} {B:Prop} (H:SC (fun _=>Try.prog) f ys [] Q) (k:B) (t:SC (fun _=>Try.prog) f ys [] Q→HdW B→SC (fun _=>Try.prog) f xs h Post:=by intro hH hW;refine Za3 hH (by first|rfl|(simp only[Zae,Zaf,Zah,Zac,Zaa hnt];rfl)) fun r h₂ hp=>?_;(try simp only[Zae,Zaf,Zah,Zac,Zaa hnt]at hp);obtain⟨rfl,rfl⟩:=hp;exact hW.out):SC (fun _=>Try.prog) f xs h Post:=t H ⟨k⟩
theorem ZxA (t:Zad) (a:Zau) (hf:ZcL t) (ha:a.steps.length≤1000000):SC (fun _=>Try.prog) 51 [Zah t,Zdp a] [] fun v h=>v= .tup [Zb9 (Zam t) t,.int .i64 fun _=>Zdm t a]∧h=[]:=by
 obtain⟨nt,hnt⟩:=Zat
 refine SC.less (con Try.func51 (body:=Zal Try.f51) rfl (by decide+kernel) ?_)
 have k:=Zv1 t hf
 have k2:=fun h:Zam t=0=>ZxX t a (Zh5 (ZnP h)) hf.runs ha
 generalize hE:Zdm t a=e
 unfold Zdm at hE
 unfold Zah Zdp at*
 simp only[Zaa hnt]at k k2⊢
 by_cases he:Zam t=0
 ·unfold Zb9 at k⊢
  rw[if_pos he]at k⊢
  rw[if_neg (fun h=>h he)]at hE
  have k2:=k2 he
  unfold Za1 at k k2⊢
  simp only[Zaa hnt,Zac]at k k2⊢
  rw[he]at k
  refine wS ?_
  refine Zuc (k) ?_
  refine wS ?_
  refine Br.isF rfl ?_
  refine wS ?_
  refine Zuc (k2) ?_
  rw[hE]
  refine wS ?_
  refine⟨_,[],?_,rfl,rfl⟩
  exact toT
 ·unfold Zb9 at k⊢
  rw[if_neg he]at k⊢
  rw[if_pos he]at hE
  rw[hE]at k he
  refine wS ?_
  refine Zuc (k) ?_
  refine wS ?_
  refine⟨fun h=>?_,fun h=>?_⟩
  ·refine wS ?_
   refine⟨_,[],?_,rfl,rfl⟩
   exact toT
  ·exact absurd (by simpa only[bne_eq_false_iff_eq]using h) he
theorem Zx7 (t:Zad) (a:Zau) (w:Int) (hf:ZcL t) (ha:a.steps.length≤1000000):SC (fun _=>Try.prog) 53 [Zah t,Zdp a,.int .i64 fun _=>w] [] fun v h=>v= .tup [Zb9 (Zam t) t,.int .i64 fun _=>Zb5 t a w]∧h=[]:=by
 obtain⟨nt,hnt⟩:=Zat
 refine SC.less (con Try.func53 (body:=Zal Try.f53) rfl (by decide+kernel) ?_)
 have k:=ZxA t a hf ha
 have hw:=hf.waits
 have k1:=ZmM w 0 ((t.waits.length:Int)-1)
 generalize hE:Zb5 t a w=e
 unfold Zb5 at hE
 unfold Zah Zdp at*
 generalize hA:Zdm t a=e2 at*
 simp only[Zaa hnt]at k⊢
 by_cases hb:Zam t=0
 ·unfold Zb9 at k⊢
  rw[if_pos hb]at k⊢
  unfold Za1 at k⊢
  simp only[Zaa hnt,Zac]at k⊢
  by_cases he:e2=0
  ·rw[if_pos he]at hE
   rw[he]at k
   refine wS ?_
   refine Zuc (k) ?_
   refine wS ?_
   refine Br.isT rfl ?_
   refine wS ?_
   refine Zuc (k1) ?_
   refine wS ?_
   refine⟨fun h=>?_,fun h=>?_⟩
   ·have h:Zdc w 0 ((t.waits.length:Int)-1)=true:=h
    rw[if_pos h]at hE
    subst hE
    refine wS ?_
    refine⟨_,[],?_,rfl,rfl⟩
    exact toT
   ·have h:Zdc w 0 ((t.waits.length:Int)-1)=false:=h
    rw[if_neg (by rw[h];exact Bool.false_ne_true)]at hE
    subst hE
    refine wS ?_
    refine⟨_,[],?_,rfl,rfl⟩
    exact toT
  ·rw[if_neg he]at hE
   subst hE
   refine wS ?_
   refine Zuc (k) ?_
   refine wS ?_
   refine⟨fun h=>?_,fun h=>?_⟩
   ·exact absurd (eq_of_beq h) he
   refine wS ?_
   refine Br.isF rfl ?_
   refine wS ?_
   refine⟨_,[],?_,rfl,rfl⟩
   exact toT
 ·unfold Zb9 at k⊢
  rw[if_neg hb]at k⊢
  have he:e2≠0:=by
   intro h
   exact hb (Zh9 (hA.trans h))
  rw[if_neg he]at hE
  subst hE
  refine wS ?_
  refine Zuc (k) ?_
  refine wS ?_
  refine⟨fun h=>?_,fun h=>?_⟩
  ·exact absurd (eq_of_beq h) he
  refine wS ?_
  refine Br.isF rfl ?_
  refine wS ?_
  refine⟨_,[],?_,rfl,rfl⟩
  exact toT
end Go.Proofs.Ytjgpiclllehgmaa.Vm
namespace Go.Proofs.Ytjgpiclllehgmaa.Sp
open Vm
theorem Zj8 {t:Zad} (hf:Zay t) {w n:Int} (hn:0≤n∧n≤60):Zay (ZcP t w n):=by
 have hset:∀v∈(ZcP t w n).waits,∃v'∈t.waits,v.feeder=v'.feeder∧v.train=v'.train∧v.station=v'.station∧(v.minutes=v'.minutes∨v.minutes=n):=fun v hv=>by
  rcases List.mem_or_eq_of_mem_set hv with h|rfl
  ·exact⟨v,h,rfl,rfl,rfl,.inl rfl⟩
  ·by_cases hl:w.toNat<t.waits.length
   ·refine⟨t.waits[w.toNat],List.getElem_mem hl,?_⟩
    rw[List.getD_eq_getElem?_getD,List.getElem?_eq_getElem hl]
    exact⟨rfl,rfl,rfl,.inr rfl⟩
   ·have:(ZcP t w n).waits=t.waits:=List.set_eq_of_length_le (by omega)
    rw[this]at hv
    exact⟨_,hv,rfl,rfl,rfl,.inl rfl⟩
 refine⟨hf.calls,hf.nn,hf.asc,by show(t.waits.set _ _).length≤4;rw[List.length_set];exact hf.wlen,hf.dlen,fun v hv=>?_,hf.d⟩
 obtain⟨v',hv',e1,e2,e3,e4⟩:=hset v hv
 have h:=hf.w v' hv'
 rw[e1,e2,e3]
 exact⟨h.1,h.2.1,h.2.2.1,by omega,by omega,h.2.2.2.2.2⟩
def ZfG (t:Zad) (a:Zau) (w:Int):Nat→Int×Int×Bool
 |0=>(0,0,false)
 |n+1=>if Zcb (ZcP t w n) a&&(!(ZfG t a w n).2.2||decide ((Zcd (ZcP t w n) a).to_<(ZfG t a w n).2.1))then((n:Int),(Zcd (ZcP t w n) a).to_,true)else ZfG t a w n
def ZrM (t:Zad) (a:Zau) (w:Int):Int×Int×Int:=
 if Zb5 t a w≠0 then(0,0,Zb5 t a w)else if(ZfG t a w 61).2.2 then((ZfG t a w 61).1,(ZfG t a w 61).2.1,0)else(0,0,11)
end Go.Proofs.Ytjgpiclllehgmaa.Sp
namespace Go.Proofs.Ytjgpiclllehgmaa.Vm
attribute [local irreducible] Dn
open Go Go.Proofs Sp
set_option maxRecDepth 100000
set_option maxHeartbeats 4000000
theorem ZwA {f:FuncId} {xs ys:List AV} {h:List Blk} {Post Q:AV→List Blk→Prop} {B:Prop} (H:SC (fun _=>Try.prog) f ys [] Q) (k:B) (t:SC (fun _=>Try.prog) f ys [] Q→HdW B→SC (fun _=>Try.prog) f xs h Post:=by intro hH hW;refine Za3 hH (by first|rfl|(simp only[Zae,Zaf,Zah,Zac,Zaa hnt];rfl)) fun r h₂ hp=>?_;(try simp only[Zae,Zaf,Zah,Zac,Zaa hnt]at hp);obtain⟨rfl,rfl⟩:=hp;exact hW.out):SC (fun _=>Try.prog) f xs h Post:=t H ⟨k⟩
theorem ZpB {t:Zad} {a:Zau} {w:Int} (h:Zb5 t a w=0):Zam t=0∧Zdz (callsOf t) t.runs.length a=0∧0≤w∧w<t.waits.length:=by
 unfold Zb5 at h
 split at h
 ·rename_i h1
  have hb:=Zh9 h1
  split at h
  ·cases h
  rename_i h2
  have:=ZbI (by simpa using h2)
  unfold Zdm at h1
  rw[if_neg (fun h=>h hb)]at h1
  exact⟨hb,h1,by omega,by omega⟩
 ·exact absurd h (by assumption)
theorem Zyf (t:Zad) (a:Zau) (w:Int) (hf:ZcL t) (ha:a.steps.length≤1000000) (hw:Zam t=0→Zay t):SC (fun _=>Try.prog) 29 [Zah t,Zdp a,.int .i64 fun _=>w] [] fun v h=>
  v= .tup [.int .i64 fun _=>(ZrM t a w).1,.int .i64 fun _=>(ZrM t a w).2.1,.int .i64 fun _=>(ZrM t a w).2.2]∧h=[]:=by
 obtain⟨nt,hnt⟩:=Zat
 have k:=Zx7 t a w hf ha
 by_cases he:Zb5 t a w=0
 ·have hok:=ZpB he
  have hw:=hw hok.1
  have k400:=fun n=>ZxB t w n hf hok.2.2
  have k399:=fun n h=>ZxC (ZcP t w n) a (Zj8 hw (n:=n) h) hok.2.1
  have hB0:ZfG t a w 0=(0,0,false):=rfl
  have hBS:∀n:Nat,ZfG t a w (n+1)=if Zcb (ZcP t w n) a&&(!(ZfG t a w n).2.2||decide ((Zcd (ZcP t w n) a).to_<(ZfG t a w n).2.1))then((n:Int),(Zcd (ZcP t w n) a).to_,true)else ZfG t a w n:=fun _=>rfl
  have hE:ZrM t a w=if(ZfG t a w 61).2.2 then((ZfG t a w 61).1,(ZfG t a w 61).2.1,0)else(0,0,11):=by
   unfold ZrM
   rw[if_neg (fun h=>h he)]
  have hbk:∀n,(ZcP t w n).book=t.book:=fun _=>rfl
  have hrn:∀n,(ZcP t w n).runs=t.runs:=fun _=>rfl
  have hdl:∀n,(ZcP t w n).delays=t.delays:=fun _=>rfl
  have hcl:∀n,callsOf (ZcP t w n)=callsOf t:=fun _=>rfl
  unfold Zb9 at k
  rw[if_pos hok.1,he]at k
  unfold Za1 Zah Zdp Ze7 at*
  simp only[hbk,hrn,hdl,hcl]at k400 k399
  simp only[Zaa hnt,Zac,ZcF,Zaz]at*
  generalize ZrM t a w=BE at*
  generalize ZfG t a w=B at*
  generalize hWT:ZcP t w=WT at*
  generalize hCA:(fun n=>Zcb (WT n) a)=CA at*
  generalize hAS:(fun n=>Zcd (WT n) a)=AS at*
  have hCA:∀n,Zcb (WT n) a=CA n:=fun n=>congrFun hCA n
  have hAS:∀n,Zcd (WT n) a=AS n:=fun n=>congrFun hAS n
  simp only[hCA,hAS]at k399 hBS
  refine SC.less (con Try.func29 (body:=Zal Try.f29) rfl (by decide+kernel) ?_)
  refine wS ?_
  refine ZwA (k) ?_
  refine wS ?_
  refine Br.isF rfl ?_
  refine wS ?_
  refine Za2 false false [] [2,3,4,6,7,9,10,24] [] (fun p:Nat=>[(24,.int .i64 fun _=>(p:Int)),(6,.int .i64 fun _=>(B p).1),(7,.int .i64 fun _=>(B p).2.1),(10,.bool fun _=>(B p).2.2)]) (fun _=>[]) (fun p=>p≤61) (fun p=>61-p+0) 0 (by omega) ?_ ?_
  ·(refine To.of [] ?_;cbv;(try simp only[nc]);(repeat' (first|exact trivial|exact WkN.refl _|exact WkB.refl _|refine⟨?_,?_⟩|refine WkB.cells ?_|refine WkN.agg ?_|refine WkN.tup ?_));(all_goals (first|exact okt|skip)))
   all_goals first|exact .int (by rw[hB0])|exact .bool (by rw[hB0])
  intro p hp
  refine wS ?_
  refine⟨fun h1=>?_,fun h1=>?_⟩
  case refine_2=>
   simp only[decide_eq_false_iff_not]at h1
   have hp61:p=61:=by omega
   subst hp61
   refine wS ?_
   refine⟨fun h2=>?_,fun h2=>?_⟩
   ·have h2:(B 61).2.2=false:=nb2 h2
    rw[if_neg (by rw[h2];exact Bool.false_ne_true)]at hE
    subst hE
    refine wS ?_
    refine⟨_,[],?_,rfl,rfl⟩
    exact toT
   ·have h2:(B 61).2.2=true:=nb4 h2
    rw[if_pos h2]at hE
    subst hE
    refine wS ?_
    refine⟨_,[],?_,rfl,rfl⟩
    exact toT
  simp only[decide_eq_true_eq]at h1
  have k400:=k400 p
  have k399:=k399 p (by omega)
  refine wS ?_
  repeat' (first|(with_reducible refine Zuv.mk ?_ ?_)|((with_reducible refine Chk.mk ?_ ?_);(focus exact okc))|((with_reducible refine Za3 k400 ?_ ?_);(focus (first|rfl|(simp only[Zaa hnt];rfl)));(intro r h₂ hp;obtain⟨rfl,rfl⟩:=hp;cbv;(try simp only[nc]at*)))|((with_reducible refine SC.lend0 k399 ?_ ?_);(focus (first|rfl|(simp only[Zaa hnt];rfl)));(intro r h₂ hp;obtain⟨rfl,rfl⟩:=hp;refine⟨rfl,rfl,?_⟩;cbv;(try simp only[nc]at*))))
  all_goals
   have hcond:(bif CA p then bif !(B p).2.2 then true else decide ((AS p).to_<(B p).2.1)else false)=(CA p&&(!(B p).2.2||decide ((AS p).to_<(B p).2.1))):=by cases CA p<;>cases (B p).2.2<;>rfl
   refine⟨fun h2=>?_,fun h2=>?_⟩
   ·have hBp:=hBS p
    rw[if_pos (hcond.symm.trans h2)]at hBp
    refine wS ?_
    refine⟨p+1,by show p+1≤61;omega,by show 61-(p+1)+0<61-p+0;omega,?_⟩
    (refine To.of [] ?_;cbv;(try simp only[nc]);(repeat' (first|exact trivial|exact WkN.refl _|exact WkB.refl _|refine⟨?_,?_⟩|refine WkB.cells ?_|refine WkN.agg ?_|refine WkN.tup ?_));(all_goals (first|exact okt|skip)))
    all_goals first|exact .int (by rw[hBp])|exact .bool (by rw[hBp])
   ·have hBp:=hBS p
    rw[if_neg (fun h=>by rw[←hcond,h2]at h;cases h)]at hBp
    refine wS ?_
    refine⟨p+1,by show p+1≤61;omega,by show 61-(p+1)+0<61-p+0;omega,?_⟩
    (refine To.of [] ?_;cbv;(try simp only[nc]);(repeat' (first|exact trivial|exact WkN.refl _|exact WkB.refl _|refine⟨?_,?_⟩|refine WkB.cells ?_|refine WkN.agg ?_|refine WkN.tup ?_));(all_goals (first|exact okt|skip)))
    all_goals first|exact .int (by rw[hBp])|exact .bool (by rw[hBp])
 ·have hE:ZrM t a w=(0,0,Zb5 t a w):=by
   unfold ZrM
   rw[if_pos he]
  rw[hE]
  generalize Zb5 t a w=e at*
  refine SC.less (con Try.func29 (body:=Zal Try.f29) rfl (by decide+kernel) ?_)
  unfold Zah Zdp at*
  by_cases hb:Zam t=0
  ·unfold Zb9 at k
   rw[if_pos hb]at k
   unfold Za1 at k
   simp only[Zaa hnt,Zac,ZcF,Zaz]at*
   refine wS ?_
   refine ZwA (k) ?_
   refine wS ?_
   refine⟨fun h=>?_,fun h=>?_⟩
   ·refine wS ?_
    refine⟨_,[],?_,rfl,rfl⟩
    exact toT
   ·exact absurd (by simpa only[bne_eq_false_iff_eq]using h) he
  ·unfold Zb9 at k
   rw[if_neg hb]at k
   simp only[Zaa hnt,Zac,ZcF,Zaz]at*
   refine wS ?_
   refine ZwA (k) ?_
   refine wS ?_
   refine⟨fun h=>?_,fun h=>?_⟩
   ·refine wS ?_
    refine⟨_,[],?_,rfl,rfl⟩
    exact toT
   ·exact absurd (by simpa only[bne_eq_false_iff_eq]using h) he
end Go.Proofs.Ytjgpiclllehgmaa.Vm
namespace Go.Proofs.Ytjgpiclllehgmaa.Vm
open Go Go.Proofs Sp
set_option maxRecDepth 100000
set_option maxHeartbeats 800000
end Go.Proofs.Ytjgpiclllehgmaa.Vm
namespace Go.Proofs.Ytjgpiclllehgmaa.Vm
open Go Go.Proofs Sp
set_option maxRecDepth 100000
set_option maxHeartbeats 800000
theorem Zhr {z:Zone} (h:Zao z=0):(ZaL z).length≤4∧∀p∈ZaL z,0≤p.fr∧p.fr≤43200∧0≤p.bef∧p.bef≤1099511627776∧-1000000≤p.ahd∧p.ahd≤1000000:=by
 have hs:=ZeQ h
 have hl:=Zeq z.chs 0 z.base
 have h3:z.chs.length≤3:=by
  unfold Zao at h
  split at h
  ·cases h
  ·split at h
   ·cases h
   ·omega
 have hat:∀c∈z.chs,0≤c.at_∧c.at_≤43200:=by
  unfold Zao at h
  split at h
  ·cases h
  ·split at h
   ·cases h
   ·have key:∀(l:List Chg) (p:Option Int),ZdR p l=0→∀c∈l,0≤c.at_∧c.at_≤43200:=by
     intro l
     induction l with
     |nil=>intro p _ c hc;cases hc
     |cons a l ih=>
      intro p hp c hc
      rw[ZcJ]at hp
      split at hp
      ·cases hp
      rename_i h3
      split at hp
      ·cases hp
      split at hp
      ·cases hp
      rcases List.mem_cons.1 hc with rfl|hc
      ·simp[inB]at h3
       omega
      ·exact ih _ hp c hc
    exact key _ _ h
 refine⟨by unfold ZaL;omega,?_⟩
 have key:∀(l:List Chg) (fr a:Int),(∀c∈l,0≤c.at_∧c.at_≤43200)→0≤fr∧fr≤43200→∀p∈ZbU fr a l,0≤p.fr∧p.fr≤43200∧0≤p.bef∧p.bef≤1099511627776:=by
  intro l
  induction l with
  |nil=>intro fr a _ hf p hp;simp[ZbU,ZcA]at hp;subst hp;simp;omega
  |cons c l ih=>
   intro fr a hc hf p hp
   have h1:=hc c (List.mem_cons_self ..)
   simp only[ZbU]at hp
   split at hp
   ·rcases List.mem_cons.1 hp with rfl|hp
    ·simp;omega
    ·exact ih _ _ (fun x hx=>hc x (List.mem_cons_of_mem _ hx)) h1 p hp
   ·exact ih _ _ (fun x hx=>hc x (List.mem_cons_of_mem _ hx)) h1 p hp
 intro p hp
 have h1:=key z.chs 0 z.base hat (by omega) p hp
 have h2:=(Zds hs).2.2 p hp
 omega
end Go.Proofs.Ytjgpiclllehgmaa.Vm
namespace Go.Proofs.Ytjgpiclllehgmaa.Sp
open Vm
theorem ZjK:∀ {l:List Pc} {r a:Int},(∀p∈l,p.bef≤1099511627776)→0≤a∧a≤1099511627776→a≤Zc7 l r a∧Zc7 l r a≤1099511627776
 |[],r,a,_,h=>by unfold Zc7 ZcA;exact⟨h.2,Int.le_refl _⟩
 |p::l,r,a,hl,h=>by
  unfold Zc7
  have hp:=hl p (List.mem_cons_self ..)
  split
  ·omega
  ·exact ZjK (fun q hq=>hl q (List.mem_cons_of_mem _ hq)) h
theorem Zgu {zs:List Zone} (hz:∀z∈zs,Zao z=0) {day:Int} {many:Nat}:∀(S:List Stop) (i:Nat) (now:Int),0≤now∧now≤1099511627776→(∀s∈S,0≤s.zone∧s.zone<zs.length)→∀c∈Zbz zs day many i now S,0≤c.arrive∧c.arrive≤c.depart∧c.depart≤1099511627776
 |[],_,_,_,_,c,hc=>by unfold Zbz at hc;cases hc
 |s::r,i,now,hn,hs,c,hc=>by
  have hzs:=hs s (List.mem_cons_self ..)
  have hzm:zs.getD s.zone.toNat default∈zs:=by rw[List.getD_eq_getElem?_getD,List.getElem?_eq_getElem (by omega)];exact List.getElem_mem _
  have hp:=fun p hp=>((Zhr (hz _ hzm)).2 p hp).2.2.2.1
  have hr:=fun q hq=>hs q (List.mem_cons_of_mem _ hq)
  unfold Zbz at hc
  split at hc
  ·have hd:0≤(if i+1<many then Zc7 (ZaL (zs.getD s.zone.toNat default)) (1440*day+s.depart) now else 0)∧(if i+1<many then Zc7 (ZaL (zs.getD s.zone.toNat default)) (1440*day+s.depart) now else 0)≤1099511627776:=by
    split
    ·have:=ZjK (r:=1440*day+s.depart) hp hn
     omega
    ·omega
   rcases List.mem_cons.1 hc with rfl|hc
   ·exact⟨hd.1,Int.le_refl _,hd.2⟩
   ·exact Zgu hz r _ _ hd hr c hc
  ·have ha:=ZjK (r:=1440*day+s.arrive) hp hn
   have hd:Zc7 (ZaL (zs.getD s.zone.toNat default)) (1440*day+s.arrive) now≤(if i+1<many then Zc7 (ZaL (zs.getD s.zone.toNat default)) (1440*day+s.depart) (Zc7 (ZaL (zs.getD s.zone.toNat default)) (1440*day+s.arrive) now)else Zc7 (ZaL (zs.getD s.zone.toNat default)) (1440*day+s.arrive) now)∧
     (if i+1<many then Zc7 (ZaL (zs.getD s.zone.toNat default)) (1440*day+s.depart) (Zc7 (ZaL (zs.getD s.zone.toNat default)) (1440*day+s.arrive) now)else Zc7 (ZaL (zs.getD s.zone.toNat default)) (1440*day+s.arrive) now)≤1099511627776:=by
    split
    ·exact ZjK hp ⟨by omega,ha.2⟩
    ·exact⟨Int.le_refl _,ha.2⟩
   rcases List.mem_cons.1 hc with rfl|hc
   ·exact⟨by show 0≤Zc7 _ _ _;omega,hd⟩
   ·exact Zgu hz r _ _ ⟨by omega,hd.2⟩ hr c hc
theorem Zve {b:ZeJ} (h:ZpV b) {t:Train} {day:Int} (ht:t∈Zcu b day):Zif b.zones.length t:=by
 unfold Zcu at ht
 split at ht
 ·exact h.old t ht
 ·exact h.new t ht
theorem Zvj {b:ZeJ} {n d:Int} (h:(Run b n d).2=0):∀c∈(Run b n d).1,0≤c.arrive∧c.arrive≤c.depart∧c.depart≤1099511627776:=by
 unfold Run at*
 split
 ·intro c hc;cases hc
 rename_i h0
 split
 ·intro c hc;cases hc
 split
 ·intro c hc;cases hc
 rename_i h1
 split
 ·intro c hc;cases hc
 have hok:=Zgw (Decidable.of_not_not h0)
 have hlt:(place (Zcu b d) n).toNat<(Zcu b d).length:=by
  have:=Zci (q:=fun t:Train=>decide (t.number=n)) (l:=Zcu b d) (i:=0) (by omega)
  unfold place at*
  omega
 have hm:(Zcu b d).getD (place (Zcu b d) n).toNat default∈Zcu b d:=by
  rw[List.getD_eq_getElem?_getD,List.getElem?_eq_getElem hlt]
  exact List.getElem_mem _
 exact Zgu hok.zones _ 0 0 ⟨by omega,by omega⟩ fun s hs=>((Zve hok hm).stops s hs).zone
theorem Zmw {α:Type} {q:α→Bool} {d:α}:∀ {l:List α} {i:Int} {k:Nat},k<l.length→q (l.getD k d)=true→i≤Zak q i l∧Zak q i l≤i+k
 |[],_,k,h,_=>by simp at h
 |x::r,i,0,_,hq=>by
  have hx:q x=true:=hq
  rw[Zak,if_pos hx]
  omega
 |x::r,i,k+1,h,hq=>by
  rw[Zak]
  split
  ·omega
  ·have:=Zmw (l:=r) (i:=i+1) (k:=k) (by simpa using h) hq
   omega
theorem Zdq {t:Zad} (h:Zam t=0):Zay t:=by
 unfold Zam at h
 split at h
 ·exact absurd h (by assumption)
 split at h
 ·exact absurd h (by assumption)
 rename_i h0 h1
 split at h
 ·cases h
 split at h
 ·exact absurd h (by assumption)
 rename_i h2 h3
 split at h
 ·cases h
 rename_i h4
 have hr:=Decidable.of_not_not h1
 have hw:=ZaM (Decidable.of_not_not h3)
 have hd:=ZaM h
 have hcf:=Zh5 hr
 have hlen:t.runs.length=(callsOf t).length:=by unfold callsOf;rw[List.length_map]
 have hrun:∀r:Int,0≤r→r<(callsOf t).length→(∀c∈Zap (callsOf t) r,0≤c.arrive∧c.arrive≤c.depart∧c.depart≤1099511627776)∧ZbV (Zap (callsOf t) r)=0:=fun r h1 h2=>by
  unfold Zb0 at hr
  split at hr
  ·cases hr
  split at hr
  ·cases hr
  have h3:=ZaM hr r.toNat (by omega) (by omega)
  have e:Zap (callsOf t) r=ZeT t (t.runs.getD r.toNat default):=by
   unfold Zap callsOf
   rw[List.getD_eq_getElem?_getD,List.getElem?_map,List.getD_eq_getElem?_getD,List.getElem?_eq_getElem (by omega)]
   rfl
  rw[e]
  unfold ZgK at h3
  split at h3
  ·exact absurd h3 (by assumption)
  rename_i h4
  split at h3
  ·cases h3
  rename_i h5
  exact⟨Zvj (Decidable.of_not_not h4),Decidable.of_not_not h5⟩
 have hmem:∀r a,StopIn (callsOf t) r a→Zaw (callsOf t) r a∈Zap (callsOf t) r:=fun r a hs=>by
  unfold Zaw
  rw[List.getD_eq_getElem?_getD,List.getElem?_eq_getElem (by have:=hs.2.2.2;have:=hs.2.2.1;omega)]
  exact List.getElem_mem _
 have hasc:∀r a,StopIn (callsOf t) r a→0<a→(Zaw (callsOf t) r (a-1)).depart<(Zaw (callsOf t) r a).arrive:=fun r a hs ha=>by
  have h1:=(hrun r hs.1 hs.2.1).2
  have h2:=hs.2.2.2
  have h3:=ZaM h1 a.toNat (by omega) (by omega)
  unfold Zd0 at h3
  split at h3
  ·cases h3
  rename_i h4
  unfold Zaw
  rw[show(a-1).toNat=a.toNat-1 by omega]
  omega
 refine⟨hcf,fun r a hs=>(hrun r hs.1 hs.2.1).1 _ (hmem r a hs),hasc,by omega,by omega,fun w hwm=>?_,fun d hdm=>?_⟩
 ·obtain⟨i,hi,he⟩:=Zd2 (d:=default) hwm
  have h5:=hw i (by omega) (by omega)
  rw[he]at h5
  unfold Zbg at h5
  split at h5
  ·cases h5
  rename_i g1
  split at h5
  ·cases h5
  split at h5
  ·cases h5
  rename_i g3
  split at h5
  ·cases h5
  rename_i g4
  split at h5
  ·cases h5
  rename_i g5
  have b1:0≤w.feeder∧w.feeder≤((callsOf t).length:Int)-1:=ZbI (by cases hq:Zdc w.feeder 0 ((callsOf t).length-1)with|false=>rfl|true=>exact absurd (by rw[hq];rfl) g1)
  have b4:=ZbI (by simpa using g4)
  have s1:=Zel (Zap (callsOf t) w.feeder) 1 w.station
  have hc1:1≤ZaI (Zap (callsOf t) w.feeder) w.station:=by
   have:¬ZaI (Zap (callsOf t) w.feeder) w.station<0:=fun h=>g3 (.inl h)
   unfold ZaI at*
   omega
  refine⟨b1.1,by omega,hc1,b4.1,b4.2,fun a hs hne hst=>?_⟩
  have hg:0≤ZaR (Zap (callsOf t) w.train) w.station:=by
   have:¬ZaR (Zap (callsOf t) w.train) w.station<0:=fun h=>g3 (.inr h)
   omega
  have hge:ZaR (Zap (callsOf t) w.train) w.station=ZaC (Zap (callsOf t) w.train) 0 w.station:=by
   unfold ZaR at*
   split at hg
   ·rw[if_pos (by assumption)]
   ·omega
  have hle:ZaC (Zap (callsOf t) w.train) 0 w.station≤a:=by
   have:=Zmw (q:=fun c:Call=>decide (c.station=w.station)) (d:=default) (l:=Zap (callsOf t) w.train) (i:=0) (k:=a.toNat) (by have:=hs.2.2.2;have:=hs.2.2.1;omega) (decide_eq_true hst)
   have h0:=hs.2.2.1
   unfold ZaC
   rw[show max 0 (0:Int)=0 from rfl,show(0:Int).toNat=0 from rfl,List.drop_zero]
   omega
  have hmono:∀(n:Nat) (g:Int),0≤g→StopIn (callsOf t) w.train (g+n)→(Zaw (callsOf t) w.train g).depart≤(Zaw (callsOf t) w.train (g+n)).depart:=by
   intro n
   induction n with
   |zero=>intro g _ _;rw[show g+((0:Nat):Int)=g by omega];exact Int.le_refl _
   |succ n ih=>
    intro g h0 hin
    have hp:StopIn (callsOf t) w.train (g+n):=⟨hin.1,hin.2.1,by omega,by have:=hin.2.2.2;omega⟩
    have h1:=ih g h0 hp
    have h2:=hasc w.train (g+((n+1:Nat):Int)) hin (by omega)
    rw[show g+((n+1:Nat):Int)-1=g+n by omega]at h2
    have h3:=((hrun w.train hin.1 hin.2.1).1 _ (hmem _ _ hin)).2.1
    omega
  have hm:=hmono (a-ZaC (Zap (callsOf t) w.train) 0 w.station).toNat (ZaC (Zap (callsOf t) w.train) 0 w.station) (by omega) (by rw[show ZaC (Zap (callsOf t) w.train) 0 w.station+((a-ZaC (Zap (callsOf t) w.train) 0 w.station).toNat:Int)=a by omega];exact hs)
  rw[show ZaC (Zap (callsOf t) w.train) 0 w.station+((a-ZaC (Zap (callsOf t) w.train) 0 w.station).toNat:Int)=a by omega]at hm
  have g6:¬(Zaw (callsOf t) w.train (ZaR (Zap (callsOf t) w.train) w.station)).depart<(Zaw (callsOf t) w.feeder (ZaI (Zap (callsOf t) w.feeder) w.station)).arrive:=g5
  rw[hge]at g6
  omega
 ·obtain⟨i,hi,he⟩:=Zd2 (d:=default) hdm
  have h5:=hd i (by omega) (by omega)
  rw[he]at h5
  unfold Zbm at h5
  split at h5
  ·cases h5
  split at h5
  ·cases h5
  rename_i g2
  split at h5
  ·cases h5
  rename_i g3
  split at h5
  ·exact absurd h5 (by assumption)
  rename_i g4
  have g4:=ZaM (Decidable.of_not_not g4)
  refine⟨by omega,by omega,fun n hn=>?_⟩
  obtain⟨k,hk,he⟩:=Zd2 (d:=0) hn
  have h6:=g4 k (by omega) (by omega)
  unfold ZpY at h6
  rw[he]at h6
  split at h6
  ·cases h6
  rename_i h7
  exact ZbI (by simpa using h7)
end Go.Proofs.Ytjgpiclllehgmaa.Sp
namespace Go.Proofs.Ytjgpiclllehgmaa.Sp
open Vm
def ZeB (t:Zad) (f r st:Int) (i:Nat):Bool:=
 decide ((Za0 t (Zai t i) f (ZaI (Zap (callsOf t) f) st)).comes≤(Za0 t (Zai t i) r (ZaR (Zap (callsOf t) r) st)).goes)
def Zcw (p:Nat→Bool):Nat→Int
 |0=>0
 |n+1=>if p n then Zcw p n+1 else Zcw p n
def ZlB (t:Zad) (f r st:Int):Int:=Zje (Zcw (ZeB t f r st) (Za9 t)) (Zcw (fun i=> !ZeB t f r st i) (Za9 t))
def ZcE (p:Nat→Bool):Nat→Nat→Int×Bool
 |_,0=>(0,false)
 |i,n+1=>if p i then((i:Int),true)else ZcE p (i+1) n
def ZbK (t:Zad) (w:Int):Zck:=t.waits.getD w.toNat default
def ZfE (t:Zad) (w:Int) (n:Nat):Bool:=decide (ZlB (ZcP t w n) (ZbK t w).feeder (ZbK t w).train (ZbK t w).station=1)
def ZeI (t:Zad) (w:Int):Int×Int:=if Zb3 t w≠0 then(0,Zb3 t w)else if(ZcE (ZfE t w) 0 61).2 then((ZcE (ZfE t w) 0 61).1,0)else(0,11)
theorem ZnB {p:Nat→Bool} {i n:Nat} (h:0<n):ZcE p i n=if p i then((i:Int),true)else ZcE p (i+1) (n-1):=by
 cases n with
 |zero=>omega
 |succ n=>rfl
def Zja (t:Zad) (f r st:Int):Prop:=StopIn (callsOf t) f (ZaI (Zap (callsOf t) f) st)∧StopIn (callsOf t) r (ZaR (Zap (callsOf t) r) st)
theorem Zt9 {t:Zad} (h:Zam t=0) {w:Int} (hw:0≤w∧w<t.waits.length):Zja t (ZbK t w).feeder (ZbK t w).train (ZbK t w).station:=by
 have hf:=Zdq h
 have hm:ZbK t w∈t.waits:=by
  unfold ZbK
  rw[List.getD_eq_getElem?_getD,List.getElem?_eq_getElem (by omega)]
  exact List.getElem_mem _
 refine⟨ZcI hf hm,?_⟩
 unfold Zam at h
 split at h
 ·exact absurd h (by assumption)
 split at h
 ·exact absurd h (by assumption)
 split at h
 ·cases h
 split at h
 ·exact absurd h (by assumption)
 rename_i h3
 have h5:=ZaM (Decidable.of_not_not h3) w.toNat (by omega) (by omega)
 change Zbg (callsOf t) (ZbK t w) _=0 at h5
 unfold Zbg at h5
 split at h5
 ·cases h5
 rename_i g1
 split at h5
 ·cases h5
 split at h5
 ·cases h5
 rename_i g3
 have b1:=ZbI (n:=(ZbK t w).train) (lo:=0) (hi:=((callsOf t).length:Int)-1) (by cases hq:Zdc (ZbK t w).train 0 ((callsOf t).length-1)with|false=>rfl|true=>exact absurd (by rw[hq,Bool.or_true]) g1)
 have g4:¬ZaR (Zap (callsOf t) (ZbK t w).train) (ZbK t w).station<0:=fun h=>g3 (.inr h)
 have s1:=Zel (Zap (callsOf t) (ZbK t w).train) 0 (ZbK t w).station
 refine⟨b1.1,by omega,by omega,?_⟩
 unfold ZaR at*
 split<;>omega
end Go.Proofs.Ytjgpiclllehgmaa.Sp
namespace Go.Proofs.Ytjgpiclllehgmaa.Vm
attribute [local irreducible] Dn
open Go Go.Proofs Sp
set_option maxRecDepth 100000
set_option maxHeartbeats 4000000
theorem Zv2 {f:FuncId} {xs ys:List AV} {h:List Blk} {Post Q:AV→List Blk→Prop} {B:Prop} (H:SC (fun _=>Try.prog) f ys [] Q) (k:B) (t:SC (fun _=>Try.prog) f ys [] Q→HdW B→SC (fun _=>Try.prog) f xs h Post:=by intro hH hW;refine Za3 hH (by first|rfl|(simp only[Zae,Zaf,Zah,Zac,Zaa hnt];rfl)) fun r h₂ hp=>?_;(try simp only[Zae,Zaf,Zah,Zac,Zaa hnt]at hp);obtain⟨rfl,rfl⟩:=hp;exact hW.out):SC (fun _=>Try.prog) f xs h Post:=t H ⟨k⟩
theorem Zx5 (cs0 cs1 cs2 cs3:List AV) (p:Nat→Bool) (hk:∀n:Nat,n≤60→SC (fun _=>Try.prog) 48 [.int .i64 fun _=>(n:Int),.iptr cs0 0,.iptr cs1 0,.iptr cs2 0,.iptr cs3 0] [.main] fun v h=>v= .bool (fun _=>p n)∧h=[.main]):
  SC (fun _=>Try.prog) 47 [.int .i64 fun _=>60,.fn 48 [] [.iptr cs0 0,.iptr cs1 0,.iptr cs2 0,.iptr cs3 0]] [.main] fun v h=>v= .tup [.int .i64 fun _=>(ZcE p 0 61).1,.bool fun _=>(ZcE p 0 61).2]∧h=[.main]:=by
 refine SC.less (con Try.func47 (body:=Zal Try.f47) rfl (by decide+kernel) ?_)
 generalize hF:ZcE p 0 61=F
 refine wS ?_
 refine Za2 false false [] [0,1,6] [] (fun i:Nat=>[(6,.int .i64 fun _=>(i:Int))]) (fun _=>[]) (fun i=>i≤61∧ZcE p i (61-i)=F) (fun i=>61-i+0) 0 ⟨by omega,hF⟩ ?_ ?_
 ·exact toT
 rintro i ⟨hi,hp⟩
 refine wS ?_
 refine⟨fun h1=>?_,fun h1=>?_⟩
 ·have h1:=of_decide_eq_true h1
  rw[show 61-i=0 by omega,ZcE]at hp
  subst hp
  refine wS ?_
  refine⟨_,_,?_,rfl,rfl⟩
  exact toT
 have h1:=of_decide_eq_false h1
 have k:=hk i (by omega)
 rw[ZnB (by omega)]at hp
 refine wS ?_
 refine ZaY [0] (k) (by decide) (by simp) (by first|rfl|(simp only[Zae,Zaf,Zah,Zac,Zaa hnt];rfl)) (by first|rfl|(simp only[Zae,Zaf,Zah,Zac,Zaa hnt];rfl)) fun r h₂ hp=>?_
 (try simp only[Zae,Zaf,Zah,Zac,Zaa hnt]at hp)
 obtain⟨rfl,rfl⟩:=hp
 refine wS ?_
 refine⟨fun h2=>?_,fun h2=>?_⟩
 ·rw[if_pos h2]at hp
  subst hp
  refine wS ?_
  refine⟨_,_,?_,rfl,rfl⟩
  exact toT
 ·rw[if_neg (by rw[h2];exact Bool.false_ne_true)]at hp
  refine wS ?_
  refine⟨i+1,⟨by omega,hp⟩,by show 61-(i+1)+0<61-i+0;omega,?_⟩
  exact toT
theorem Zx4 (t:Zad) (w:Int) (hf:ZcL t) (hw:Zay t) (hi:0≤w∧w<t.waits.length) (hc:Zja t (ZbK t w).feeder (ZbK t w).train (ZbK t w).station)
  (k397:∀t' f r st,Zay t'→Zja t' f r st→SC (fun _=>Try.prog) 50 [.iptr (Za1 t') 0,.int .i64 fun _=>f,.int .i64 fun _=>r,.int .i64 fun _=>st] [.main] fun v h=>v= .int .i64 (fun _=>ZlB t' f r st)∧h=[.main])
  (n:Nat) (hn:n≤60):SC (fun _=>Try.prog) 48 [.int .i64 fun _=>(n:Int),.iptr ((Za1 t).take 8) 0,.iptr [.int .i64 fun _=>w] 0,.iptr [.iptr (Za1 t) 0] 0,.iptr (Zb2 (ZbK t w)) 0] [.main] fun v h=>v= .bool (fun _=>ZfE t w n)∧h=[.main]:=by
 obtain⟨nt,hnt⟩:=Zat
 have k400:=ZxB t w n hf hi
 have k:=k397 (ZcP t w n) (ZbK t w).feeder (ZbK t w).train (ZbK t w).station (Zj8 hw ⟨by omega,by omega⟩) hc
 have hbk:∀n,(ZcP t w n).book=t.book:=fun _=>rfl
 have hrn:∀n,(ZcP t w n).runs=t.runs:=fun _=>rfl
 have hdl:∀n,(ZcP t w n).delays=t.delays:=fun _=>rfl
 have hcl:∀n,callsOf (ZcP t w n)=callsOf t:=fun _=>rfl
 unfold ZfE
 generalize ZbK t w=x at*
 generalize ZlB (ZcP t w n) x.feeder x.train x.station=V at*
 unfold Za1 Zah Zb2 at*
 simp only[hbk,hrn,hdl,hcl]at k400 k
 simp only[List.take,Zaa hnt,Zac,Zaz]at*
 generalize ZcP t w n=t2 at*
 refine SC.less (con Try.func48 (body:=Zal Try.f48) rfl (by decide+kernel) ?_)
 refine wS ?_
 refine Zv2 (k400) ?_
 refine wS ?_
 refine SC.lend [0] (by decide) (by simp) rfl (fun b hb=>List.mem_singleton.1 hb) k ?_ fun r h₂ hp=>?_
 ·first|rfl|(simp only[Zaa hnt];rfl)
 obtain⟨rfl,rfl⟩:=hp
 refine⟨rfl,rfl,?_⟩
 refine wS ?_
 refine⟨_,_,?_,rfl,rfl⟩
 (refine To.of [] ?_;cbv;(try simp only[nc]);(repeat' (first|exact trivial|exact WkN.refl _|exact WkB.refl _|refine⟨?_,?_⟩|refine WkB.cells ?_|refine WkN.agg ?_|refine WkN.tup ?_));(all_goals (first|exact okt|skip)))
 all_goals exact .bool rfl
theorem Zye (t:Zad) (w:Int) (hf:ZcL t)
  (k397:∀t' f r st,Zay t'→Zja t' f r st→SC (fun _=>Try.prog) 50 [.iptr (Za1 t') 0,.int .i64 fun _=>f,.int .i64 fun _=>r,.int .i64 fun _=>st] [.main] fun v h=>v= .int .i64 (fun _=>ZlB t' f r st)∧h=[.main]):
  SC (fun _=>Try.prog) 26 [Zah t,.int .i64 fun _=>w] [.main] fun v h=>v= .tup [.int .i64 fun _=>(ZeI t w).1,.int .i64 fun _=>(ZeI t w).2]∧h=[.main]:=by
 obtain⟨nt,hnt⟩:=Zat
 have k:=Zx6 t w hf
 by_cases he:Zb3 t w=0
 ·have hb:Zam t=0:=by
   unfold Zb3 at he
   split at he
   ·assumption
   ·exact he
  have hi:0≤w∧w<t.waits.length:=by
   unfold Zb3 at he
   rw[if_pos hb]at he
   split at he
   ·cases he
   ·rename_i h2
    have:=ZbI (by simpa using h2)
    omega
  have k413:=Zx4 t w hf (Zdq hb) hi (Zt9 hb hi) k397
  have k412:=Zx5 _ _ _ _ _ k413
  have hE:ZeI t w=if(ZcE (ZfE t w) 0 61).2 then((ZcE (ZfE t w) 0 61).1,0)else(0,11):=by
   unfold ZeI
   rw[if_neg (fun h=>h he)]
  have hx:ZbK t w=nt Sp.Zck default t.waits w:=by rw[hnt];rfl
  rw[hx]at k412
  unfold Zb9 at k
  rw[if_pos hb,he]at k
  clear k413
  unfold Za1 Zah Zb2 at*
  simp only[List.take,Zaa hnt,Zac,Zaz]at*
  generalize ZeI t w=BE at*
  generalize ZcE (ZfE t w) 0 61=F at*
  refine SC.less (con Try.func26 (body:=Zal Try.f26) rfl (by decide+kernel) ?_)
  refine wS ?_
  refine Zv2 (k) ?_
  refine wS ?_
  refine Br.isF rfl ?_
  refine wS ?_
  refine SC.lend [0] (by decide) (by simp) rfl (fun b hb=>List.mem_singleton.1 hb) k412 ?_ fun r h₂ hp=>?_
  ·first|rfl|(simp only[Zaa hnt];rfl)
  obtain⟨rfl,rfl⟩:=hp
  refine⟨rfl,rfl,?_⟩
  refine wS ?_
  refine⟨fun h2=>?_,fun h2=>?_⟩
  ·have h2:F.2=false:=nb2 h2
   rw[if_neg (by rw[h2];exact Bool.false_ne_true)]at hE
   subst hE
   refine wS ?_
   refine⟨_,_,?_,rfl,rfl⟩
   exact toT
  ·have h2:F.2=true:=nb4 h2
   rw[if_pos h2]at hE
   subst hE
   refine wS ?_
   refine⟨_,_,?_,rfl,rfl⟩
   exact toT
 ·have hE:ZeI t w=(0,Zb3 t w):=by
   unfold ZeI
   rw[if_pos he]
  rw[hE]
  generalize Zb3 t w=e at*
  refine SC.less (con Try.func26 (body:=Zal Try.f26) rfl (by decide+kernel) ?_)
  unfold Zah at*
  by_cases hb:Zam t=0
  ·unfold Zb9 at k
   rw[if_pos hb]at k
   unfold Za1 at k
   simp only[Zaa hnt,Zac,Zaz]at*
   refine wS ?_
   refine Zv2 (k) ?_
   refine wS ?_
   refine⟨fun h=>?_,fun h=>?_⟩
   ·refine wS ?_
    refine⟨_,_,?_,rfl,rfl⟩
    exact toT
   ·exact absurd (by simpa only[bne_eq_false_iff_eq]using h) he
  ·unfold Zb9 at k
   rw[if_neg hb]at k
   simp only[Zaa hnt,Zac,Zaz]at*
   refine wS ?_
   refine Zv2 (k) ?_
   refine wS ?_
   refine⟨fun h=>?_,fun h=>?_⟩
   ·refine wS ?_
    refine⟨_,_,?_,rfl,rfl⟩
    exact toT
   ·exact absurd (by simpa only[bne_eq_false_iff_eq]using h) he
end Go.Proofs.Ytjgpiclllehgmaa.Vm
namespace Go.Proofs.Ytjgpiclllehgmaa.Sp
open Vm
def ZeK (t:Zad) (a:Zau):ZpN×Int:=if Zdm t a≠0 then(⟨0,0⟩,Zdm t a)else if Zcb t a then(Zcd t a,0)else(⟨0,0⟩,11)
end Go.Proofs.Ytjgpiclllehgmaa.Sp
namespace Go.Proofs.Ytjgpiclllehgmaa.Vm
attribute [local irreducible] Dn
open Go Go.Proofs Sp
set_option maxRecDepth 100000
set_option maxHeartbeats 4000000
theorem Zv3 {f:FuncId} {xs ys:List AV} {h:List Blk} {Post Q:AV→List Blk→Prop} {B:Prop} (H:SC (fun _=>Try.prog) f ys [] Q) (k:B) (t:SC (fun _=>Try.prog) f ys [] Q→HdW B→SC (fun _=>Try.prog) f xs h Post:=by intro hH hW;refine Za3 hH (by first|rfl|(simp only[Zae,Zaf,Zah,Zac,Zaa hnt];rfl)) fun r h₂ hp=>?_;(try simp only[Zae,Zaf,Zah,Zac,Zaa hnt]at hp);obtain⟨rfl,rfl⟩:=hp;exact hW.out):SC (fun _=>Try.prog) f xs h Post:=t H ⟨k⟩
theorem Zyd (t:Zad) (a:Zau) (hf:ZcL t) (ha:a.steps.length≤1000000) (hw:Zam t=0→Zay t):SC (fun _=>Try.prog) 27 [Zah t,Zdp a] [] fun v h=>
  v= .tup [.agg (Ze7 (ZeK t a).1),.int .i64 fun _=>(ZeK t a).2]∧h=[]:=by
 obtain⟨nt,hnt⟩:=Zat
 have k:=ZxA t a hf ha
 by_cases he:Zdm t a=0
 ·have hb:=Zh9 he
  have ht:Zdz (callsOf t) t.runs.length a=0:=by
   unfold Zdm at he
   rw[if_neg (fun h=>h hb)]at he
   exact he
  have k399:=ZxC t a (hw hb) ht
  have hE:ZeK t a=if Zcb t a then(Zcd t a,0)else(⟨0,0⟩,11):=by
   unfold ZeK
   rw[if_neg (fun h=>h he)]
  unfold Zb9 at k
  rw[if_pos hb,he]at k
  unfold Za1 Zah Zdp Ze7 at*
  simp only[Zaa hnt,Zac,ZcF,Zaz]at*
  generalize ZeK t a=BE at*
  generalize Zcb t a=CA at*
  generalize Zcd t a=AS at*
  refine SC.less (con Try.func27 (body:=Zal Try.f27) rfl (by decide+kernel) ?_)
  refine wS ?_
  refine Zv3 (k) ?_
  refine wS ?_
  refine Br.isF rfl ?_
  refine wS ?_
  refine Zv3 (k399) ?_
  refine wS ?_
  refine⟨fun h2=>?_,fun h2=>?_⟩
  ·have h2:CA=false:=nb2 h2
   rw[if_neg (by rw[h2];exact Bool.false_ne_true)]at hE
   subst hE
   refine wS ?_
   refine⟨_,[],?_,rfl,rfl⟩
   exact toT
  ·have h2:CA=true:=nb4 h2
   rw[if_pos h2]at hE
   subst hE
   refine wS ?_
   refine⟨_,[],?_,rfl,rfl⟩
   exact toT
 ·have hE:ZeK t a=(⟨0,0⟩,Zdm t a):=by
   unfold ZeK
   rw[if_pos he]
  rw[hE]
  generalize Zdm t a=e at*
  refine SC.less (con Try.func27 (body:=Zal Try.f27) rfl (by decide+kernel) ?_)
  unfold Zah Zdp Ze7 at*
  by_cases hb:Zam t=0
  ·unfold Zb9 at k
   rw[if_pos hb]at k
   unfold Za1 at k
   simp only[Zaa hnt,Zac,ZcF,Zaz]at*
   refine wS ?_
   refine Zv3 (k) ?_
   refine wS ?_
   refine⟨fun h=>?_,fun h=>?_⟩
   ·refine wS ?_
    refine⟨_,[],?_,rfl,rfl⟩
    exact toT
   ·exact absurd (by simpa only[bne_eq_false_iff_eq]using h) he
  ·unfold Zb9 at k
   rw[if_neg hb]at k
   simp only[Zaa hnt,Zac,ZcF,Zaz]at*
   refine wS ?_
   refine Zv3 (k) ?_
   refine wS ?_
   refine⟨fun h=>?_,fun h=>?_⟩
   ·refine wS ?_
    refine⟨_,[],?_,rfl,rfl⟩
    exact toT
   ·exact absurd (by simpa only[bne_eq_false_iff_eq]using h) he
end Go.Proofs.Ytjgpiclllehgmaa.Vm
namespace Go.Proofs.Ytjgpiclllehgmaa.Sp
open Vm
def ZjL (st a d:Int):Stop:={station:=st,zone:=0,arrive:=a,depart:=d}
def ZaQ (m:Int):Zad:={book:={zones:=[⟨0,[]⟩],old:=[⟨1,127,[ZjL 0 0 60,ZjL 1 100 110,ZjL 2 160 0]⟩,⟨2,127,[ZjL 1 0 120,ZjL 3 200 0]⟩,⟨3,127,[ZjL 1 0 180,ZjL 3 260 0]⟩],new:=[],night:=1,last:=0},runs:=[⟨1,0⟩,⟨2,0⟩,⟨3,0⟩],waits:=[⟨0,1,1,m⟩],delays:=[⟨0,0,[0,20,40]⟩]}
def Zr2:Zau:=⟨0,0,3,[⟨0,0,1⟩,⟨1,1,3⟩,⟨2,1,3⟩]⟩
def Zuq:Zau:=⟨0,0,3,[⟨0,0,1⟩,⟨1,1,3⟩]⟩
theorem Zvw:Zam (ZaQ 15)=0∧Zam (ZaQ 30)=0:=by decide+kernel
theorem Zro:Zrh (ZaQ 30) 1=[⟨120,140⟩,⟨200,220⟩]:=by decide+kernel
theorem Zpk:ZeI (ZaQ 15) 0=(20,0):=by decide+kernel
theorem ZnD:ZeK (ZaQ 15) Zr2=(⟨200,260⟩,0):=by decide+kernel
theorem Zt2:ZrM (ZaQ 15) Zuq 0=(20,220,0):=by decide+kernel
end Go.Proofs.Ytjgpiclllehgmaa.Sp
namespace Go.Proofs.Ytjgpiclllehgmaa.Vm
open Go Go.Proofs
theorem ZfV {α β:Type} {f:α→β}:∀ {l:List α},(l.map f).Nodup→∀ {a b:α},a∈l→b∈l→f a=f b→a=b
 |x::l,h,a,b,ha,hb,e=>by
  rw[List.map_cons,List.nodup_cons]at h
  rcases List.mem_cons.1 ha with ha1|ha1<;>rcases List.mem_cons.1 hb with hb1|hb1
  ·rw[ha1,hb1]
  ·rw[ha1]at e
   exact absurd (List.mem_map.2 ⟨b,hb1,e.symm⟩) h.1
  ·rw[hb1]at e
   exact absurd (List.mem_map.2 ⟨a,ha1,e⟩) h.1
  ·exact ZfV h.2 ha1 hb1 e
theorem NC.next {p:Unit→Program} {id ka n:Nat} {L:Unit→List (List Int×List Int)} {seen:Unit→List (List Int)} {cur:Unit→List Int×List Int} {h:List Blk} {Post:AV→List Blk→Prop} (hi:h[id]? =some (.gob (.mapIt ka n L seen cur)))
  (h1:(∀q∈L (),q.1∈seen ())→Post (.tup [.bool fun _=>false]) h)
  (h2:∀e∈L (),e.1∉seen ()→Post (.tup [.bool fun _=>true,Zkb ka fun _=>e.1,Zkb n fun _=>e.2]) (h.set id (.gob (.mapIt ka n L (fun _=>seen ()++[e.1]) fun _=>e)))):NC p id h Post:=⟨fun G R H=>by
 obtain⟨o,ho,hk,hg⟩:=H.blk id _ hi
 have over:(∀q∈L (),q.1∈seen ())→(∀ty,(Instr.next (.pointer (some ⟨(R.α id).b,0,none⟩)) false ty).run (p ()) R.w= .ok (.tuple #[.bool false]) R.w)→∃v R' r h',(∀ty,(Instr.next (.pointer (some ⟨(R.α id).b,0,none⟩)) false ty).run (p ()) R.w= .ok v R'.w)∧HR G R' h'∧Ext R h R' h'∧R.le R'∧VR R' r v∧Post r h':=fun hs hr=>
  ⟨_,R,_,h,hr,H,Ext.refl _ _,RC.le.refl _,.tup [.bool fun _=>false] #[.bool false] rfl (fun j c hj=>by
   cases j with
   |zero=>simp at hj;subst hj;exact .pure _ _ (.bool _)
   |succ j=>simp at hj),h1 hs⟩
 rcases hg with⟨g1,g2,sn,rfl⟩|⟨m,es,clk,sn,l,rfl,g1,g2,g3,g4,g5⟩
 ·refine over (fun q hq=>by rw[g1]at hq;cases hq) fun ty=>?_
  simp[Instr.next,getObj,Sem.run_bind,Sem.run,ho,Result.andThen]
 have hold:∀x∈es.toList,x.born<clk:=fun x hx=>by
  rw[←g3.es]at hx
  obtain⟨q,hq,rfl⟩:=List.mem_map.1 hx
  exact(g3.e q hq).2.2.2
 have hleft:∀q∈l,q.1∈(leftOf es sn).toList↔q.2.1∉seen ():=fun q hq=>by
  have hqe:q.1∈es.toList:=by rw[←g3.es];exact List.mem_map.2 ⟨q,hq,rfl⟩
  have:=g4 q hq
  unfold leftOf
  simp only[Array.toList_filter,List.mem_filter]
  rw[this]
  simp[hqe]
 rcases run_next_at (P:=p ()) R.w 0 (R.α id).b m clk clk sn es clk ho g1 hold (Nat.le_refl _)with⟨q1,_⟩|⟨e,he,w1,hw1,q2⟩
 ·refine over (fun q hq=>?_) fun ty=>?_
  ·obtain⟨q',hq',e⟩:=List.mem_map.1 (g3.L.mem_iff.2 hq)
   subst e
   have h0:q'.1∉(leftOf es sn).toList:=by
    rw[show leftOf es sn= #[] by simpa using q1]
    simp
   have:=mt (hleft q' hq').2 h0
   exact Classical.not_not.1 this
  ·rcases run_next_at (P:=p ()) R.w ty (R.α id).b m clk clk sn es clk ho g1 hold (Nat.le_refl _)with⟨_,q2⟩|⟨e,he,_⟩
   ·exact q2
   ·rw[show leftOf es sn= #[] by simpa using q1]at he
    cases he
 ·have hee:e∈es.toList:=by
   unfold leftOf at he
   simp only[Array.toList_filter,List.mem_filter]at he
   exact he.1
  rw[←g3.es]at hee
  obtain⟨q,hq,rfl⟩:=List.mem_map.1 hee
  have hns:=(hleft q hq).1 he
  have hqL:q.2∈L ():=g3.L.mem_iff.1 (List.mem_map.2 ⟨q,hq,rfl⟩)
  obtain⟨e1,e2,_,_⟩:=g3.e q hq
  have hmr:m≠(R.α id).b:=fun he=>by rw[he,ho]at g1;cases g1
  have hcont:∀q'∈l,(sn.push q.1.born).contains q'.1.born=(seen ()++[q.2.1]).contains q'.2.1:=fun q' hq'=>by
   have hiff:(q'.1.born=q.1.born)↔(q'.2.1=q.2.1):=⟨fun he=>by rw[ZfV (f:=fun z:MapEntry×(List Int×List Int)=>z.1.born) g3.bn hq' hq he],fun he=>by rw[ZfV (f:=fun z:MapEntry×(List Int×List Int)=>z.2.1) g3.nd hq' hq he]⟩
   have:=g4 q' hq'
   rw[Bool.eq_iff_iff]at this⊢
   simp only[Array.contains_push,Bool.or_eq_true,List.contains_eq_mem,decide_eq_true_eq,List.mem_append,List.mem_singleton,beq_iff_eq]at this⊢
   rw[this,hiff]
  have hh1:w1.heap=R.w.heap:=by rcases hw1 with rfl|rfl<;>rfl
  obtain⟨R',hw,_,hα,H',hx',hle⟩:=H.upd hi rfl (blk':=.gob (.mapIt ka n L (fun _=>seen ()++[q.2.1]) fun _=>q.2)) rfl (ChangeMaps.setBlock w1 (R.α id).b (.mapIter (some m) clk (sn.push q.1.born) clk))
   (by rcases hw1 with rfl|rfl<;>rfl) (by rcases hw1 with rfl|rfl<;>rfl) (by rcases hw1 with rfl|rfl<;>rfl) (by simp[ChangeMaps.setBlock,hh1])
   (fun b hb=>by simp[ChangeMaps.setBlock,hh1,Array.getElem?_setIfInBounds_ne (Ne.symm hb)]) (fun R' hle hα hw=>⟨.mapIter (some m) clk (sn.push q.1.born) clk,by
    rw[hw,hα]
    simp[ChangeMaps.setBlock,hh1,(Array.getElem?_eq_some_iff.1 ho).1],rfl,.inr ⟨m,es,clk,sn.push q.1.born,l,rfl,by
    rw[hw]
    simp[ChangeMaps.setBlock,hh1,Array.getElem?_setIfInBounds_ne (Ne.symm hmr),g1],hle.ok _ _ _ g2,g3,hcont,fun _=>⟨q,hq,by simp,rfl⟩⟩⟩)
  ·refine⟨_,R',_,_,fun ty=>?_,H',hx',hle,.tup [.bool fun _=>true,Zkb ka fun _=>q.2.1,Zkb n fun _=>q.2.2] #[.bool true,q.1.key,q.1.val] rfl (fun j c hj=>?_),h2 _ hqL hns⟩
   ·rw[hw]
    exact q2
   ·match j,hj with
    |0,hj=>simp at hj;subst hj;exact .pure _ _ (.bool _)
    |1,hj=>simp at hj;subst hj;show VR R' _ q.1.key;rw[e1];exact ZeN R' ka fun _=>q.2.1
    |2,hj=>simp at hj;subst hj;show VR R' _ q.1.val;rw[e2];exact ZeN R' n fun _=>q.2.2
    |j+3,hj=>simp at hj⟩
end Go.Proofs.Ytjgpiclllehgmaa.Vm
namespace Go.Proofs.Ytjgpiclllehgmaa.Sp
open Vm
def ZkY (t:Zad) (d i:Nat) (r a:Int):Bool:=
 decide ((Za0 t (Zai t i) r a).comes≠(Za0 t ((Zai t i).set d 0) r a).comes)||decide ((Za0 t (Zai t i) r a).goes≠(Za0 t ((Zai t i).set d 0) r a).goes)
def ZcX (t:Zad) (d i:Nat) (r:Nat):Bool:=decide ((Zai t i).getD d 0≠0)&&(List.range (Zap (callsOf t) r).length).any fun a=>ZkY t d i r a
def ZdC (t:Zad) (d:Nat):Nat→Nat→Bool
 |0,_=>false
 |i+1,r=>ZdC t d i r||ZcX t d i r
def ZcY (t:Zad) (d:Nat):List Int:=((List.range 4).filter fun r=>ZdC t d (Za9 t) r).map fun(r:Nat)=>(r:Int)
def ZeH (t:Zad) (d:Int):List Int×Int:=if Zam t≠0 then([],Zam t)else if Zdc d 0 ((t.delays.length:Int)-1)then([],3)else(ZcY t d.toNat,0)
theorem Zrp:ZeH (ZaQ 30) 0=([0,1],0)∧ZeH (ZaQ 15) 0=([0],0):=by decide+kernel
theorem ZmC {ds:List ZaW} (h6:ds.length≤6) {x:List Int}:∀m,m≤ds.length→(∀k,k<m→0≤x.getD k 0∧x.getD k 0<lenAt ds k)→∃n,n<ZdZ ds m∧∀k,k<m→(Zfk ds m n).getD k 0=x.getD k 0
 |0,_,_=>⟨0,by unfold ZdZ;omega,fun k h=>by omega⟩
 |m+1,hm,hx=>by
  obtain⟨n,hn,he⟩:=ZmC h6 m (by omega) fun k hk=>hx k (by omega)
  have hxm:=hx m (by omega)
  have hl:0<lenAt ds m:=by omega
  have hq:(n*lenAt ds m+(x.getD m 0).toNat)/lenAt ds m=n:=by
   rw[Nat.mul_comm,Nat.mul_add_div hl,Nat.div_eq_of_lt (by omega)]
   omega
  have hr:(n*lenAt ds m+(x.getD m 0).toNat)%lenAt ds m=(x.getD m 0).toNat:=by
   rw[Nat.mul_comm,Nat.mul_add_mod,Nat.mod_eq_of_lt (by omega)]
  refine⟨n*lenAt ds m+(x.getD m 0).toNat,?_,fun k hk=>?_⟩
  ·unfold ZdZ
   have:=Nat.mul_le_mul_right (lenAt ds m) (show n+1≤ZdZ ds m by omega)
   rw[Nat.add_mul]at this
   omega
  ·unfold Zfk
   rw[hq,hr]
   by_cases h:m=k
   ·subst h
    rw[List.getD_eq_getElem?_getD,List.getElem?_set_self (by rw[ZcG];omega)]
    show((x.getD m 0).toNat:Int)=_
    omega
   ·rw[List.getD_eq_getElem?_getD,List.getElem?_set_ne h,←List.getD_eq_getElem?_getD]
    exact he k (by omega)
theorem Zxv {x y:List Int} (hx:x.length=6) (hy:y.length=6) (h:∀k,k<6→x.getD k 0=y.getD k 0):x=y:=by
 refine List.ext_getElem (by omega) fun k h1 h2=>?_
 have:=h k (by omega)
 rw[List.getD_eq_getElem?_getD,List.getD_eq_getElem?_getD,List.getElem?_eq_getElem h1,List.getElem?_eq_getElem h2]at this
 exact this
theorem Ziv {t:Zad} (hf:Zay t) {x:List Int} (hx:Zdx t x) (h0:∀k,t.delays.length≤k→k<6→x.getD k 0=0):∃n,n<Za9 t∧Zai t n=x:=by
 obtain⟨n,hn,he⟩:=ZmC (ds:=t.delays) hf.dlen (x:=x) t.delays.length (Nat.le_refl _) hx.d
 refine⟨n,hn,Zxv (ZcG _ _) hx.len fun k hk=>?_⟩
 by_cases h:k<t.delays.length
 ·exact he k h
 ·show(Zfk t.delays t.delays.length n).getD k 0=_
  rw[Zeb _ _ _ (by omega),h0 k (by omega) hk]
def keyT (x:List Int):List Int:=[x.getD 0 0,x.getD 1 0,x.getD 2 0,x.getD 3 0,x.getD 4 0,x.getD 5 0]
theorem Zre {x y:List Int} (hx:x.length=6) (hy:y.length=6) (h:keyT x=keyT y):x=y:=by
 unfold keyT at h
 simp only[List.cons.injEq,and_true]at h
 refine Zxv hx hy fun k hk=>?_
 match k,hk with
 |0,_=>exact h.1
 |1,_=>exact h.2.1
 |2,_=>exact h.2.2.1
 |3,_=>exact h.2.2.2.1
 |4,_=>exact h.2.2.2.2.1
 |5,_=>exact h.2.2.2.2.2
def Zfj (t:Zad) (d:Nat):Nat→List (List Int×List (List Int×List Int))
 |0=>[]
 |i+1=>if(Zai t i).getD d 0=0 then ZgL (Zfj t d i) (keyT (Zai t i)) (Za7 t (Zai t i))else Zfj t d i
theorem ZhW {t:Zad} {d:Nat}:∀n,((Zfj t d n).map (·.1)).Nodup∧(∀p∈Zfj t d n,∃i,p=(keyT (Zai t i),Za7 t (Zai t i)))∧∀i,i<n→(Zai t i).getD d 0=0→(keyT (Zai t i),Za7 t (Zai t i))∈Zfj t d n
 |0=>⟨.nil,fun p h=>(by cases h),fun i h=>by omega⟩
 |n+1=>by
  obtain⟨h1,h2,h3⟩:=ZhW (t:=t) (d:=d) n
  unfold Zfj
  split
  ·rename_i h0
   refine⟨Zhq h1,fun p hp=>?_,fun i hi hx=>?_⟩
   ·rcases Zjr hp with rfl|hp
    ·exact⟨n,rfl⟩
    ·exact h2 p hp
   ·by_cases he:i=n
    ·subst he
     exact Zhp
    ·refine Zko (h3 i (by omega) hx) fun e=>?_
     have:=Zre (ZcG _ _) (ZcG _ _) e
     show Za7 t (Zai t i)=_
     rw[show Zai t i=Zai t n from this]
  ·rename_i h0
   refine⟨h1,h2,fun i hi hx=>?_⟩
   by_cases he:i=n
   ·subst he
    exact absurd hx h0
   ·exact h3 i (by omega) hx
theorem Zpi {t:Zad} (hf:Zay t) {d i:Nat} (hd:d<t.delays.length):(Zfj t d (Za9 t)).lookup (keyT ((Zai t i).set d 0))=some (Za7 t ((Zai t i).set d 0)):=by
 have hfit:=ZbO hf i
 have h6:=hf.dlen
 have hget:∀k,((Zai t i).set d 0).getD k 0=if k=d then 0 else(Zai t i).getD k 0:=fun k=>by
  by_cases h:k=d
  ·subst h
   rw[if_pos rfl,List.getD_eq_getElem?_getD,List.getElem?_set_self (by rw[hfit.len];omega)]
   rfl
  ·rw[if_neg h,List.getD_eq_getElem?_getD,List.getElem?_set_ne (Ne.symm h),←List.getD_eq_getElem?_getD]
 obtain⟨n,hn,he⟩:=Ziv hf (x:=(Zai t i).set d 0) ⟨by rw[List.length_set];exact hfit.len,fun k hk=>by
  rw[hget]
  split
  ·have:=(hfit.d k hk)
   omega
  ·exact hfit.d k hk⟩ fun k h1 h2=>by
  rw[hget]
  split
  ·rfl
  ·exact Zeb _ _ _ h1
 rw[←he]
 refine ZfY (ZhW _).1 ((ZhW _).2.2 n hn ?_)
 rw[he,hget,if_pos rfl]
theorem Zvi {x:List Int} {D:Nat} (hx:x.length=6) (hD:D<6):(x.getD 0 0==(x.set D 0).getD 0 0&&(x.getD 1 0==(x.set D 0).getD 1 0&&(x.getD 2 0==(x.set D 0).getD 2 0&&(x.getD 3 0==(x.set D 0).getD 3 0&&(x.getD 4 0==(x.set D 0).getD 4 0&&(x.getD 5 0==(x.set D 0).getD 5 0&&true))))))=decide (x.getD D 0=0):=by
 match x,hx with
 |[a0,a1,a2,a3,a4,a5],_=>
  match D,hD with
  |0,_|1,_|2,_|3,_|4,_|5,_=>simp[List.set,List.getD];rfl
theorem Znc {t:Zad} {d i:Nat} (h:(Zai t i).getD d 0=0) (r:Nat):ZcX t d i r=false:=by
 unfold ZcX
 rw[decide_eq_false (fun hn=>hn h),Bool.false_and]
def ZtV (W:List (List Int×List Int)) (p:List Int×List Int):Bool:=p.2.headD 0 !=((W.lookup p.1).getD []).headD 0||p.2.tail.tail.headD 0 !=((W.lookup p.1).getD []).tail.tail.headD 0
def cvE (L W:List (List Int×List Int)) (S:List (List Int)) (r:Nat):Bool:=L.any fun p=>S.contains p.1&&(p.1.headD 0==(r:Int)&&ZtV W p)
theorem Zt5 {L W:List (List Int×List Int)} {r:Nat}:cvE L W [] r=false:=by
 unfold cvE
 rw[List.any_eq_false]
 intro p _
 simp
theorem Zrv {L W:List (List Int×List Int)} {S:List (List Int)} {e:List Int×List Int} (he:e∈L) (hn:(L.map (·.1)).Nodup) (r:Nat):cvE L W (S++[e.1]) r=(cvE L W S r||(e.1.headD 0==(r:Int)&&ZtV W e)):=by
 unfold cvE
 rw[Bool.eq_iff_iff]
 simp only[List.any_eq_true,Bool.or_eq_true,Bool.and_eq_true,List.contains_eq_mem,decide_eq_true_eq,List.mem_append,List.mem_singleton]
 constructor
 ·rintro⟨p,hp,h1|h1,h2⟩
  ·exact .inl ⟨p,hp,h1,h2⟩
  ·have:p=e:=ZfV (f:=fun q:List Int×List Int=>q.1) hn hp he h1
   subst this
   exact .inr h2
 ·rintro(⟨p,hp,h1,h2⟩|h2)
  ·exact⟨p,hp,.inl h1,h2⟩
  ·exact⟨e,he,.inr rfl,h2⟩
theorem ZlD {t:Zad} {x:List Int}:((Za7 t x).map (·.1)).Nodup:=by
 unfold Za7
 rw[List.map_map]
 exact List.Pairwise.map _ (fun a b hab e=>by
  apply hab
  simp only[Function.comp,List.cons.injEq,and_true]at e
  exact Prod.ext e.1 e.2) Zfm
theorem ZlE {t:Zad} (hf:Zay t) {x:List Int} {p:List Int×List Int} (hp:p∈Za7 t x): [p.1.headD 0,p.1.tail.headD 0]=p.1∧0≤p.1.headD 0∧p.1.headD 0<4:=by
 obtain⟨⟨r,a⟩,hs,rfl⟩:=List.mem_map.1 hp
 have hs:=ZdI.1 hs
 have:=hf.calls.len
 exact⟨rfl,hs.1,by have:=hs.2.1;show r<4;omega⟩
theorem Zoy {L:List (List Int×List Int)} {S:List (List Int)} {e:List Int×List Int} (he:e∈L) (hn:e.1∉S):(L.filter fun q=> !(S++[e.1]).contains q.1).length<(L.filter fun q=> !S.contains q.1).length:=by
 refine ZhX (x:=e) (fun q hq=>?_) he (by simpa using hn) (by simp)
 simp only[Bool.not_eq_true',List.contains_eq_mem,List.mem_append,decide_eq_false_iff_not]at hq⊢
 exact fun h=>hq (.inl h)
theorem Zt6 {t:Zad} {d i:Nat} (h0:(Zai t i).getD d 0≠0) {S:List (List Int)} (hS:∀p∈Za7 t (Zai t i),p.1∈S) {r:Nat}:cvE (Za7 t (Zai t i)) (Za7 t ((Zai t i).set d 0)) S r=ZcX t d i r:=by
 have hat:∀r a,StopIn (callsOf t) r a→ZtV (Za7 t ((Zai t i).set d 0)) ([r,a],Zlc (Za0 t (Zai t i) r a))=ZkY t d i r a:=fun r a hs=>by
  unfold ZtV ZkY
  rw[ZeC hs]
  show((Za0 t (Zai t i) r a).comes !=(Za0 t ((Zai t i).set d 0) r a).comes||(Za0 t (Zai t i) r a).goes !=(Za0 t ((Zai t i).set d 0) r a).goes)=_
  rw[Bool.eq_iff_iff]
  simp
 unfold cvE ZcX
 rw[decide_eq_true h0,Bool.true_and,Bool.eq_iff_iff]
 simp only[List.any_eq_true,Bool.and_eq_true,List.contains_eq_mem,decide_eq_true_eq,List.mem_range,beq_iff_eq]
 constructor
 ·rintro⟨p,hp,_,h2,h3⟩
  obtain⟨⟨r',a⟩,hs,rfl⟩:=List.mem_map.1 hp
  have hs:=ZdI.1 hs
  have h2:r'=(r:Int):=h2
  subst h2
  have h3:ZtV (Za7 t ((Zai t i).set d 0)) ([(r:Int),a],Zlc (Za0 t (Zai t i) r a))=true:=h3
  rw[hat _ _ hs]at h3
  exact⟨a.toNat,by have:=hs.2.2.2;have:=hs.2.2.1;omega,by rw[show((a.toNat:Nat):Int)=a by have:=hs.2.2.1;omega];exact h3⟩
 ·rintro⟨a,ha,h3⟩
  by_cases hr:r<(callsOf t).length
  ·have hs:StopIn (callsOf t) r a:=⟨by omega,by omega,by omega,by omega⟩
   have hm:([(r:Int),(a:Int)],Zlc (Za0 t (Zai t i) r a))∈Za7 t (Zai t i):=List.mem_map.2 ⟨((r:Int),(a:Int)),ZdI.2 hs,rfl⟩
   exact⟨_,hm,hS _ hm,rfl,by rw[hat _ _ hs];exact h3⟩
  ·exfalso
   have:Zap (callsOf t) r=[]:=by
    unfold Zap
    rw[List.getD_eq_getElem?_getD,List.getElem?_eq_none (by omega)]
    rfl
   rw[this]at ha
   simp at ha
end Go.Proofs.Ytjgpiclllehgmaa.Sp
namespace Go.Proofs.Ytjgpiclllehgmaa.Vm
open Go Go.Proofs Sp
set_option maxRecDepth 100000
set_option maxHeartbeats 800000
def Zei (s:Int):Blk:=.cells [.int .u64 fun _=>s]
theorem Zp2 (n:Int):0≤IntKind.u64.wrap n∧IntKind.u64.wrap n<18446744073709551616:=by
 have h:IntKind.u64.wrap n=n%18446744073709551616:=by
  simp[IntKind.wrap,IntKind.signed,IntKind.bits]
 omega
theorem c60 (s:Int):SC (fun _=>Try.prog) 37 [.ptr 0 0] [Zei s] fun r h=>∃x s':Int,(0≤x∧x<18446744073709551616)∧r= .int .u64 (fun _=>x)∧h=[Zei s']:=by
 refine con Try.func37 (body:=Zal Try.f37) rfl (by decide+kernel) ?_
 (cbv;(try simp only[nc]at*);(try refine Chk.mk (okc) ?_))
 exact⟨_,_,Zp2 _,rfl,rfl⟩
theorem Zuz (x m:Int) (h0:0≤x∧x<18446744073709551616) (h1:1≤m) (h2:m≤1000000000):
  0≤(x.fdiv (2^ min (Int.toNat 13) IntKind.u64.bits)).tmod (IntKind.u64.wrap (m+1))∧(x.fdiv (2^ min (Int.toNat 13) IntKind.u64.bits)).tmod (IntKind.u64.wrap (m+1))≤m∧IntKind.u64.wrap (m+1)≠0:=by
 have hw:IntKind.u64.wrap (m+1)=m+1:=by
  have h:∀n,IntKind.u64.wrap n=n%18446744073709551616:=fun n=>by simp[IntKind.wrap,IntKind.signed,IntKind.bits]
  rw[h];omega
 rw[hw]
 have h3:(2:Int)^ min (Int.toNat 13) IntKind.u64.bits=8192:=by decide
 rw[h3]
 have h4:0≤x.fdiv 8192:=by rw[Int.fdiv_eq_ediv_of_nonneg _ (by omega)];omega
 rw[Int.tmod_eq_emod_of_nonneg h4]
 have:=Int.emod_nonneg (x.fdiv 8192) (show m+1≠0 by omega)
 have:=Int.emod_lt_of_pos (x.fdiv 8192) (show 0<m+1 by omega)
 omega
theorem c17 (s m:Int) (hm:m≤1000000000):SC (fun _=>Try.prog) 19 [.ptr 0 0,.int .i64 fun _=>m] [Zei s] fun r h=>∃x s':Int,(0≤x∧(x≤m∨x=0))∧r= .int .i64 (fun _=>x)∧h=[Zei s']:=by
 refine con Try.func19 (body:=Zal Try.f19) rfl (by decide+kernel) ?_
 cbv
 refine⟨fun hb=>?_,fun hb=>?_⟩
 ·(cbv;(try simp only[nc]at*);(try refine Chk.mk (okc) ?_))
  exact⟨0,s,⟨by omega,.inr rfl⟩,rfl,rfl⟩
 ·simp only[decide_eq_false_iff_not]at hb
  (cbv;(try simp only[nc]at*);(try refine Chk.mk (okc) ?_))
  refine ZaY [0] (c60 s) (by decide) (by simp) rfl rfl fun r h₂ hp=>?_
  obtain⟨x,s',hx,rfl,rfl⟩:=hp
  have hv:=Zuz x m hx (by omega) (by omega)
  (cbv;try simp only[nc]at*)
  generalize (x.fdiv (2^ min (Int.toNat 13) IntKind.u64.bits)).tmod (IntKind.u64.wrap (m+1))=y at*
  generalize IntKind.u64.wrap (m+1)=z at*
  refine Chk.mk (okc) ?_
  exact⟨y,s',⟨by omega,.inl (by omega)⟩,rfl,rfl⟩
theorem c22 (s l m:Int) (hl:-1000000000≤l∧l≤1000000000) (hm:m-l≤1000000000∧-1000000000≤m):SC (fun _=>Try.prog) 14 [.ptr 0 0,.int .i64 fun _=>l,.int .i64 fun _=>m] [Zei s] fun r h=>∃x s':Int,(l≤x∧(x≤m∨x=l))∧r= .int .i64 (fun _=>x)∧h=[Zei s']:=by
 refine con Try.func14 (body:=Zal Try.f14) rfl (by decide+kernel) ?_
 (cbv;(try simp only[nc]at*);(try refine Chk.mk (okc) ?_))
 refine ZaY [0] (c17 s (m-l) (by omega)) (by decide) (by simp) rfl rfl fun r h₂ hp=>?_
 obtain⟨x,s',hx,rfl,rfl⟩:=hp
 (cbv;(try simp only[nc]at*);(try refine Chk.mk (okc) ?_))
 exact⟨l+x,s',by omega,rfl,rfl⟩
theorem c37 (s n m:Int) (hm:0≤m∧m≤1000000000):SC (fun _=>Try.prog) 15 [.ptr 0 0,.int .i64 fun _=>n,.int .i64 fun _=>m] [Zei s] fun r h=>∃(b:Bool) (s':Int),r= .bool (fun _=>b)∧h=[Zei s']:=by
 refine con Try.func15 (body:=Zal Try.f15) rfl (by decide+kernel) ?_
 (cbv;(try simp only[nc]at*);(try refine Chk.mk (okc) ?_))
 refine ZaY [0] (c17 s (m-1) (by omega)) (by decide) (by simp) rfl rfl fun r h₂ hp=>?_
 obtain⟨x,s',hx,rfl,rfl⟩:=hp
 (cbv;(try simp only[nc]at*);(try refine Chk.mk (okc) ?_))
 exact⟨_,s',rfl,rfl⟩
theorem c81 (s:Int) (l:List Int) (hl:0<l.length∧l.length≤1000000):SC (fun _=>Try.prog) 20 [.ptr 0 0,lst 1 Ze3 0 l] [Zei s] fun r h=>∃x s':Int,x∈l∧r= .int .i64 (fun _=>x)∧h=[Zei s']:=by
 obtain⟨nt,hnt⟩:=Zat
 rw[Zaa hnt]
 refine con Try.func20 (body:=Zal Try.f20) rfl (by decide+kernel) ?_
 cbv
 refine⟨fun hb=>?_,fun hb=>?_⟩
 ·simp only[nc,beq_iff_eq]at hb
  omega
 (cbv;(try simp only[nc]at*);(try refine Chk.mk (okc) ?_))
 refine ZaY [0] (c17 s ((l.length:Int)-1) (by omega)) (by decide) (by simp) rfl rfl fun r h₂ hp=>?_
 obtain⟨x,s',hx,rfl,rfl⟩:=hp
 (cbv;(try simp only[nc]at*);(try refine Chk.mk (okc) ?_))
 obtain⟨i,rfl⟩:∃i:Nat,x=i:=⟨x.toNat,by omega⟩
 exact⟨_,s',Zb4 hnt (by omega),rfl,rfl⟩
theorem c14 (l:List Int) (hl:(l.length:Int)≤9223372036854775807):SC (fun _=>Try.prog) 6 [lst 1 Ze3 0 l] [] fun r h=>∃s:Int,r= .ptr 0 0∧h=[Zei s]:=by
 obtain⟨nt,hnt⟩:=Zat
 rw[Zaa hnt]
 refine ZxR true false Try.func6 (body:=Zal Try.f6) rfl (by decide+kernel) ?_
 (cbv;(try simp only[nc]at*);(try refine Chk.mk (okc) ?_))
 refine Zwe true false [0,3,4] (fun(⟨i,s⟩:Nat×Int)=>mkS 41 [(0,.isl 1 (fun _=>(l.length:Int)) (fun e=>Ze3 (nt Int 0 l (e ()))) .none),(3,.ptr 0 0),(4,.int .i64 fun _=>(i:Int))])
  (fun⟨i,s⟩=>[Zei s]) (fun⟨i,s⟩=>i≤l.length) (fun i=>l.length-i.1+0) (0,11400714819323198485) 1 (fun _=>rfl) (Nat.zero_le _) (To.of [] ?_) ?_
 ·cbv
  exact⟨⟨.refl _,.refl _,.int rfl,trivial⟩,.refl _,trivial⟩
 rintro⟨i,s⟩ hi
 have hi:i≤l.length:=hi
 (cbv;(try simp only[nc]at*);(try refine Chk.mk (okc) ?_))
 refine⟨fun hb=>?_,fun hb=>?_⟩
 ·simp only[decide_eq_true_eq]at hb
  (cbv;(try simp only[nc]at*);(try refine Chk.mk (okc) ?_))
  exact⟨(i+1,_),(by omega:i+1≤l.length),by show l.length-(i+1)+0<l.length-i+0;omega,To.of [] (by
   cbv
   exact⟨⟨.refl _,.refl _,.int rfl,trivial⟩,.refl _,trivial⟩)⟩
 ·(cbv;(try simp only[nc]at*);(try refine Chk.mk (okc) ?_))
  exact⟨s,rfl,rfl⟩
end Go.Proofs.Ytjgpiclllehgmaa.Vm
namespace Go.Proofs.Ytjgpiclllehgmaa.Vm
attribute [local irreducible] Dn
open Go Go.Proofs Sp
set_option maxRecDepth 100000
set_option maxHeartbeats 800000
def ZvP (n:Int):Prop:=n=60∨n=-60∨n=30∨n=-90∨(1≤n∧n≤20)
structure Zug (k:Int) (z:Sp.Zone):Prop where
 base:-120≤z.base∧z.base≤120
 len:(z.chs.length:Int)≤k∨z.chs.length=0
 asc:z.chs.Pairwise fun a b=>a.at_<b.at_
 at_:∀c∈z.chs,0≤c.at_∧c.at_≤1500+2000*((z.chs.length:Int)-1)
 by_:∀c∈z.chs,ZvP c.by_
theorem ZtL {α:Type} {n k sz:Nat} (enc:α→List AV) (d:α) (l:List α):WkN n k (ZkL sz (l.map enc)) (lst sz enc d l):=
 .none (by simp) fun i hi=>by
  have hi:i<l.length:=by simpa using hi
  show(l.map enc).getD i _=enc (l.getD i d)
  simp[List.getD_eq_getElem?_getD,List.getElem?_eq_getElem hi]
theorem Zr8 (s:Int) (l:List Int) (hl:0<l.length∧l.length≤1000000):SC (fun _=>Try.prog) 20 [.ptr 0 0,ZkL 1 (l.map Ze3)] [Zei s] fun r h=>∃x s':Int,x∈l∧r= .int .i64 (fun _=>x)∧h=[Zei s']:=
 SC.to (xs₂:=[.ptr 0 0,lst 1 Ze3 0 l]) (h₂:=[Zei s]) (To.of [] ⟨⟨.refl _,ZtL Ze3 0 l,trivial⟩,.refl _,trivial⟩) (c81 s l hl)
theorem c29 (s k:Int) (hk:k≤10):SC (fun _=>Try.prog) 16 [.ptr 0 0,.int .i64 fun _=>k] [Zei s] fun r h=>∃(z:Sp.Zone) (s':Int),Zug k z∧r=Zae z∧h=[Zei s']:=by
 obtain⟨nt,hnt⟩:=Zat
 refine SC.less (con Try.func16 (body:=Zal Try.f16) rfl (by decide+kernel) ?_)
 refine wS ?_
 refine ZaY [0] (c22 s (-4) 4 (by omega) (by omega)) (by decide) (by simp) rfl rfl fun r h₂ hp=>?_
 obtain⟨b,s1,hb,rfl,rfl⟩:=hp
 refine wS ?_
 refine ZaY [0] (c17 s1 1500 (by omega)) (by decide) (by simp) rfl rfl fun r h₂ hp=>?_
 obtain⟨a,s2,ha,rfl,rfl⟩:=hp
 refine wS ?_
 refine ZaY [0] (c17 s2 k (by omega)) (by decide) (by simp) rfl rfl fun r h₂ hp=>?_
 obtain⟨n,s3,hn,rfl,rfl⟩:=hp
 refine wS ?_
 refine Znt [0,4,5,6,7] (fun(⟨i,t,s,l⟩:Int×Int×Int×List Chg)=>mkS 43 [(0,.ptr 0 0),(4,.ptr 1 0),(5,.ptr 2 0),(6,.int .i64 fun _=>t),(7,.int .i64 fun _=>i)])
  (fun⟨i,t,s,l⟩=>[Zei s,.cells [.int .i64 fun _=>0,.isl 0 (fun _=>0) (fun _=>[]) .nil],.cells [.int .i64 fun _=>30*b,.isl 2 (fun _=>(l.length:Int)) (fun e=>ZgS (nt Chg default l (e ()))) (.own 3)],.tok 2 fun _=>(l.length:Int)])
  (fun⟨i,t,s,l⟩=>0≤i∧(l.length+i≤k∨(l.length:Int)+i=0)∧0≤t∧t≤1500+2000*(l.length:Int)∧l.Pairwise (fun a b=>a.at_<b.at_)∧(∀c∈l,0≤c.at_∧c.at_<t∧c.at_≤1500+2000*((l.length:Int)-1))∧∀c∈l,ZvP c.by_)
  (fun i=>i.1.toNat+0) (n,a,s3,[]) 4 (fun _=>rfl) ⟨by omega,by simp;omega,by omega,by simp;omega,.nil,by simp,by simp⟩ (To.of [(2,false)] ?_) ?_
 ·cbv
  exact⟨⟨.refl _,.refl _,.refl _,.refl _,.refl _,trivial⟩,.refl _,.refl _,.cells ⟨.refl _,.nilOwn (by decide) (by decide) rfl,trivial⟩,.tok rfl,trivial⟩
 rintro⟨i,t,s,l⟩ ⟨hi,hlen,ht0,ht,hpw,hat,hby⟩
 refine wS ?_
 refine⟨fun hb=>?_,fun hb=>?_⟩
 ·simp only[gt_iff_lt,decide_eq_true_eq]at hb
  refine wS ?_
  refine ZaY [0] (c22 s 1 20 (by omega) (by omega)) (by decide) (by simp) rfl rfl fun r h₂ hp=>?_
  obtain⟨x,s1,hx,rfl,rfl⟩:=hp
  refine wS ?_
  refine ZaY [0] (Zr8 s1 [60,-60,30,-90,x] (by simp)) (by decide) (by simp) rfl rfl fun r h₂ hp=>?_
  obtain⟨y,s2,hy,rfl,rfl⟩:=hp
  refine wS ?_
  refine ZaY [0] (c22 s2 1 40 (by omega) (by omega)) (by decide) (by simp) rfl rfl fun r h₂ hp=>?_
  obtain⟨u,s3,hu,rfl,rfl⟩:=hp
  refine wS ?_
  refine ZaY [0] (c22 s3 100 2000 (by omega) (by omega)) (by decide) (by simp) rfl rfl fun r h₂ hp=>?_
  obtain⟨v,s4,hv,rfl,rfl⟩:=hp
  refine wS ?_
  refine ZaY [0] (Zr8 s4 [u,v] (by simp)) (by decide) (by simp) rfl rfl fun r h₂ hp=>?_
  obtain⟨q,s5,hq,rfl,rfl⟩:=hp
  have hq:1≤q∧q≤2000:=by simp at hq;omega
  refine wS ?_
  have hlen':((l++[(⟨t,y⟩:Chg)]).length:Int)=l.length+1:=by simp
  refine⟨(i-1,t+q,s5,l++[⟨t,y⟩]),⟨by dsimp only;omega,by dsimp only;omega,by dsimp only;omega,by dsimp only;omega,?_,?_,?_⟩,by show(i-1).toNat+0<i.toNat+0;omega,To.of [] ?_⟩
  ·refine List.pairwise_append.2 ⟨hpw,List.pairwise_singleton _ _,fun c hc d hd=>?_⟩
   simp only[List.mem_singleton]at hd
   subst hd
   exact(hat c hc).2.1
  ·intro c hc
   rw[hlen']
   dsimp only
   rcases List.mem_append.1 hc with hc|hc
   ·have:=hat c hc
    omega
   ·simp only[List.mem_singleton]at hc
    subst hc
    dsimp only
    omega
  ·intro c hc
   rcases List.mem_append.1 hc with hc|hc
   ·exact hby c hc
   ·simp only[List.mem_singleton]at hc
    subst hc
    simp at hy
    unfold ZvP
    dsimp only
    omega
  ·cbv
   exact⟨⟨.refl _,.refl _,.refl _,.refl _,.refl _,trivial⟩,.refl _,.refl _,.cells ⟨.refl _,.snoc hnt rfl rfl rfl,trivial⟩,.tok (by simp),trivial⟩
 ·simp only[decide_eq_false_iff_not]at hb
  refine wS ?_
  exact⟨Zae ⟨30*b,l⟩,[Zei s],To.of [] ⟨⟨.agg ⟨.refl _,.lst hnt rfl,trivial⟩,trivial⟩,.refl _,trivial⟩,⟨30*b,l⟩,_,⟨by dsimp only;omega,by dsimp only;omega,hpw,fun c hc=>by have:=hat c hc;dsimp only;omega,hby⟩,rfl,rfl⟩
end Go.Proofs.Ytjgpiclllehgmaa.Vm
namespace Go.Proofs.Ytjgpiclllehgmaa.Vm
attribute [local irreducible] Dn
open Go Go.Proofs Sp
set_option maxRecDepth 100000
set_option maxHeartbeats 1600000
structure Zn4 (n:Nat) (L:List Int):Prop where
 len:L.length=n
 bd:∀i,i<n→0≤L.getD i 0∧L.getD i 0<n
 inj:∀i j,i<n→j<n→L.getD i 0=L.getD j 0→i=j
theorem ZfO {L:List Int} {i k:Nat} (hi:i<L.length) (hk:k<L.length) (x:Nat):((L.set i (L.getD k 0)).set k (L.getD i 0)).getD x 0=L.getD (if x=k then i else if x=i then k else x) 0:=by
 simp only[List.getD_eq_getElem?_getD,List.getElem?_set,List.length_set]
 by_cases h1:x=k
 ·subst h1
  simp[hk]
 ·rw[if_neg (Ne.symm h1),if_neg h1]
  by_cases h2:x=i
  ·subst h2
   simp[hi]
  ·rw[if_neg (Ne.symm h2),if_neg h2]
theorem Zn4.swap {n:Nat} {L:List Int} (h:Zn4 n L) {i k:Nat} (hi:i<n) (hk:k<n):Zn4 n ((L.set i (L.getD k 0)).set k (L.getD i 0)):=by
 have hl:=h.len
 refine⟨by simpa using hl,fun x hx=>?_,fun x y hx hy e=>?_⟩
 ·rw[ZfO (by omega) (by omega)]
  exact h.bd _ (by split<;>(try split)<;>omega)
 ·rw[ZfO (by omega) (by omega),ZfO (by omega) (by omega)]at e
  have:=h.inj _ _ (by split<;>(try split)<;>omega) (by split<;>(try split)<;>omega) e
  split at this<;>split at this<;>(try split at this)<;>(try split at this)<;>omega
theorem Ztp {nt:(α:Type)→α→List α→Int→α} (hnt:∀(α:Type) (d:α) (l:List α) (i:Int),nt α d l i=l.getD i.toNat d) {L:List Int} {i x:Nat} {v:Int} (hi:i<L.length):(bif decide ((x:Int)=0+(i:Int))then v else nt Int 0 L (x:Int))=nt Int 0 (L.set i v) (x:Int):=by
 rw[hnt,hnt]
 simp only[Int.toNat_natCast,List.getD_eq_getElem?_getD,List.getElem?_set]
 by_cases h:i=x
 ·subst h
  rw[decide_eq_true (by omega)]
  simp[hi]
 ·rw[decide_eq_false (by omega),if_neg h]
  rfl
theorem ZqM {nt:(α:Type)→α→List α→Int→α} (hnt:∀(α:Type) (d:α) (l:List α) (i:Int),nt α d l i=l.getD i.toNat d) {L:List Int} {i k x:Nat} {p q:Int} (hi:i<L.length) (hk:k<L.length) (hp:p=i) (hq:q=k):
  (bif decide ((x:Int)=0+q)then nt Int 0 L (0+p)else bif decide ((x:Int)=0+p)then nt Int 0 L (0+q)else nt Int 0 L (x:Int))=nt Int 0 ((L.set i (L.getD k 0)).set k (L.getD i 0)) (x:Int):=by
 subst hp hq
 simp only[hnt,Int.toNat_natCast,Int.zero_add]
 rw[ZfO hi hk]
 by_cases h1:x=k
 ·rw[decide_eq_true (by omega),if_pos h1];rfl
 ·rw[decide_eq_false (by omega),if_neg h1]
  by_cases h2:x=i
  ·rw[decide_eq_true (by omega),if_pos h2];rfl
  ·rw[decide_eq_false (by omega),if_neg h2];rfl
theorem Zyu (s:Int) (n:Nat) (hn:n≤1000):SC (fun _=>Try.prog) 10 [.ptr 0 0,.int .i64 fun _=>(n:Int)] [Zei s] fun v h=>∃(L:List Int) (s':Int),Zn4 n L∧v=lst 1 Ze3 0 L∧h=[Zei s']:=by
 obtain⟨nt,hnt⟩:=Zat
 obtain⟨Z,hZ1,hZ2⟩:∃Z:List Int,Z.length=n∧∀j:Nat,Z.getD j 0=0:=⟨List.replicate n 0,by simp,fun j=>by simp only[List.getD_eq_getElem?_getD,List.getElem?_replicate];split<;>rfl⟩
 refine SC.less (con Try.func10 (body:=Zal Try.f10) rfl (by decide+kernel) ?_)
 refine vS ?_
 simp only[show¬((n:Int)<0)from by omega,if_false]
 refine Chk.mk (okc) ?_
 refine Za2 false false [] [0,1,5,6] [] (fun(⟨i,L⟩:Nat×List Int)=>[(6,.int .i64 fun _=>i)]) (fun⟨i,L⟩=>[(1,.arr 1 (fun _=>(n:Int)) (fun e=>Ze3 (nt Int 0 L (e ()))))])
  (fun⟨i,L⟩=>i≤n∧L.length=n∧∀j,j<i→L.getD j 0=(j:Int)) (fun i=>n-i.1+0) (0,Z) ⟨Nat.zero_le _,hZ1,fun j hj=>by omega⟩ ?_ ?_
 ·refine toR ?_
  refine .arr rfl fun x hx=>?_
  show [AV.int .i64 fun _=>_]=[AV.int .i64 fun _=>_]
  refine congrArg (fun y:Int=>[AV.int .i64 fun _=>y]) ?_
  rw[hnt]
  exact(hZ2 _).symm
 rintro⟨i,L⟩ ⟨hi,hL,hj⟩
 refine wS ?_
 refine⟨fun hb=>?_,fun hb=>?_⟩
 ·simp only[decide_eq_true_eq]at hb
  have hil:i<L.length:=by omega
  refine wS ?_
  refine⟨(i+1,L.set i (i:Int)),⟨by omega,by simpa using hL,fun j hj'=>?_⟩,by show n-(i+1)+0<n-i+0;omega,?_⟩
  ·simp only[List.getD_eq_getElem?_getD,List.getElem?_set]
   by_cases h:i=j
   ·subst h
    rw[if_pos rfl,if_pos (by omega)]
    rfl
   ·rw[if_neg h,←List.getD_eq_getElem?_getD];exact hj j (by omega)
  refine toR ?_
  refine .arr rfl fun x hx=>?_
  show [AV.int .i64 fun _=>_]=[AV.int .i64 fun _=>_]
  refine congrArg (fun y:Int=>[AV.int .i64 fun _=>y]) ?_
  exact Ztp hnt hil
 ·simp only[decide_eq_false_iff_not]at hb
  have hD:Zn4 n L:=⟨hL,fun j hj'=>by rw[hj j (by omega)];omega,fun j k h1 h2 e=>by rw[hj j (by omega),hj k (by omega)]at e;omega⟩
  refine wS ?_
  clear hj hL
  refine Za2 false false [] [0,5,7] [] (fun(⟨i,L,s⟩:Nat×List Int×Int)=>[(7,.int .i64 fun _=>(i:Int)-1)]) (fun⟨i,L,s⟩=>[(0,Zei s),(1,.arr 1 (fun _=>(n:Int)) (fun e=>Ze3 (nt Int 0 L (e ()))))])
   (fun⟨i,L,s⟩=>i≤n∧Zn4 n L) (fun i=>i.1+0) (n,L,s) ⟨Nat.le_refl _,hD⟩ ?_ ?_
  ·exact toT
  rintro⟨i,L,s⟩ ⟨hi,hD⟩
  have hL:=hD.len
  refine wS ?_
  refine⟨fun hb=>?_,fun hb=>?_⟩
  ·simp only[decide_eq_true_eq]at hb
   refine wS ?_
   refine ZaY [0] (c17 s ((i:Int)-1) (by omega)) (by decide) (by simp) (by first|rfl|(simp only[Zae,Zaf,Zaa hnt];rfl)) (by first|rfl|(simp only[Zae,Zaf,Zaa hnt];rfl)) fun r h₂ hp=>?_
   (try simp only[Zae,Zaf,Zaa hnt]at hp)
   obtain⟨x,s',hx,rfl,rfl⟩:=hp
   refine wS ?_
   obtain⟨k,rfl⟩:∃k:Nat,x=k:=⟨x.toNat,by omega⟩
   obtain⟨j,rfl⟩:∃j,i=j+1:=⟨i-1,by omega⟩
   refine⟨(j,(L.set j (L.getD k 0)).set k (L.getD j 0),s'),⟨by omega,hD.swap (by omega) (by omega)⟩,by show j+0<j+1+0;omega,?_⟩
   have hjl:j<L.length:=by omega
   have hkl:k<L.length:=by omega
   refine toR ?_
   refine .arr rfl fun x hx=>?_
   show [AV.int .i64 fun _=>_]=[AV.int .i64 fun _=>_]
   refine congrArg (fun y:Int=>[AV.int .i64 fun _=>y]) ?_
   exact ZqM hnt hjl hkl (by omega) rfl
  ·refine wS ?_
   refine⟨lst 1 Ze3 0 L,[Zei s],?_,L,s,hD,rfl,rfl⟩
   rw[Zaa hnt]
   refine toR ?_
   refine .none (by omega) fun x hx=>?_
   show Ze3 (nt Int 0 L (0+(x:Int)))=Ze3 (nt Int 0 L (x:Int))
   rw[Int.zero_add]
structure ZnW (zones:Int) (stations:Nat) (number:Int) (t:Train):Prop where
 number:t.number=number
 days:1≤t.days∧t.days≤127
 len:2≤t.stops.length∧t.stops.length≤4∧t.stops.length≤stations
 stop:∀s∈t.stops,(0≤s.station∧s.station<stations)∧(0≤s.zone∧s.zone<zones)∧0≤s.arrive∧s.arrive≤s.depart∧s.depart≤4319
 nodup:t.stops.Pairwise fun a b=>a.station≠b.station
end Go.Proofs.Ytjgpiclllehgmaa.Vm
namespace Go.Proofs.Ytjgpiclllehgmaa.Vm
attribute [local irreducible] Dn
open Go Go.Proofs Sp
set_option maxRecDepth 100000
set_option maxHeartbeats 4000000
theorem Zuv.join3 {A B:Prop} {α β γ:Type} {G P:α→β→γ→Prop} (hA:(∀a c d,P a c d→G a c d)→A) (hB:(∀a c d,P a c d→G a c d)→B) (hM:∀a c d,P a c d→G a c d):Zuv A B:=⟨hA hM,hB hM⟩
structure ZpU (st:Nat) (number:Int) (t:Train):Prop where
 made:ZnW 1 st number t
 days:t.days=127
 late:∀s∈t.stops,s.depart≤1000
 asc:∀k,k+1<t.stops.length→(t.stops.getD k default).depart<(t.stops.getD (k+1) default).arrive
theorem Zya (s number:Int) (st:Nat) (hs:2≤st∧st≤10):SC (fun _=>Try.prog) 17 [.ptr 0 0,.int .i64 fun _=>number,.int .i64 fun _=>(st:Int)] [Zei s] fun v h=>∃(t:Train) (s':Int),ZpU st number t∧v= .agg (encTrain t)∧h=[Zei s']:=by
 obtain⟨nt,hnt⟩:=Zat
 refine SC.less (con Try.func17 (body:=Zal Try.f17) rfl (by decide+kernel) ?_)
 refine wS ?_
 refine ZaY [0] (c17 s 90 (by omega)) (by decide) (by simp) (by first|rfl|(simp only[Zae,Zaf,Zaa hnt];rfl)) (by first|rfl|(simp only[Zae,Zaf,Zaa hnt];rfl)) fun r h₂ hp=>?_
 (try simp only[Zae,Zaf,Zaa hnt]at hp)
 obtain⟨now,s1,hnow,rfl,rfl⟩:=hp
 refine wS ?_
 refine ZaY [0] (Zyu s1 st (by omega)) (by decide) (by simp) (by first|rfl|(simp only[Zae,Zaf,Zaa hnt];rfl)) (by first|rfl|(simp only[Zae,Zaf,Zaa hnt];rfl)) fun r h₂ hp=>?_
 (try simp only[Zae,Zaf,Zaa hnt]at hp)
 obtain⟨L,s4,hL,rfl,rfl⟩:=hp
 refine wS ?_
 have hmn:2≤(if(st:Int)<4 then(st:Int)else 4)∧(if(st:Int)<4 then(st:Int)else 4)≤4∧(if(st:Int)<4 then(st:Int)else 4)≤st:=by split<;>omega
 generalize (if(st:Int)<4 then(st:Int)else 4)=mn at*
 refine ZaY [0] (c22 s4 2 mn (by omega) (by omega)) (by decide) (by simp) (by first|rfl|(simp only[Zae,Zaf,Zaa hnt];rfl)) (by first|rfl|(simp only[Zae,Zaf,Zaa hnt];rfl)) fun r h₂ hp=>?_
 (try simp only[Zae,Zaf,Zaa hnt]at hp)
 obtain⟨m,s5,hm,rfl,rfl⟩:=hp
 refine wS ?_
 obtain⟨m,rfl⟩:∃k:Nat,m=k:=⟨m.toNat,by omega⟩
 refine Za2 false false [] [0,6,7,8,9,10] [.tok 4 fun _=>0] (fun(⟨i,now,s,out⟩:Nat×Int×Int×List Stop)=>[(8,.int .i64 fun _=>60+now),(10,.int .i64 fun _=>i)])
  (fun⟨i,now,s,out⟩=>[(0,Zei s),(2,.cells [.int .i64 fun _=>number,.int .i64 fun _=>127,.isl 4 (fun _=>(out.length:Int)) (fun e=>ZbJ (nt Stop default out (e ()))) (.own 3)]),(3,.tok 4 fun _=>(out.length:Int))])
  (fun⟨i,now,s,out⟩=>i≤m∧out.length+i=m∧(0≤now∧now≤90+70*(out.length:Int))∧(∀x∈out,(0≤x.station∧x.station<st)∧(0≤x.zone∧x.zone<1)∧0≤x.arrive∧x.arrive≤x.depart∧x.depart<60+now)∧out.Pairwise (fun a b=>a.station≠b.station)∧(∀x∈out,∃j,i≤j∧j<m∧x.station=L.getD j 0)∧∀k,k+1<out.length→(out.getD k default).depart<(out.getD (k+1) default).arrive) (fun i=>i.1+0) (m,now,s5,[]) ⟨Nat.le_refl _,by simp,by simp;omega,by simp,.nil,by simp,by simp⟩ ?_ ?_
 ·(refine To.of [(4,false)] ?_;cbv;(try simp only[nc]);(repeat' (first|exact trivial|exact WkN.refl _|exact WkB.refl _|refine⟨?_,?_⟩|refine WkB.cells ?_|refine WkN.agg ?_|refine WkN.tup ?_));(all_goals (first|exact okt|skip)))
 rintro⟨i,now,s,out⟩ ⟨hi,hlen,hnow,hall,hpw,hst,hasc⟩
 refine wS ?_
 refine⟨fun hb=>?_,fun hb=>?_⟩
 ·simp only[decide_eq_true_eq]at hb
  have hLi:=hL.bd (i-1) (by omega)
  have hLn:nt Int 0 L ((i:Int)-1)=L.getD (i-1) 0:=by rw[hnt];congr 1;omega
  have hLl:=hL.len
  refine wS ?_
  apply Zuv.join3 (P:=fun(x y s8:Int)=>0≤y∧y≤20)
  ·intro M
   refine ZaY [0] (c17 s 20 (by omega)) (by decide) (by simp) (by first|rfl|(simp only[Zae,Zaf,Zaa hnt];rfl)) (by first|rfl|(simp only[Zae,Zaf,Zaa hnt];rfl)) fun r h₂ hp=>?_
   (try simp only[Zae,Zaf,Zaa hnt]at hp)
   obtain⟨x,s7,hx,rfl,rfl⟩:=hp
   refine wS ?_
   refine⟨?_,?_⟩
   ·skip
    refine ZaY [0] (Zr8 s7 [0,x] (by simp)) (by decide) (by simp) (by first|rfl|(simp only[Zae,Zaf,Zaa hnt];rfl)) (by first|rfl|(simp only[Zae,Zaf,Zaa hnt];rfl)) fun r h₂ hp=>?_
    (try simp only[Zae,Zaf,Zaa hnt]at hp)
    obtain⟨y,s8,hy,rfl,rfl⟩:=hp
    have hy:0≤y∧y≤20:=by simp at hy;omega
    refine wS ?_
    exact M x y s8 hy
   ·refine wS ?_
    refine ZaY [0] (Zr8 s7 [0,x] (by simp)) (by decide) (by simp) (by first|rfl|(simp only[Zae,Zaf,Zaa hnt];rfl)) (by first|rfl|(simp only[Zae,Zaf,Zaa hnt];rfl)) fun r h₂ hp=>?_
    (try simp only[Zae,Zaf,Zaa hnt]at hp)
    obtain⟨y,s8,hy,rfl,rfl⟩:=hp
    have hy:0≤y∧y≤20:=by simp at hy;omega
    refine wS ?_
    exact M x y s8 hy
  ·intro M
   refine wS ?_
   refine ZaY [0] (c17 s 20 (by omega)) (by decide) (by simp) (by first|rfl|(simp only[Zae,Zaf,Zaa hnt];rfl)) (by first|rfl|(simp only[Zae,Zaf,Zaa hnt];rfl)) fun r h₂ hp=>?_
   (try simp only[Zae,Zaf,Zaa hnt]at hp)
   obtain⟨x,s7,hx,rfl,rfl⟩:=hp
   refine wS ?_
   refine ZaY [0] (Zr8 s7 [0,x] (by simp)) (by decide) (by simp) (by first|rfl|(simp only[Zae,Zaf,Zaa hnt];rfl)) (by first|rfl|(simp only[Zae,Zaf,Zaa hnt];rfl)) fun r h₂ hp=>?_
   (try simp only[Zae,Zaf,Zaa hnt]at hp)
   obtain⟨y,s8,hy,rfl,rfl⟩:=hp
   have hy:0≤y∧y≤20:=by simp at hy;omega
   refine wS ?_
   refine SC.mono (M x y s8 hy) fun r h' hr=>?_
   revert hr
   generalize ZdH _ _ _ _ _ _=z
   cases z with
   |none=>exact id
   |some z=>exact fun h=>ZvO (by decide) h
  intro x y s8 hy
  rw[hLn]
  refine ZaY [0] (c22 s8 10 50 (by omega) (by omega)) (by decide) (by simp) (by first|rfl|(simp only[Zae,Zaf,Zaa hnt];rfl)) (by first|rfl|(simp only[Zae,Zaf,Zaa hnt];rfl)) fun r h₂ hp=>?_
  (try simp only[Zae,Zaf,Zaa hnt]at hp)
  obtain⟨q,s9,hq,rfl,rfl⟩:=hp
  refine wS ?_
  obtain⟨j,rfl⟩:∃j,i=j+1:=⟨i-1,by omega⟩
  refine⟨(j,now+y+q,s9,out++[⟨L.getD j 0,0,60+now,60+now+y⟩]),⟨by omega,by simp only[List.length_append,List.length_cons,List.length_nil];omega,by simp only[List.length_append,List.length_cons,List.length_nil];omega,?_,?_,?_,?_⟩,by show j+0<j+1+0;omega,?_⟩
  ·intro x hx
   rcases List.mem_append.1 hx with hx|hx
   ·have:=hall x hx
    refine⟨this.1,this.2.1,this.2.2.1,this.2.2.2.1,?_⟩
    show x.depart<60+(now+y+q)
    omega
   ·simp only[List.mem_singleton]at hx
    subst hx
    simp only[Nat.add_sub_cancel]at hLi
    dsimp only
    omega
  ·refine List.pairwise_append.2 ⟨hpw,List.pairwise_singleton _ _,fun c hc e he=>?_⟩
   simp only[List.mem_singleton]at he
   subst he
   obtain⟨k,hk1,hk2,hk3⟩:=hst c hc
   dsimp only
   rw[hk3]
   intro e
   have:=hL.inj _ _ (by omega) (by omega) e
   omega
  ·intro x hx
   rcases List.mem_append.1 hx with hx|hx
   ·obtain⟨k,hk1,hk2,hk3⟩:=hst x hx
    exact⟨k,by omega,hk2,hk3⟩
   ·simp only[List.mem_singleton]at hx
    subst hx
    exact⟨j,Nat.le_refl _,by omega,rfl⟩
  ·intro k hk
   simp only[List.length_append,List.length_cons,List.length_nil]at hk
   by_cases hk2:k+1<out.length
   ·simp only[List.getD_eq_getElem?_getD,List.getElem?_append_left hk2,List.getElem?_append_left (show k<out.length by omega)]
    simp only[←List.getD_eq_getElem?_getD]
    exact hasc k hk2
   ·have hk3:k+1=out.length:=by omega
    have hm:out.getD k default∈out:=by rw[List.getD_eq_getElem?_getD,List.getElem?_eq_getElem (by omega)];exact List.getElem_mem _
    have:=hall _ hm
    have e2:(out++[(⟨L.getD j 0,0,60+now,60+now+y⟩:Stop)]).getD (k+1) default=⟨L.getD j 0,0,60+now,60+now+y⟩:=by rw[hk3];simp[List.getD_eq_getElem?_getD]
    have e3:(out++[(⟨L.getD j 0,0,60+now,60+now+y⟩:Stop)]).getD k default=out.getD k default:=by simp only[List.getD_eq_getElem?_getD,List.getElem?_append_left (show k<out.length by omega)]
    rw[e2,e3]
    exact this.2.2.2.2
  ·exact toT
 ·simp only[decide_eq_false_iff_not]at hb
  refine wS ?_
  refine⟨.agg (encTrain ⟨number,127,out⟩),[Zei s],?_,⟨number,127,out⟩,s,⟨⟨rfl,by dsimp only;omega,by dsimp only;omega,fun x hx=>?_,hpw⟩,rfl,fun x hx=>?_,hasc⟩,rfl,rfl⟩
  ·unfold encTrain
   simp only[Zaa hnt]
   exact toT
  ·have:=hall x hx
   exact⟨this.1,this.2.1,this.2.2.1,this.2.2.2.1,by omega⟩
  ·have:=hall x hx
   omega
theorem Zx9 (l:List Sp.Zck) (w:Sp.Zck) (hl:l.length≤1000000):SC (fun _=>Try.prog) 21 [lst 4 Zb2 default l,.agg (Zb2 w)] [] fun v h=>v= .bool (fun _=>l.any fun x=>decide (x.feeder=w.feeder∧x.train=w.train∧x.station=w.station))∧h=[]:=by
 obtain⟨nt,hnt⟩:=Zat
 generalize hE:(l.any fun x=>decide (x.feeder=w.feeder∧x.train=w.train∧x.station=w.station))=E
 unfold Zb2
 simp only[Zaa hnt]
 refine con Try.func21 (body:=Zal Try.f21) rfl (by decide+kernel) ?_
 refine wS ?_
 refine Za2 false false [] [0,3,5] [] (fun(i:Nat)=>[(5,.int .i64 fun _=>i)]) (fun _=>[]) (fun i=>i≤l.length∧(l.drop i).any (fun x=>decide (x.feeder=w.feeder∧x.train=w.train∧x.station=w.station))=E) (fun i=>l.length-i+0) 0 ⟨Nat.zero_le _,hE⟩ ?_ ?_
 ·exact toT
 rintro i ⟨hi,hp⟩
 refine wS ?_
 refine⟨fun hb=>?_,fun hb=>?_⟩
 ·have hb:=of_decide_eq_true hb
  have hd:=Zbh (d:=default) hnt (l:=l) (i:=i) (by omega)
  rw[hd,List.any_cons]at hp
  generalize hx:nt Sp.Zck default l i=x at*
  refine vS ?_
  try simp only[hx]
  try refine Chk.mk (okc) ?_
  have he:(bif (bif x.feeder==w.feeder then x.train==w.train else false)then x.station==w.station else false)=decide (x.feeder=w.feeder∧x.train=w.train∧x.station=w.station):=by
   by_cases e1:x.feeder=w.feeder<;>by_cases e2:x.train=w.train<;>by_cases e3:x.station=w.station<;>simp[e1,e2,e3]
  refine⟨fun h9=>?_,fun h9=>?_⟩
  ·rw[he]at h9
   rw[h9,Bool.true_or]at hp
   subst hp
   (cbv;(try simp only[nc]at*);(try refine Chk.mk (okc) ?_))
   (try first|exact⟨rfl,trivial⟩|exact⟨trivial,trivial⟩)
  ·rw[he]at h9
   rw[h9,Bool.false_or]at hp
   refine wS ?_
   refine⟨i+1,⟨by omega,hp⟩,by show l.length-(i+1)+0<l.length-i+0;omega,?_⟩
   exact toT
 ·have hb:=of_decide_eq_false hb
  rw[List.drop_eq_nil_of_le (by omega),List.any_nil]at hp
  subst hp
  (cbv;(try simp only[nc]at*);(try refine Chk.mk (okc) ?_))
  (try first|exact⟨rfl,trivial⟩|exact⟨trivial,trivial⟩)
end Go.Proofs.Ytjgpiclllehgmaa.Vm
namespace Go.Proofs.Ytjgpiclllehgmaa.Vm
open Go Go.Proofs Sp
set_option maxRecDepth 100000
set_option maxHeartbeats 1600000
theorem ZnW.with {zones n m:Int} {t u:Train} (ht:ZnW zones 4 n t) (hu:ZnW zones 4 m u):ZnW zones 4 n ⟨t.number,t.days,u.stops⟩:=⟨ht.number,ht.days,hu.len,hu.stop,hu.nodup⟩
end Go.Proofs.Ytjgpiclllehgmaa.Vm
namespace Go.Proofs.Ytjgpiclllehgmaa.Vm
attribute [local irreducible] Dn
open Go Go.Proofs Sp
set_option maxRecDepth 100000
set_option maxHeartbeats 800000
theorem c45 (l:List Int) (n:Int) (hl:l.length≤1000000):SC (fun _=>Try.prog) 8 [lst 1 Ze3 0 l,.int .i64 fun _=>n] [] fun r h=>r= .int .i64 (fun _=>Zak (fun x=>decide (x=n)) 0 l)∧h=[]:=by
 obtain⟨nt,hnt⟩:=Zat
 rw[Zaa hnt]
 refine con Try.func8 (body:=Zal Try.f8) rfl (by decide+kernel) ?_
 refine wS ?_
 refine Znt [0,1,5] (fun i:Nat=>mkS 19 [(0,.isl 1 (fun _=>(l.length:Int)) (fun e=>Ze3 (nt Int 0 l (e ()))) .none),(1,.int .i64 fun _=>n),(5,.int .i64 fun _=>(i:Int))]) (fun _=>[])
  (fun i=>i≤l.length∧Zak (fun x=>decide (x=n)) 0 l=Zak (fun x=>decide (x=n)) i (l.drop i)) (fun i=>l.length-i+0) 0 0 (fun _=>rfl) ⟨Nat.zero_le _,by simp⟩ (To.of [] ?_) ?_
 ·cbv
  exact⟨⟨.refl _,.refl _,.int rfl,trivial⟩,trivial⟩
 rintro i ⟨hi,hp⟩
 refine wS ?_
 refine⟨fun hb=>?_,fun hb=>?_⟩
 ·simp only[decide_eq_true_eq]at hb
  have hil:i<l.length:=by omega
  have hd:=Zbh (d:=(0:Int)) hnt hil
  refine wS ?_
  obtain⟨p,hc⟩:∃p,nt Int 0 l (i:Int)=p:=⟨_,rfl⟩
  rw[hc]at hd
  rw[hc]
  rw[hd,Zak]at hp
  refine⟨fun hb=>?_,fun hb=>?_⟩
  ·simp only[beq_iff_eq]at hb
   rw[if_pos (by simpa using hb)]at hp
   refine wS ?_
   exact⟨by rw[hp],trivial⟩
  ·simp only[beq_eq_false_iff_ne,ne_eq]at hb
   rw[if_neg (by simpa using hb)]at hp
   refine wS ?_
   refine⟨i+1,⟨by omega,hp⟩,by show l.length-(i+1)+0<l.length-i+0;omega,To.of [] ?_⟩
   cbv
   exact⟨⟨.refl _,.refl _,.int rfl,trivial⟩,trivial⟩
 ·simp only[decide_eq_false_iff_not]at hb
  have:l.drop i=[]:=List.drop_eq_nil_of_le (by omega)
  rw[this,Zak]at hp
  refine wS ?_
  exact⟨by rw[hp],trivial⟩
theorem c39 (a b:List Int) (ha:a.length≤1000000000):SC (fun _=>Try.prog) 32 [lst 1 Ze3 0 a,lst 1 Ze3 0 b] [] fun r h=>r= .bool (fun _=>decide (a=b))∧h=[]:=by
 obtain⟨nt,hnt⟩:=Zat
 rw[Zaa hnt,Zaa hnt]
 refine con Try.func32 (body:=Zal Try.f32) rfl (by decide+kernel) ?_
 refine wS ?_
 refine⟨fun hb=>?_,fun hb=>?_⟩
 ·simp only[bne_iff_ne,ne_eq]at hb
  refine wS ?_
  refine⟨?_,trivial⟩
  rw[decide_eq_false (fun h=>hb (by rw[h]))]
 simp only[bne_eq_false_iff_eq]at hb
 refine wS ?_
 refine Znt [0,1,5] (fun i:Nat=>mkS 26 [(0,.isl 1 (fun _=>(a.length:Int)) (fun e=>Ze3 (nt Int 0 a (e ()))) .none),(1,.isl 1 (fun _=>(b.length:Int)) (fun e=>Ze3 (nt Int 0 b (e ()))) .none),(5,.int .i64 fun _=>(i:Int))]) (fun _=>[])
  (fun i=>i≤a.length∧(a=b↔a.drop i=b.drop i)) (fun i=>a.length-i+0) 0 0 (fun _=>rfl) ⟨Nat.zero_le _,by simp⟩ (To.of [] ?_) ?_
 ·cbv
  exact⟨⟨.refl _,.refl _,.int rfl,trivial⟩,trivial⟩
 rintro i ⟨hi,hp⟩
 refine wS ?_
 refine⟨fun hb'=>?_,fun hb'=>?_⟩
 ·simp only[decide_eq_true_eq]at hb'
  have hd:=Zbh (d:=(0:Int)) hnt (l:=a) (i:=i) (by omega)
  have hd':=Zbh (d:=(0:Int)) hnt (l:=b) (i:=i) (by omega)
  rw[hd,hd']at hp
  refine wS ?_
  refine⟨fun hb''=>?_,fun hb''=>?_⟩
  ·simp only[bne_iff_ne,ne_eq]at hb''
   refine wS ?_
   exact⟨by rw[decide_eq_false (fun h=>hb'' (List.cons.inj (hp.1 h)).1)],trivial⟩
  ·simp only[bne_eq_false_iff_eq]at hb''
   refine wS ?_
   refine⟨i+1,⟨by omega,by rw[hp,hb''];simp⟩,by show a.length-(i+1)+0<a.length-i+0;omega,To.of [] ?_⟩
   cbv
   exact⟨⟨.refl _,.refl _,.int rfl,trivial⟩,trivial⟩
 ·simp only[decide_eq_false_iff_not]at hb'
  have h1:a.drop i=[]:=List.drop_eq_nil_of_le (by omega)
  have h2:b.drop i=[]:=List.drop_eq_nil_of_le (by omega)
  rw[h1,h2]at hp
  have hp:a=b:=hp.2 rfl
  subst hp
  refine wS ?_
  exact⟨by simp,trivial⟩
end Go.Proofs.Ytjgpiclllehgmaa.Vm
namespace Go.Proofs.Ytjgpiclllehgmaa.Vm
open Go Go.Proofs Sp
set_option maxRecDepth 100000
end Go.Proofs.Ytjgpiclllehgmaa.Vm
namespace Go.Proofs.Ytjgpiclllehgmaa.Vm
open Go Go.Proofs Sp
set_option maxRecDepth 100000
def sl (s:Nat) (rows:List (List AV)):AV:=.isl s (fun _=>(rows.length:Int)) (fun e=>rows.getD (e ()).toNat (rows.headD [])) .none
end Go.Proofs.Ytjgpiclllehgmaa.Vm
namespace Go.Proofs.Ytjgpiclllehgmaa.Vm
open Go Go.Proofs Sp
set_option maxRecDepth 100000
end Go.Proofs.Ytjgpiclllehgmaa.Vm
namespace Go.Proofs.Ytjgpiclllehgmaa.Vm
open Go Go.Proofs Sp
set_option maxRecDepth 100000
set_option maxHeartbeats 4000000
end Go.Proofs.Ytjgpiclllehgmaa.Vm
namespace Go.Proofs.Ytjgpiclllehgmaa.Vm
open Go Go.Proofs Sp
set_option maxRecDepth 100000
set_option maxHeartbeats 4000000
end Go.Proofs.Ytjgpiclllehgmaa.Vm
namespace Go.Proofs.Ytjgpiclllehgmaa.Vm
open Go Go.Proofs Sp
set_option maxRecDepth 100000
set_option maxHeartbeats 800000
end Go.Proofs.Ytjgpiclllehgmaa.Vm
namespace Go.Proofs.Ytjgpiclllehgmaa.Vm
open Sp
end Go.Proofs.Ytjgpiclllehgmaa.Vm
namespace Go.Proofs.Ytjgpiclllehgmaa.Vm
open Sp
end Go.Proofs.Ytjgpiclllehgmaa.Vm
namespace Go.Proofs.Ytjgpiclllehgmaa.Vm
open Go Go.Proofs Sp
set_option maxRecDepth 100000
set_option maxHeartbeats 1600000
theorem nb5 {a b:Bool} (h1:a=true) (h2:b=true):(bif a then b else false)=true:=by rw[h1,h2];rfl
theorem nb6 {a b:Bool} (h1:a=false) (h2:b=false):(bif a then true else b)=false:=by rw[h1,h2];rfl
end Go.Proofs.Ytjgpiclllehgmaa.Vm
