/- The abstract machine at this program: contracts and loops. -/
import Derived.Test.YtjgpiclllehgmaaGreatTbl
import Derived.Test.YtjgpiclllehgmaaGreatM5
set_option linter.all false
namespace Go.Proofs.YtjgpiclllehgmaaGreat.Vm
open Go Go.Proofs
set_option maxRecDepth 100000
theorem nc (i:Nat):(NatCast.natCast i:Int)=(i:Int):=rfl
theorem QK:ZN []↔True:=⟨fun _=>trivial,fun _=>Xm⟩
theorem Zk8 {x:Cn} {c:Cd}:ZN (x::c)↔x.p∧ZN c:=⟨fun h=>⟨h x (List.mem_cons_self ..),fun q hq=>h q (List.mem_cons_of_mem _ hq)⟩,fun h q hq=>by
 rcases List.mem_cons.1 hq with rfl|hq
 ·exact h.1
 ·exact h.2 q hq⟩
theorem QJ {P:Unit→Prop} {b:Unit→Bool} {ok:b ()=true→P ()} {c:Cd}:ZN (.d P b ok::c)↔P ()∧ZN c:=Zk8
theorem QU {v w:Unit→AV} {c:Cd}:ZN (.e v w::c)↔(v ()=w ()∨Imp (v ()) (w ()))∧ZN c:=Zk8
theorem QI {g:Unit→Bool} {x:Cn} {c:Cd}:ZN (.i g x::c)↔(g ()=true→x.p)∧ZN c:=Zk8
theorem all_cons {x:Cn} {c:Cd} (h1:x.p) (h2:ZN c):ZN (x::c):=Zk8.2 ⟨h1,h2⟩
theorem ZqW (n k:Int):(0≤n→n.tmod k=n%k)∧(n<0→n.tmod k=-((-n)%k)):=by
 refine⟨fun h=>Int.tmod_eq_emod_of_nonneg h,fun h=>?_⟩
 have:=Int.neg_tmod (-n) k
 rw[Int.neg_neg]at this
 rw[this,Int.tmod_eq_emod_of_nonneg (by omega)]
theorem ZS {f:FuncId} {xs ys:List AV} {h:List Zi} {Post Q:AV→List Zi→Prop} (H:SC (fun _=>Tryz.prog) f ys [] Q) (hx:xs.map (Qs false [] h 5)=ys) (hq:∀r h₂,Q r h₂→Post (ren (YK [] h.length) 5 r) (back [] h h₂)):SC (fun _=>Tryz.prog) f xs h Post:=
 SC.frame [] List.nodup_nil (fun i hi=>by cases hi) (by rw[hx];exact H) hq
theorem ZH (l:List Nat) {f:FuncId} {xs ys:List AV} {h hc:List Zi} {Post Q:AV→List Zi→Prop} (H:SC (fun _=>Tryz.prog) f ys hc Q) (hnd:l.Nodup) (hlt:∀i∈l,i<h.length) (hx:xs.map (Qs false l h 5)=ys) (hh:sel false l h=hc) (hq:∀r h₂,Q r h₂→Post (ren (YK l h.length) 5 r) (back l h h₂)):SC (fun _=>Tryz.prog) f xs h Post:=
 SC.frame l hnd hlt (by rw[hx,hh];exact H) hq
theorem Br.isT {b:Unit→Bool} {A B:Unit→Prop} (h:b ()=true) (ha:A ()):Br b A B:=⟨fun _=>ha,fun h'=>(by rw[h]at h';cases h')⟩
theorem Br.isF {b:Unit→Bool} {A B:Unit→Prop} (h:b ()=false) (hb:B ()):Br b A B:=⟨fun h'=>(by rw[h]at h';cases h'),fun _=>hb⟩
theorem Zai {rd:Bool} {x:Code} {Q':Ex→List AV→List Zi→Prop} {s:List AV} {h:List Zi} (H:∀Q:Ex→List AV→List Zi→Prop,(∀e s h,Q' e s h→Q e s h)→LP rd (fun _=>Tryz.prog) x Q s h):LP rd (fun _=>Tryz.prog) x Q' s h:=H Q' fun _ _ _ h=>h
def mkS (n:Nat) (l:List (Nat×AV)):List AV:=l.foldl (fun s p=>s.set p.1 p.2) (List.replicate n .undef)
theorem QP {f:FuncId} {fn:Func} {body:Code} (hf:Tryz.prog.funcs[f]? =some fn) (hb:fn.body=some body) (hn:(fn.name== "runtime.NumGoroutine")=false) {xs:List AV} {h:List Zi} {Post:AV→List Zi→Prop}
  (hW:Dn tb (fun _=>Tryz.prog) (Ze2 tb fn.results.toList h.length Post) 100 .none [.code body] (entry fn.ntmps xs) h []) (hz:zOk h=true:=by rfl):SC (fun _=>Tryz.prog) f xs h Post:=SC.ofD (T:=tb) hT hm hf hb hn hz (fun h=>by cases h) hW
theorem Zux (kp rs:Bool) {f:FuncId} {fn:Func} {body:Code} (hf:Tryz.prog.funcs[f]? =some fn) (hb:fn.body=some body) (hn:(fn.name== "runtime.NumGoroutine")=false) {xs:List AV} {h:List Zi} {Post:AV→List Zi→Prop}
  (hW:Dn (tbF kp rs) (fun _=>Tryz.prog) (Ze2 (tbF kp rs) fn.results.toList h.length Post) 100 .none [.code body] (entry fn.ntmps xs) h []) (hz:zOk h=true:=by rfl):SC (fun _=>Tryz.prog) f xs h Post:=SC.ofD (T:=tbF kp rs) (hTF kp rs) hm hf hb hn hz (fun h=>by cases h) hW
theorem ZiA {x:Code} {Q:Ex→List AV→List Zi→Prop} {s:List AV} {h:List Zi} {ι:Type} (L:List Nat) (st:ι→List AV) (hp:ι→List Zi) (inv:ι→Prop) (μ:ι→Nat) (i:ι) (n:Nat)
  (hn:∀i,(hp i).length=n) (hi:inv i) (hto:To (Vm.keep L s) h (st i) (hp i)) (step:∀i,inv i→Dn tb (fun _=>Tryz.prog) (Zfu L st hp inv μ i n Q) 100 .none [.code x] (st i) (hp i) []):LP false (fun _=>Tryz.prog) x Q s h:=
 LP.indD (T:=tb) hT hm rfl L st hp inv μ i n hn hi hto step
theorem Ztw (kp rs:Bool) {x:Code} {Q:Ex→List AV→List Zi→Prop} {s:List AV} {h:List Zi} {ι:Type} (L:List Nat) (st:ι→List AV) (hp:ι→List Zi) (inv:ι→Prop) (μ:ι→Nat) (i:ι) (n:Nat)
  (hn:∀i,(hp i).length=n) (hi:inv i) (hto:To (Vm.keep L s) h (st i) (hp i)) (step:∀i,inv i→Dn (tbF kp rs) (fun _=>Tryz.prog) (Zfu L st hp inv μ i n Q) 100 .none [.code x] (st i) (hp i) []):LP false (fun _=>Tryz.prog) x Q s h:=
 LP.indD (T:=tbF kp rs) (hTF kp rs) hm rfl L st hp inv μ i n hn hi hto step
def tbX (kp rs:Bool) (cs:List Nat):Tb:={tb with kp,rs,cuts:=cs}
theorem hTX (kp rs:Bool) (cs:List Nat):(tbX kp rs cs).Of ((fun _=>Tryz.prog:Unit→Program) ()):=⟨ZbI,ZbH,ZbJ⟩
def Jp (s:List AV) (l:List (Nat×AV)):List AV:=l.foldl (fun s p=>s.set p.1 p.2) s
def Yy (h:List Zi) (l:List (Nat×Zi)):List Zi:=l.foldl (fun s p=>s.set p.1 p.2) h
theorem ZdW (l:List (Nat×Zi)):∀(h:List Zi),(Yy h l).length=h.length:=by
 induction l with
 |nil=>intro h;rfl
 |cons p l ih=>intro h;show(Yy (h.set p.1 p.2) l).length=_;rw[ih];simp
theorem Zsy (kp rs:Bool) (cs:List Nat) {f:FuncId} {fn:Func} {body:Code} (hf:Tryz.prog.funcs[f]? =some fn) (hb:fn.body=some body) (hn:(fn.name== "runtime.NumGoroutine")=false) {xs:List AV} {h:List Zi} {Post:AV→List Zi→Prop}
  (hW:Dn (tbX kp rs cs) (fun _=>Tryz.prog) (Ze2 (tbX kp rs cs) fn.results.toList h.length Post) 100 .none [.code body] (entry fn.ntmps xs) h []) (hz:zOk h=true:=by rfl):SC (fun _=>Tryz.prog) f xs h Post:=SC.ofD (T:=tbX kp rs cs) (hTX kp rs cs) hm hf hb hn hz (fun h=>by cases h) hW
def tbG (kp rs:Bool) (cs:List Nat):Tb:={tb with kp,rs,cuts:=cs,gr:=true}
theorem hTG (kp rs:Bool) (cs:List Nat):(tbG kp rs cs).Of ((fun _=>Tryz.prog:Unit→Program) ()):=⟨ZbI,ZbH,ZbJ⟩
theorem ZtI (kp rs:Bool) (cs:List Nat) {f:FuncId} {fn:Func} {body:Code} (hf:Tryz.prog.funcs[f]? =some fn) (hb:fn.body=some body) (hn:(fn.name== "runtime.NumGoroutine")=false) {xs:List AV} {h:List Zi} {Post:AV→List Zi→Prop}
  (hW:Dn (tbG kp rs cs) (fun _=>Tryz.prog) (Ze2 (tbG kp rs cs) fn.results.toList h.length Post) 100 .none [.code body] (entry fn.ntmps xs) h []) (hz:zOk h=true:=by rfl):SC (fun _=>Tryz.prog) f xs h Post:=SC.ofD (T:=tbG kp rs cs) (hTG kp rs cs) hm hf hb hn hz (fun h=>by cases h) hW
def tbH (kp rs:Bool) (cs hs:List Nat) (lp:Bool) (nb:Nat):Tb:={tb with kp,rs,cuts:=cs,fl:=true,hand:=hs,lp,nb}
theorem hTH (kp rs:Bool) (cs hs:List Nat) (lp:Bool) (nb:Nat):(tbH kp rs cs hs lp nb).Of ((fun _=>Tryz.prog:Unit→Program) ()):=⟨ZbI,ZbH,ZbJ⟩
theorem Zsz (kp rs:Bool) (cs hs:List Nat) (lp:Bool) (nb:Nat) {f:FuncId} {fn:Func} {body:Code} (hf:Tryz.prog.funcs[f]? =some fn) (hb:fn.body=some body) (hn:(fn.name== "runtime.NumGoroutine")=false) {xs:List AV} {h:List Zi} {Post:AV→List Zi→Prop} (hnb:Z4 h.length nb=true)
  (hW:Dn (tbH kp rs cs hs lp nb) (fun _=>Tryz.prog) (Ze2 (tbH kp rs cs hs lp nb) fn.results.toList h.length Post) 100 .none [.code body] (entry fn.ntmps xs) h []) (hz:zOk h=true:=by rfl):SC (fun _=>Tryz.prog) f xs h Post:=SC.ofD (T:=tbH kp rs cs hs lp nb) (hTH kp rs cs hs lp nb) hm hf hb hn hz (fun _=>Xc hnb) hW
theorem Zd9 (kp rs:Bool) (cs hs:List Nat) (lp:Bool) {nb:Nat} {K:Ex→List AV→List Zi→Cd→Prop} {k:List Item} {s:List AV} {h:List Zi} (hW:Dn (tbH kp rs cs hs lp nb) (fun _=>Tryz.prog) K 100 .none k s h []):HP false nb (fun _=>Tryz.prog) k K s h:=HP.ofD (T:=tbH kp rs cs hs lp nb) (hTH kp rs cs hs lp nb) hm hW
theorem Zbr {rd:Bool} {nb:Nat} {K:Ex→List AV→List Zi→Cd→Prop} {k:List Item} {s s₂:List AV} {h h₂:List Zi} (L:List Nat) (n:Nat) (hn:Z4 n h.length=true) (h0:Z4 nb n=true) (hto:To (trimS n h (Vm.keep L s)) (Vm.sel true (List.range n) h) s₂ h₂) (H:HP rd nb (fun _=>Tryz.prog) k K s₂ h₂):HP rd nb (fun _=>Tryz.prog) k K s h:=
 HP.cut L n (Xc hn) (Xc h0) hto H
theorem ZV (kp rs:Bool) (cs:List Nat) {x:Code} {Q:Ex→List AV→List Zi→Prop} {s:List AV} {h:List Zi} {ι:Type} (L:List Nat) (ex:List Zi) (ch:ι→List (Nat×AV)) (hc:ι→List (Nat×Zi)) (inv:ι→Prop) (μ:ι→Nat) (i:ι)
  (hi:inv i) (hto:To (Vm.keep L s) h (Jp (Vm.keep L s) (ch i)) (Yy (h++ex) (hc i)))
  (step:∀i,inv i→Dn (tbX kp rs cs) (fun _=>Tryz.prog) (Zfu L (fun i=>Jp (Vm.keep L s) (ch i)) (fun i=>Yy (h++ex) (hc i)) inv μ i (h++ex).length Q) 100 .none [.code x] (Jp (Vm.keep L s) (ch i)) (Yy (h++ex) (hc i)) []):LP false (fun _=>Tryz.prog) x Q s h:=
 LP.indD (T:=tbX kp rs cs) (hTX kp rs cs) hm rfl L (fun i=>Jp (Vm.keep L s) (ch i)) (fun i=>Yy (h++ex) (hc i)) inv μ i (h++ex).length (fun _=>ZdW _ _) hi hto step
theorem Zuw (kp rs:Bool) (cs:List Nat) {x:Code} {Q:Ex→List AV→List Zi→Prop} {s:List AV} {h:List Zi} {ι:Type} (L:List Nat) (ch:ι→List (Nat×AV)) (hc:ι→List (Nat×Zi)) (inv:ι→Prop)
  (step:Dn (tbX kp rs cs) (fun _=>Tryz.prog) (Zkk L (fun i=>Jp (Vm.keep L s) (ch i)) (fun i=>Yy h (hc i)) inv h.length Q) 100 .none [.code x] s h [])
  (rest:∀i,inv i→Q .normal (Jp (Vm.keep L s) (ch i)) (Yy h (hc i))):XP false (fun _=>Tryz.prog) x Q s h:=
 XP.byD (T:=tbX kp rs cs) (hTX kp rs cs) hm rfl L (fun i=>Jp (Vm.keep L s) (ch i)) (fun i=>Yy h (hc i)) inv step rest
theorem Zsx (kp rs:Bool) (cs:List Nat) (m0:Nat) {m:Nat} {T:Tb} {K:Ex→List AV→List Zi→Cd→Prop} {x:Code} {k:List Item} {Q:Ex→List AV→List Zi→Prop} {s:List AV} {h:List Zi} {ι:Type} (L:List Nat) (ch:ι→List (Nat×AV)) (hc:ι→List (Nat×Zi)) (inv:ι→Prop)
  (hQ:∀s h,Dn T (fun _=>Tryz.prog) K m .none k s h []→Q .normal s h) (hle:m0≤m)
  (step:Dn (tbX kp rs cs) (fun _=>Tryz.prog) (Zkk L (fun i=>Jp (Vm.keep L s) (ch i)) (fun i=>Yy h (hc i)) inv h.length Q) 100 .none [.code x] s h [])
  (rest:∀i,inv i→Dn T (fun _=>Tryz.prog) K m0 .none k (Jp (Vm.keep L s) (ch i)) (Yy h (hc i)) []):XP false (fun _=>Tryz.prog) x Q s h:=
 Zuw kp rs cs L ch hc inv step fun i hi=>hQ _ _ (Zr2 hle (rest i hi))
theorem nb1 {x:Bool} (h:x=false):(!x)=true:=by rw[h];rfl
theorem nb2 {x:Bool} (h:(!x)=true):x=false:=by cases x;rfl;cases h
theorem nb3 {x:Bool} (h:x=true):(!x)=false:=by rw[h];rfl
theorem nb4 {x:Bool} (h:(!x)=false):x=true:=by cases x;cases h;rfl
theorem J2 {f:FuncId} {xs ys:List AV} {h:List Zi} {Post Q:AV→List Zi→Prop} (H:SC (fun _=>Tryz.prog) f ys [] Q) (hto:To xs h ys h) (hx:ys.map (Qs false [] h 5)=ys) (hq:∀r h₂,Q r h₂→Post (ren (YK [] h.length) 5 r) (back [] h h₂)):SC (fun _=>Tryz.prog) f xs h Post:=
 SC.to hto (ZS H hx hq)
theorem Qa {P:Prop} (h:P:=by(try simp only[nc,QK,QJ,QU,QI,Cn.p,and_true,true_and,decide_eq_true_eq,imp_self,List.length_cons,List.length_nil]);all_goals ((repeat' (first|apply And.intro|intro _))<;>first|omega|rfl|exact Or.inl rfl|assumption|exact nb1 (by assumption)|exact nb2 (by assumption)|exact nb3 (by assumption)|exact nb4 (by assumption)|decide|decide+kernel|(simp[*];done))):P:=h
theorem okd {P:Prop} (h:P:=by(try simp only[nc,QK,QJ,QU,QI,Cn.p,and_true,true_and,decide_eq_true_eq,imp_self,List.length_cons,List.length_nil]);all_goals ((repeat' (first|apply And.intro|intro _))<;>first|omega|rfl|exact Or.inl rfl|assumption|exact nb1 (by assumption)|exact nb2 (by assumption)|exact nb3 (by assumption)|exact nb4 (by assumption)|exact nb5 (by assumption) (by assumption)|exact nb6 (by assumption) (by assumption)|(rename_i h;have h2:=eq_of_beq h;omega)|exact decide_eq_false (by omega)|exact decide_eq_true (by omega)|decide|decide+kernel|(simp[*];done))):P:=h
theorem X9 {P:Prop} (h:P:=by first|exact .int rfl|exact .int (by first|omega|(simp only[nc];omega)|(simp;done))|exact .bool rfl|exact .snoc hnt rfl rfl rfl|exact .snoc hnt rfl rfl (by simp only[encZone,encTrain,Za hnt];rfl)|exact lit_nt hnt _ _ _ _ rfl|exact take_nt hnt (by omega)|exact lstR_wk hnt|exact .tok rfl|exact .tok (by simp)|exact .lst hnt rfl|exact .gsl (by simp)|exact .empty rfl|exact .nilOwn (by decide) (by decide) rfl|exact .nilGar (by decide) (by decide) rfl|exact .gd (by first|assumption|decide|(simp[*];done)) (.refl _)):P:=h
structure HdW (B:Prop):Prop where
 out:B
theorem wS {A B:Prop} (k:B) (h:HdW B→A:=by intro hW;cbv;(try simp only[nc]at*);(try refine Chk.mk (Qa) ?_);exact hW.out):A:=h ⟨k⟩
theorem vS {A B:Prop} (k:B) (h:HdW B→A:=by intro hW;cbv;(try simp only[nc]at*);exact hW.out):A:=h ⟨k⟩
theorem ZI {s s':List AV} {h h':List Zi} (k:To s h s' h':=by(refine To.of [] ?_;cbv;(try simp only[nc]);(repeat' (first|exact trivial|exact ZD.refl _|exact ZL.refl _|refine⟨?_,?_⟩|refine ZL.cells ?_|refine ZD.agg ?_|refine ZD.tup ?_));(all_goals (first|exact X9|skip)))):To s h s' h':=k
theorem toR {s s':List AV} {h h':List Zi} {B:Prop} (k:B) (t:HdW B→To s h s' h':=by intro hW;(refine To.of [] ?_;cbv;(try simp only[nc]);(repeat' (first|exact trivial|exact ZD.refl _|exact ZL.refl _|refine⟨?_,?_⟩|refine ZL.cells ?_|refine ZD.agg ?_|refine ZD.tup ?_));(all_goals (first|exact X9|exact hW.out)))):To s h s' h':=t ⟨k⟩
theorem wZ {A:Prop} (h:A:=by cbv;(try simp only[nc]at*);(try refine Chk.mk (Qa) ?_)):A:=h
end Go.Proofs.YtjgpiclllehgmaaGreat.Vm
