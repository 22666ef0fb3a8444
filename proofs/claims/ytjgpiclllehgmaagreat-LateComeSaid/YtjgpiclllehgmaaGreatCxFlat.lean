/- A goroutine, and another one that it starts and whose answers it takes one by one: first the child to its close, then the rest (canonical order). -/
import Derived.Conc.CrowdComm
import Derived.Conc.QuitsD
import Derived.Test.YtjgpiclllehgmaaGreatCxLeaf
set_option linter.unusedSimpArgs false
set_option linter.unusedVariables false
namespace Go.Proofs.YtjgpiclllehgmaaGreat.Conc1
open Go Go.Conc
abbrev RP:=List Bool→Frame×List Frame
inductive Fc where
 |one (a:Cf)
 |two (ch cell:Nat) (R:RP) (a:Cf)
def Fc.w:Fc→World
 |.one a=>a.w
 |.two _ _ _ a=>a.w
def Fc.re:Fc→(Nat→Question→Nat)→Nat→Fc
 |.one a,t,d=>.one (a.re t d)
 |.two ch cell R a,t,d=>.two ch cell R (a.re t d)
def Zmd (P:Program) (fr:Frame) (cs:List Frame) (fr':Frame) (cfr:Frame):Prop:=
 ∀w,∃es,stepG P true (G fr cs) w= .spawn (G fr' cs) (G cfr []) w es∧∀e∈es,Yc (fun _=>False) e
def ZsS (P:Program) (pr:Nat→Prop) (ch:Nat) (fr:Frame) (cs:List Frame) (v:Bool):Prop:=
 ∃z,∀w,∃es,stepG P false (G fr cs) w= .comm (G fr cs) #[scase ch (.bool v) z] true .send w es∧∀e∈es,Yc pr e
def Zh5 (P:Program) (pr:Nat→Prop) (ch:Nat) (fr:Frame) (cs:List Frame):Prop:=
 mayWake P (G fr cs)=true∧∃(g:Goroutine) (es:Array Event) (n:Nat),(∀w buf s r tm,w.heap[ch]? =some (.chan 0 buf false s r tm)→stepG P false (G fr cs) w= .go g (w.setChan ch 0 buf true s r tm) (es.push ⟨.obj ch,true,true⟩))∧(∀e∈es,Yc pr e∨e=⟨.obj ch,false,true⟩)∧QuitsD P n 0 g
def ZdN (P:Program) (ch cell:Nat) (x y:Frame×List Frame):Prop:=
 ∀w,w.cell? ⟨cell,0,none⟩=some (.chan (some ch))→∃es,stepG P true (G x.1 x.2) w= .go (G y.1 y.2) w es∧∀e∈es,e=⟨.cell ⟨cell,0,none⟩,false,false⟩
inductive ZdM (P:Program) (ch cell:Nat):Nat→Frame×List Frame→Frame×List Frame→Prop
 |zero (x):ZdM P ch cell 0 x x
 |succ {n x y z}:ZdN P ch cell x y→ZdM P ch cell n y z→ZdM P ch cell (n+1) x z
def got (x:Frame×List Frame) (v ok:Bool):Frame×List Frame:=(x.1.finish (.tuple #[.bool v,.bool ok]),x.2)
structure Zo8 (P:Program) (ch cell:Nat) (R:RP) (x:Frame×List Frame):Prop where
 start:∃n,ZdM P ch cell n x (R [])
 recv:∀L w,w.cell? ⟨cell,0,none⟩=some (.chan (some ch))→∃es,stepG P true (G (R L).1 (R L).2) w= .comm (G (R L).1 (R L).2) #[rcase ch (.bool false)] true (.recv true) w es∧∀e∈es,e=⟨.cell ⟨cell,0,none⟩,false,false⟩
 next:∀L v,∃n,ZdM P ch cell n (got (R L) v true) (R (L++[v]))
inductive T (P:Program) (KF:Frame→List Frame→Option (Nat×Nat×RP)):Fc→Fc→Prop
 |own {a b}:Ow P (fun _=>False) a b→T P KF (.one a) (.one b)
 |go {a fr' cfr ch cell R s tm}:KF a.fr a.cs=some (ch,cell,R)→Zmd P a.fr a.cs fr' cfr→Zo8 P ch cell R (fr',a.cs)→a.w.heap[ch]? =some (.chan 0 #[] false s s tm)→a.w.cell? ⟨cell,0,none⟩=some (.chan (some ch))→ch≠cell→
   T P KF (.one a) (.two ch cell R ⟨cfr,[],a.w⟩)
 |cown {a b ch cell R}:Ow P (fun n=>n=cell∨n=ch) a b→T P KF (.two ch cell R a) (.two ch cell R b)
 |send {a ch cell R v buf s r tm}:ZsS P (fun n=>n=cell∨n=ch) ch a.fr a.cs v→a.w.heap[ch]? =some (.chan 0 buf false s r tm)→
   T P KF (.two ch cell R a) (.two ch cell R ⟨a.fr.finish undef,a.cs,a.w.setChan ch 0 (buf.push (.bool v)) false (s+1) r tm⟩)
 |close {a ch cell R L s r tm}:Zh5 P (fun n=>n=cell∨n=ch) ch a.fr a.cs→a.w.heap[ch]? =some (.chan 0 (L.map Value.bool).toArray false s r tm)→
   T P KF (.two ch cell R a) (.one ⟨(got (R L) false false).1,(got (R L) false false).2,a.w.setChan ch 0 #[] true s s tm⟩)
section
variable {P:Program} {KF:Frame→List Frame→Option (Nat×Nat×RP)} {pr:Nat→Prop}
theorem Zfc {w:World} {ch:Nat} {buf buf':Array Value} {c c':Bool} {s s' r r':Nat} {tm tm':Bool} (h:w.heap[ch]? =some (.chan 0 buf c s r tm)) (h':w.heap[ch]? =some (.chan 0 buf' c' s' r' tm')):buf=buf'∧s=s'∧r=r'∧tm=tm':=by
 rw[h]at h'
 simp only[Option.some.injEq,Obj.chan.injEq]at h'
 exact⟨h'.2.1,h'.2.2.2.1,h'.2.2.2.2.1,h'.2.2.2.2.2⟩
theorem ZgS {L L':List Bool} (h:(L.map Value.bool).toArray=(L'.map Value.bool).toArray):L=L':=by
 have h:L.map Value.bool=L'.map Value.bool:=congrArg Array.toList h
 induction L generalizing L' with
 |nil=>cases L'<;>simp_all
 |cons a l ih=>
  cases L' with
  |nil=>simp at h
  |cons b l'=>
   simp only[List.map_cons,List.cons.injEq,Value.bool.injEq]at h
   rw[h.1,ih (congrArg List.toArray h.2) h.2]
theorem T.det {a b b':Fc} (h:T P KF a b) (h':T P KF a b'):b=b':=by
 cases h with
 |own h1=>
  obtain⟨es,e1,_⟩:=h1.step true
  cases h' with
  |own h2=>rw[h1.det h2]
  |go _ h2 _ _ _ _=>
   obtain⟨es',e2,_⟩:=h2 _
   rw[e1]at e2;cases e2
 | @go a fr' cfr ch cell R s tm hk h1 _ _ _ _=>
  obtain⟨es,e1,_⟩:=h1 a.w
  cases h' with
  |own h2=>
   obtain⟨es',e2,_⟩:=h2.step true
   rw[e1]at e2;cases e2
  |go hk' h2 _ _ _ _=>
   obtain⟨es',e2,_⟩:=h2 a.w
   rw[hk]at hk'
   cases hk'
   rw[e1]at e2
   injection e2 with e3 e4
   obtain⟨rfl,_⟩:=ZrZ e4
   rfl
 | @cown a b ch cell R h1=>
  obtain⟨es,e1,he1⟩:=h1.step false
  cases h' with
  |cown h2=>rw[h1.det h2]
  |send h2 _=>
   obtain⟨z,h2⟩:=h2
   obtain⟨es',e2,_⟩:=h2 a.w
   rw[e1]at e2;cases e2
  |close h2 hc=>
   obtain⟨_,g,es',n,h2,_⟩:=h2
   have e2:=h2 a.w _ _ _ _ hc
   rw[e1]at e2
   injection e2 with _ _ e3
   have:=he1 ⟨.obj ch,true,true⟩ (by rw[e3];simp)
   simp[Yc]at this
 | @send a ch cell R v buf s r tm h1 hc1=>
  obtain⟨z,h1⟩:=h1
  obtain⟨es,e1,_⟩:=h1 a.w
  cases h' with
  |cown h2=>
   obtain⟨es',e2,_⟩:=h2.step false
   rw[e1]at e2;cases e2
  | @send _ _ _ _ v' _ _ _ _ h2 hc2=>
   obtain⟨z',h2⟩:=h2
   obtain⟨es',e2,_⟩:=h2 a.w
   rw[e1]at e2
   obtain⟨rfl,rfl,rfl,rfl⟩:=Zfc hc1 hc2
   injection e2 with _ e3
   have:(scase ch (.bool v) z).send=(scase ch (.bool v') z').send:=by
    have:=congrArg (fun x:Array CommCase=>(x[0]?).map (·.send)) e3
    simpa using this
   simp only[scase,Option.some.injEq,Value.bool.injEq]at this
   subst this
   rfl
  |close h2 hc=>
   obtain⟨_,g,es',n,h2,_⟩:=h2
   have e2:=h2 a.w _ _ _ _ hc
   rw[e1]at e2;cases e2
 | @close a ch cell R L s r tm h1 hc1=>
  obtain⟨_,g,es,n,h1,_⟩:=h1
  have e1:=h1 a.w _ _ _ _ hc1
  cases h' with
  |cown h2=>
   obtain⟨es',e2,he2⟩:=h2.step false
   rw[e1]at e2
   injection e2 with _ _ e3
   have:=he2 ⟨.obj ch,true,true⟩ (by rw[←e3];simp)
   simp[Yc]at this
  |send h2 _=>
   obtain⟨z,h2⟩:=h2
   obtain⟨es',e2,_⟩:=h2 a.w
   rw[e1]at e2;cases e2
  |close h2 hc2=>
   obtain⟨e2,rfl,rfl,rfl⟩:=Zfc hc1 hc2
   rw[ZgS e2]
theorem ZkS {Stop:Fc→Prop} (hS:∀a t d,Stop (Fc.re a t d)→Stop a):ZrX (T P KF) Stop Fc.re (fun a=>a.w.tape) (fun a=>a.w.drawn)where
 det:=T.det
 re_re a t d t' d':=by cases a<;>rfl
 re_self a:=by cases a<;>rfl
 tp_re a t d:=by cases a<;>rfl
 dr_re a t d:=by cases a<;>rfl
 tape h:=by
  cases h with
  |own h=>exact h.tape
  |cown h=>exact h.tape
  |_=>rfl
 mono h:=by
  cases h with
  |own h=>exact h.mono
  |cown h=>exact h.mono
  |_=>exact Nat.le_refl _
 loc h t d hag:=by
  cases h with
  |own h=>exact .own (h.loc t d hag)
  |cown h=>exact .cown (h.loc t d hag)
  | @go a fr' cfr ch cell R s tm hk h1 h2 h3 h4 h5=>
   have e:d+(a.w.drawn-a.w.drawn)=d:=by omega
   show T P KF (Fc.one (a.re t d)) (Fc.two ch cell R (Cf.re ⟨_,_,_⟩ t (d+(a.w.drawn-a.w.drawn))))
   rw[e]
   exact .go (a:=a.re t d) hk h1 h2 h3 h4 h5
  | @send a ch cell R v buf s r tm h1 h2=>
   have e:d+(a.w.drawn-a.w.drawn)=d:=by omega
   show T P KF (Fc.two ch cell R (a.re t d)) (Fc.two ch cell R (Cf.re ⟨_,_,_⟩ t (d+(a.w.drawn-a.w.drawn))))
   rw[e]
   exact .send (a:=a.re t d) h1 h2
  | @close a ch cell R L s r tm h1 h2=>
   have e:d+(a.w.drawn-a.w.drawn)=d:=by omega
   show T P KF (Fc.two ch cell R (a.re t d)) (Fc.one (Cf.re ⟨_,_,_⟩ t (d+(a.w.drawn-a.w.drawn))))
   rw[e]
   exact .close (a:=a.re t d) h1 h2
 stop:=hS
end
end Go.Proofs.YtjgpiclllehgmaaGreat.Conc1
