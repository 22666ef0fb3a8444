/- Lemmas. -/
import Derived.Conc.CrowdComm
import Derived.Conc.QuitsD
import Derived.Test.YtjgpiclllehgmaaGreatCxLeaf
set_option linter.all false
open List.cons renaming injEq->cB
open Option.some renaming injEq->aD
namespace Go.Proofs.YtjgpiclllehgmaaGreat
namespace Conc1
open Go Go.Conc
abbrev RP:=List Bool->Frame×List Frame
inductive Fc where
 |one (a:Cf)
 |two (ch cell:Nat) (R:RP) (a:Cf)
def Fc.w:Fc->World
 |.one a=>a.w
 |.two _ _ _ a=>a.w
def Fc.re:Fc->(Nat->Question->Nat)->Nat->Fc
 |.one a,t,d=>.one (a.re t d)
 |.two ch cell R a,t,d=>.two ch cell R (a.re t d)
def Zos (P:Program) (fr:Frame) (cs:List Frame) (A:Frame) (H:Frame):Prop:=
 ∀w,∃es,stepG P true (G fr cs) w= .spawn (G A cs) (G H []) w es/\∀e∈es,YI (λ_=>False) e
def ZvQ (P:Program) (pr:Nat->Prop) (ch:Nat) (fr:Frame) (cs:List Frame) (v:Bool):Prop:=
 ∃z,∀w,∃es,stepG P false (G fr cs) w= .comm (G fr cs) #[scase ch (.bool v) z] true .send w es/\∀e∈es,YI pr e
def ZjF (P:Program) (pr:Nat->Prop) (ch:Nat) (fr:Frame) (cs:List Frame):Prop:=
 mayWake P (G fr cs)=true/\∃(g:Goroutine) (es:Array Event) (n:Nat),(∀w A s r H,w.heap[ch]? =some (.chan 0 A false s r H)->stepG P false (G fr cs) w= .go g (w.setChan ch 0 A true s r H) (es.push ⟨.obj ch,true,true⟩))/\(∀e∈es,YI pr e\/e=⟨.obj ch,false,true⟩)/\QuitsD P n 0 g
def ZeY (P:Program) (ch cell:Nat) (x y:Frame×List Frame):Prop:=
 ∀w,w.cell? ⟨cell,0,none⟩=some (.chan (some ch))->∃es,stepG P true (G x.1 x.2) w= .go (G y.1 y.2) w es/\∀e∈es,e=⟨.cell ⟨cell,0,none⟩,false,false⟩
inductive ZeX (P:Program) (ch cell:Nat):Nat->Frame×List Frame->Frame×List Frame->Prop
 |zero (x):ZeX P ch cell 0 x x
 |succ {n x y z}:ZeY P ch cell x y->ZeX P ch cell n y z->ZeX P ch cell (n+1) x z
def got (x:Frame×List Frame) (v ok:Bool):Frame×List Frame:=(x.1.finish (.tuple #[.bool v,.bool ok]),x.2)
structure ZrF (P:Program) (ch cell:Nat) (R:RP) (x:Frame×List Frame):Prop where
 start:∃n,ZeX P ch cell n x (R [])
 recv:∀L w,w.cell? ⟨cell,0,none⟩=some (.chan (some ch))->∃es,stepG P true (G (R L).1 (R L).2) w= .comm (G (R L).1 (R L).2) #[rcase ch (.bool false)] true (.recv true) w es/\∀e∈es,e=⟨.cell ⟨cell,0,none⟩,false,false⟩
 next:∀L v,∃n,ZeX P ch cell n (got (R L) v true) (R (L++[v]))
inductive T (P:Program) (KF:Frame->List Frame->Option (Nat×Nat×RP)):Fc->Fc->Prop
 |own {a b}:Ow P (λ_=>False) a b->T P KF (.one a) (.one b)
 |go {a fr' cfr ch cell R s tm}:KF a.fr a.cs=some (ch,cell,R)->Zos P a.fr a.cs fr' cfr->ZrF P ch cell R (fr',a.cs)->a.w.heap[ch]? =some (.chan 0 #[] false s s tm)->a.w.cell? ⟨cell,0,none⟩=some (.chan (some ch))->ch≠cell->
   T P KF (.one a) (.two ch cell R ⟨cfr,[],a.w⟩)
 |cown {a b ch cell R}:Ow P (λn=>n=cell\/n=ch) a b->T P KF (.two ch cell R a) (.two ch cell R b)
 |send {a ch cell R v buf s r tm}:ZvQ P (λn=>n=cell\/n=ch) ch a.fr a.cs v->a.w.heap[ch]? =some (.chan 0 buf false s r tm)->
   T P KF (.two ch cell R a) (.two ch cell R ⟨a.fr.finish undef,a.cs,a.w.setChan ch 0 (buf.push (.bool v)) false (s+1) r tm⟩)
 |close {a ch cell R L s r tm}:ZjF P (λn=>n=cell\/n=ch) ch a.fr a.cs->a.w.heap[ch]? =some (.chan 0 (L.map Value.bool).toArray false s r tm)->
   T P KF (.two ch cell R a) (.one ⟨(got (R L) false false).1,(got (R L) false false).2,a.w.setChan ch 0 #[] true s s tm⟩)
section
variable {P:Program} {KF:Frame->List Frame->Option (Nat×Nat×RP)} {pr:Nat->Prop}
theorem Zgs {w:World} {ch:Nat} {A buf':Array Value} {c c':Bool} {s s' r r':Nat} {G tm':Bool} (h:w.heap[ch]? =some (.chan 0 A c s r G)) (h':w.heap[ch]? =some (.chan 0 buf' c' s' r' tm')):A=buf'/\s=s'/\r=r'/\G=tm':=by
 rw[h]at h';simp only[aD,Obj.chan.injEq]at h';exact⟨h'.2.1,h'.2.2.2.1,h'.2.2.2.2.1,h'.2.2.2.2.2⟩
theorem Zio {L A:List Bool} (h:(L.map Value.bool).toArray=(A.map Value.bool).toArray):L=A:=by
 have h:L.map Value.bool=A.map Value.bool:=congrArg Array.toList h;induction L generalizing A with
 |nil=>cases A<;>simp_all
 |cons a l G=>
  cases A with
  |nil=>simp at h
  |cons b H=>
   simp only[List.map_cons,cB,Value.bool.injEq]at h;rw[h.1,G (congrArg List.toArray h.2) h.2]
theorem T.det {a b Z:Fc} (h:T P KF a b) (h':T P KF a Z):b=Z:=by
 cases h with
 |own H=>
  obtain⟨es,I,_⟩:=H.step true;cases h' with
  |own A=>rw[H.det A]
  |go _ A _ _ _ _=>
   obtain⟨J,G,_⟩:=A _;rw[I]at G;cases G
 | @go a fr' cfr ch cell R s tm hk H _ _ _ _=>
  obtain⟨es,I,_⟩:=H a.w;cases h' with
  |own A=>
   obtain⟨J,G,_⟩:=A.step true;rw[I]at G;cases G
  |go U A _ _ _ _=>
   obtain⟨J,G,_⟩:=A a.w;rw[hk]at U;cases U;rw[I]at G;injection G with e3 e4;obtain⟨rfl,_⟩:=ZuI e4;rfl
 | @cown a b ch cell R H=>
  obtain⟨es,I,aa⟩:=H.step false;cases h' with
  |cown A=>rw[H.det A]
  |send A _=>
   obtain⟨z,A⟩:=A;obtain⟨J,G,_⟩:=A a.w;rw[I]at G;cases G
  |close A V=>
   obtain⟨_,g,J,n,A,_⟩:=A;have G:=A a.w _ _ _ _ V;rw[I]at G;injection G with _ _ e3;have:=aa ⟨.obj ch,true,true⟩ (by rw[e3];simp);simp[YI]at this
 | @send a ch cell R v buf s r tm H hc1=>
  obtain⟨z,H⟩:=H;obtain⟨es,I,_⟩:=H a.w;cases h' with
  |cown A=>
   obtain⟨J,G,_⟩:=A.step false;rw[I]at G;cases G
  | @send _ _ _ _ v' _ _ _ _ A S=>
   obtain⟨z',A⟩:=A;obtain⟨J,G,_⟩:=A a.w;rw[I]at G;obtain⟨rfl,rfl,rfl,rfl⟩:=Zgs hc1 S;injection G with _ e3;have:(scase ch (.bool v) z).send=(scase ch (.bool v') z').send:=by
    have:=congrArg (λx:Array CommCase=>(x[0]?).map (·.send)) e3;simpa using this
   simp only[scase,aD,Value.bool.injEq]at this;subst this;rfl
  |close A V=>
   obtain⟨_,g,J,n,A,_⟩:=A;have G:=A a.w _ _ _ _ V;rw[I]at G;cases G
 | @close a ch cell R L s r tm H hc1=>
  obtain⟨_,g,es,n,H,_⟩:=H;have I:=H a.w _ _ _ _ hc1;cases h' with
  |cown A=>
   obtain⟨J,G,Y⟩:=A.step false;rw[I]at G;injection G with _ _ e3;have:=Y ⟨.obj ch,true,true⟩ (by rw[<-e3];simp);simp[YI]at this
  |send A _=>
   obtain⟨z,A⟩:=A;obtain⟨J,G,_⟩:=A a.w;rw[I]at G;cases G
  |close A S=>
   obtain⟨G,rfl,rfl,rfl⟩:=Zgs hc1 S;rw[Zio G]
theorem ZmZ {Stop:Fc->Prop} (A:∀a t d,Stop (Fc.re a t d)->Stop a):ZuG (T P KF) Stop Fc.re (λa=>a.w.tape) (λa=>a.w.drawn)where
 det:=T.det
 re_re a t d t' d':=by cases a<;>rfl
 re_self a:=by cases a<;>rfl
 tp_re a t d:=by cases a<;>rfl
 dr_re a t d:=by cases a<;>rfl
 tape h:=by
  cases h with
  |own h=>exact h.tape
  |cown h=>exact h.tape
  |_=>rfl
 mono h:=by
  cases h with
  |own h=>exact h.mono
  |cown h=>exact h.mono
  |_=>exact Nat.le_refl _
 loc h t d hag:=by
  cases h with
  |own h=>exact .own (h.loc t d hag)
  |cown h=>exact .cown (h.loc t d hag)
  | @go a fr' cfr ch cell R s tm hk h1 h2 h3 h4 h5=>
   have e:d+(a.w.drawn-a.w.drawn)=d:=by omega
   show T P KF (Fc.one (a.re t d)) (Fc.two ch cell R (Cf.re ⟨_,_,_⟩ t (d+(a.w.drawn-a.w.drawn))));rw[e];exact .go (a:=a.re t d) hk h1 h2 h3 h4 h5
  | @send a ch cell R v buf s r tm h1 h2=>
   have e:d+(a.w.drawn-a.w.drawn)=d:=by omega
   show T P KF (Fc.two ch cell R (a.re t d)) (Fc.two ch cell R (Cf.re ⟨_,_,_⟩ t (d+(a.w.drawn-a.w.drawn))));rw[e];exact .send (a:=a.re t d) h1 h2
  | @close a ch cell R L s r tm h1 h2=>
   have e:d+(a.w.drawn-a.w.drawn)=d:=by omega
   show T P KF (Fc.two ch cell R (a.re t d)) (Fc.one (Cf.re ⟨_,_,_⟩ t (d+(a.w.drawn-a.w.drawn))));rw[e];exact .close (a:=a.re t d) h1 h2
 stop:=A
end
end Conc1
end Go.Proofs.YtjgpiclllehgmaaGreat
