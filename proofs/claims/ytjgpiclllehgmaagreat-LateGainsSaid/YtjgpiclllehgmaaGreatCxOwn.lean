/- Lemmas. -/
import Derived.Conc.Listed
import Derived.Conc.Own4
import Derived.Conc.Neutral
import Derived.Test.YtjgpiclllehgmaaGreatCxBar
import Derived.Test.YtjgpiclllehgmaaGreatCxTape
set_option linter.all false
namespace Go.Proofs.YtjgpiclllehgmaaGreat
namespace Conc1
open Go Go.Conc
structure Cf where
 fr:Frame
 cs:List Frame
 w:World
def Cf.re (a:Cf) (t:Nat->Question->Nat) (d:Nat):Cf:=⟨a.fr,a.cs,Conc1.re a.w t d⟩
def YI (pr:Nat->Prop) (e:Event):Prop:=match e.loc with
 |.cell a=>e.sync=false/\(e.write=true->¬pr a.block)
 |.obj r=>e.sync=false/\(e.write=true->¬pr r)
 |.mark m=>Neutral m
 |_=>False
theorem YI.out {pr:Nat->Prop} {e:Event} (h:YI pr e):e.loc≠ .output:=λA=>by unfold YI at h;rw[A]at h;exact h
def Zrz (P:Program) (fr:Frame) (cs:List Frame) {α:Type} (s:Sem α) (F:α->Frame×List Frame):Prop:=
 ∀(main:Bool) (w A:World) (x:α) (es:Array Event),s.runT P w #[]=(.ok x A,es)->stepG P main (G fr cs) w= .go (G (F x).1 (F x).2) A (seen P fr.fn es)
def Ow (P:Program) (pr:Nat->Prop) (a b:Cf):Prop:=
 ∃(α:Type) (s:Sem α) (F:α->Frame×List Frame) (x:α) (es:Array Event),Zrz P a.fr a.cs s F/\s.runT P a.w #[]=(.ok x b.w,es)/\F x=(b.fr,b.cs)/\∀e∈es,YI pr e
section
variable {P:Program} {pr:Nat->Prop} {a b c:Cf}
theorem Ow.step (h:Ow P pr a b) (main:Bool):∃es,stepG P main (G a.fr a.cs) a.w= .go (G b.fr b.cs) b.w es/\∀e∈es,YI pr e:=by
 obtain⟨α,s,F,x,es,J,H,S,I⟩:=h;have:=J main _ _ _ _ H;rw[S]at this;exact⟨_,this,λe A=>I e (mem_seen A)⟩
theorem ZuI {fr A:Frame} {cs H:List Frame} (h:G fr cs=G A H):fr=A/\cs=H:=by
 unfold G at h;cases h;exact⟨rfl,rfl⟩
theorem Ow.det (h:Ow P pr a b) (h':Ow P pr a c):b=c:=by
 obtain⟨es,G,_⟩:=h.step true;obtain⟨H,A,_⟩:=h'.step true;rw[G]at A;injection A with e1 e2 e3;obtain⟨J,I⟩:=ZuI e1;cases b;cases c;simp_all
theorem Ow.tape (h:Ow P pr a b):b.w.tape=a.w.tape:=by
 obtain⟨α,s,F,x,es,I,G,J,H⟩:=h;exact(Zbn P s _ _ _ _ _ G λe A=>(H e A).out).1
theorem Ow.mono (h:Ow P pr a b):a.w.drawn<=b.w.drawn:=by
 obtain⟨α,s,F,x,es,I,G,J,H⟩:=h;exact(Zbn P s _ _ _ _ _ G λe A=>(H e A).out).2.1
theorem Ow.loc (h:Ow P pr a b) (t:Nat->Question->Nat) (d:Nat) (G:∀i,i<b.w.drawn-a.w.drawn->t (d+i)=a.w.tape (a.w.drawn+i)):Ow P pr (a.re t d) (b.re t (d+(b.w.drawn-a.w.drawn))):=by
 obtain⟨α,s,F,x,es,J,I,S,A⟩:=h;exact⟨α,s,F,x,es,J,(Zbn P s _ _ _ _ _ I λe H=>(A e H).out).2.2 t d G,S,A⟩
end
end Conc1
end Go.Proofs.YtjgpiclllehgmaaGreat
