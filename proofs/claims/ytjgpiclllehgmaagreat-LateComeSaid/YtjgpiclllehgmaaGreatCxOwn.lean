/- Steps that a goroutine takes by itself. -/
import Derived.Conc.Listed
import Derived.Conc.Own4
import Derived.Conc.Neutral
import Derived.Test.YtjgpiclllehgmaaGreatCxBar
import Derived.Test.YtjgpiclllehgmaaGreatCxTape
set_option linter.unusedSimpArgs false
set_option linter.unusedVariables false
namespace Go.Proofs.YtjgpiclllehgmaaGreat.Conc1
open Go Go.Conc
structure Cf where
 fr:Frame
 cs:List Frame
 w:World
def Cf.re (a:Cf) (t:Nat→Question→Nat) (d:Nat):Cf:=⟨a.fr,a.cs,Conc1.re a.w t d⟩
def Yc (pr:Nat→Prop) (e:Event):Prop:=match e.loc with
 |.cell a=>e.sync=false∧(e.write=true→¬pr a.block)
 |.obj r=>e.sync=false∧(e.write=true→¬pr r)
 |.mark m=>Neutral m
 |_=>False
theorem Yc.out {pr:Nat→Prop} {e:Event} (h:Yc pr e):e.loc≠ .output:=fun he=>by unfold Yc at h;rw[he]at h;exact h
def Zo3 (P:Program) (fr:Frame) (cs:List Frame) {α:Type} (s:Sem α) (F:α→Frame×List Frame):Prop:=
 ∀(main:Bool) (w w':World) (x:α) (es:Array Event),s.runT P w #[]=(.ok x w',es)→stepG P main (G fr cs) w= .go (G (F x).1 (F x).2) w' (seen P fr.fn es)
def Ow (P:Program) (pr:Nat→Prop) (a b:Cf):Prop:=
 ∃(α:Type) (s:Sem α) (F:α→Frame×List Frame) (x:α) (es:Array Event),Zo3 P a.fr a.cs s F∧s.runT P a.w #[]=(.ok x b.w,es)∧F x=(b.fr,b.cs)∧∀e∈es,Yc pr e
section
variable {P:Program} {pr:Nat→Prop} {a b c:Cf}
theorem Ow.step (h:Ow P pr a b) (main:Bool):∃es,stepG P main (G a.fr a.cs) a.w= .go (G b.fr b.cs) b.w es∧∀e∈es,Yc pr e:=by
 obtain⟨α,s,F,x,es,h1,h2,h3,h4⟩:=h
 have:=h1 main _ _ _ _ h2
 rw[h3]at this
 exact⟨_,this,fun e he=>h4 e (mem_seen he)⟩
theorem ZrZ {fr fr':Frame} {cs cs':List Frame} (h:G fr cs=G fr' cs'):fr=fr'∧cs=cs':=by
 unfold G at h
 cases h
 exact⟨rfl,rfl⟩
theorem Ow.det (h:Ow P pr a b) (h':Ow P pr a c):b=c:=by
 obtain⟨es,h1,_⟩:=h.step true
 obtain⟨es',h2,_⟩:=h'.step true
 rw[h1]at h2
 injection h2 with e1 e2 e3
 obtain⟨e4,e5⟩:=ZrZ e1
 cases b;cases c
 simp_all
theorem Ow.tape (h:Ow P pr a b):b.w.tape=a.w.tape:=by
 obtain⟨α,s,F,x,es,h1,h2,h3,h4⟩:=h
 exact(Zaz P s _ _ _ _ _ h2 fun e he=>(h4 e he).out).1
theorem Ow.mono (h:Ow P pr a b):a.w.drawn≤b.w.drawn:=by
 obtain⟨α,s,F,x,es,h1,h2,h3,h4⟩:=h
 exact(Zaz P s _ _ _ _ _ h2 fun e he=>(h4 e he).out).2.1
theorem Ow.loc (h:Ow P pr a b) (t:Nat→Question→Nat) (d:Nat) (hag:∀i,i<b.w.drawn-a.w.drawn→t (d+i)=a.w.tape (a.w.drawn+i)):Ow P pr (a.re t d) (b.re t (d+(b.w.drawn-a.w.drawn))):=by
 obtain⟨α,s,F,x,es,h1,h2,h3,h4⟩:=h
 exact⟨α,s,F,x,es,h1,(Zaz P s _ _ _ _ _ h2 fun e he=>(h4 e he).out).2.2 t d hag,h3,h4⟩
end
end Go.Proofs.YtjgpiclllehgmaaGreat.Conc1
