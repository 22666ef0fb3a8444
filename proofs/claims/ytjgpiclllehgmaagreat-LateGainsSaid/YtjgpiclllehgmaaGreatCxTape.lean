/- Lemmas. -/
import GoSem.Step
import Derived.Room.Events
set_option linter.all false
open Nat renaming add_zero->dS
namespace Go.Proofs.YtjgpiclllehgmaaGreat
namespace Conc1
open Go
def re (w:World) (t:Nat->Question->Nat) (d:Nat):World:={w with tape:=t,drawn:=d}
theorem re_re (w:World) (t d t' d'):re (re w t d) t' d'=re w t' d':=rfl
@[simp] theorem ZiS (w:World) (t d):(re w t d).heap=w.heap:=rfl
@[simp] theorem ZsM (w:World) (t d):(re w t d).tape=t:=rfl
@[simp] theorem Zqm (w:World) (t d):(re w t d).drawn=d:=rfl
theorem ZsG (p:Program) (w:World) (t d) (a:Addr) (u:TypeId) (k:Addr) (b:Bool):(re w t d).seen p a u k b=w.seen p a u k b:=rfl
def ZwI (t:Nat->Question->Nat) (d:Nat) {A:Type}:Except A (World×List Addr)->Except A (World×List Addr)
 |.ok r=>.ok (re r.1 t d,r.2)
 |.error e=>.error e
theorem ZiE (p:Program) (w:World) (t d) (a:Addr) (u:TypeId) (k:Addr) (v:Value) (b:Bool):
  (re w t d).viewStore p a u k v b=ZwI t d (w.viewStore p a u k v b)/\∀r,w.viewStore p a u k v b= .ok r->r.1.tape=w.tape/\r.1.drawn=w.drawn:=by
 have ob:∀ {A α G:Type} (x:α) (f:α->Except A G),(Except.ok x>>=f)=f x:=λ_ _=>rfl;have J:∀ {A α G:Type} (e:A) (f:α->Except A G),((Except.error e:Except A α)>>=f)=Except.error e:=λ_ _=>rfl;unfold World.viewStore;rw[ZsG];cases h1:(!tight p p.depth u);case true=>simp only[if_true];exact⟨rfl,λr h=>by cases h⟩
 case false=>
  simp only[Bool.false_eq_true,if_false];cases w.seen p a u k b with
  |error e=>exact⟨rfl,λr h=>by cases h⟩
  |ok x=>
   obtain⟨c,e,I,first,H,cells⟩:=x;simp only[ob];cases v.bytes? with
   |none=>exact⟨rfl,λr h=>by cases h⟩
   |some bytes=>
    simp only;by_cases hs:some bytes.length≠H.bytes?.map (·.length)
    ·simp only[if_pos hs];exact⟨rfl,λr h=>by cases h⟩
    simp only[if_neg hs];generalize List.foldlM (m:=Except String) _ c cells=z;cases z with
    |error e=>exact⟨rfl,λr h=>by cases h⟩
    |ok c=>exact⟨rfl,λr h=>by cases h;exact⟨rfl,rfl⟩⟩
theorem Zfl (p:Program) (w:World) (t d) (a:Addr) (v:Value) (b:Bool):
  (re w t d).farStore p a v b=ZwI t d (w.farStore p a v b)/\∀r,w.farStore p a v b= .ok r->r.1.tape=w.tape/\r.1.drawn=w.drawn:=by
 unfold World.farStore;rw[ZiS];split
 ·rename_i at_ u _;obtain⟨A,G⟩:=ZiE p w t d at_ u a v b;rw[A];cases h:w.viewStore p at_ u a v b with
  |error e=>exact⟨rfl,λr hr=>by cases hr⟩
  |ok x=>exact⟨rfl,λr hr=>by cases hr;exact G _ h⟩
 exact⟨rfl,λr h=>by cases h⟩
def ZuN (w w':World) (t:Nat->Question->Nat) (d:Nat):Prop:=∀i,i<w'.drawn-w.drawn->t (d+i)=w.tape (w.drawn+i)
theorem Zbn {α:Type} (P:Program):∀(s:Sem α) (w:World) (es:Array Event) (x:α) (G:World) (A:Array Event),s.runT P w es=(.ok x G,A)->(∀e∈A,e.loc≠ .output)->
  G.tape=w.tape/\w.drawn<=G.drawn/\∀t d,ZuN w G t d->s.runT P (re w t d) es=(.ok x (re G t (d+(G.drawn-w.drawn))),A):=by
 intro s;induction s with
 |pure a=>
  intro w es x G A h _;simp only[Sem.runT,Prod.mk.injEq,Result.ok.injEq]at h;obtain⟨⟨rfl,rfl⟩,rfl⟩:=h;exact⟨rfl,Nat.le_refl _,λt d _=>by simp[Sem.runT]⟩
 |load m a k V=>
  intro w es x G A h S;simp only[Sem.runT]at h;split at h
  ·rename_i v hv;obtain⟨I,J,U⟩:=V v w _ x G A h S;refine⟨I,J,λt d H=>?_⟩;have ab:(re w t d).cell? a=some v:=hv;simp only[Sem.runT,ab];exact U t d H
  rename_i hv;split at h
  ·rename_i v l aj;obtain⟨I,J,U⟩:=V v w _ x G A h S;refine⟨I,J,λt d H=>?_⟩;have ab:(re w t d).cell? a=none:=hv;have ae:(re w t d).farLoad P a (m== .atomic)= .ok (v,l):=aj;simp only[Sem.runT,ab,ae];exact U t d H
  simp at h
 |store m a v k V=>
  intro w es x G A h S;have al:∀v,(∀c,v≠ .agg c)->(∀c,v≠ .tuple c)->(Sem.store m a v k).runT P w es=(.ok x G,A)->G.tape=w.tape/\w.drawn<=G.drawn/\∀t d,ZuN w G t d->(Sem.store m a v k).runT P (re w t d) es=(.ok x (re G t (d+(G.drawn-w.drawn))),A):=by
   intro v ai am h
   have e1:∀(w:World),(Sem.store m a v k).runT P w es=(match w.cell? a with
    |some _=>
     if w.frozen? a then(.halt (.unsupported (.unsafePointer "a write to bytes that a string shares")) w,es)
     else k.runT P (w.setCell a v) (es.push ⟨.cell a,true,m== .atomic⟩)
    |none=>match w.farStore P a v (m== .atomic)with
     |.ok (w,touched)=>k.runT P w (es++touched.toArray.map (⟨.cell ·,true,m== .atomic⟩))
     |.error h=>(.halt h w,es)):=by
    intro w;cases v<;>first|rfl|exact absurd rfl (ai _)|exact absurd rfl (am _)
   rw[e1]at h;split at h
   ·rename_i u hu;split at h
    ·simp at h
    rename_i hf;obtain⟨I,J,U⟩:=V (w.setCell a v) _ x G A h S;refine⟨I,J,λt d H=>?_⟩;rw[e1];have ac:(re w t d).cell? a=some u:=hu;have ak:¬(re w t d).frozen? a=true:=hf;simp only[ac];rw[if_neg ak];exact U t d H
   rename_i hu;obtain⟨f1,f2⟩:=Zfl P w
    (λ_ _=>0) 0 a v (m== .atomic)
   split at h
   ·rename_i w1 l hw;obtain⟨g1,g2⟩:=f2 _ hw;obtain⟨I,J,U⟩:=V w1 _ x G A h S;have g1:w1.tape=w.tape:=g1;have g2:w1.drawn=w.drawn:=g2;refine⟨I.trans g1,g2▸J,λt d H=>?_⟩;rw[e1];have ac:(re w t d).cell? a=none:=hu;have ah:(re w t d).farStore P a v (m== .atomic)= .ok (re w1 t d,l):=by
     rw[(Zfl P w t d a v (m== .atomic)).1,hw];rfl
    simp only[ac,ah];rw[<-g2];exact U t d λi hi=>by rw[g1,g2];rw[g2]at hi;exact H i hi
   simp at h
  cases v with
  |agg c=>simp[Sem.runT]at h
  |tuple c=>simp[Sem.runT]at h
  |_=>exact al _ (by simp) (by simp) h
 |new o k V=>
  intro w es x G A h S;simp only[Sem.runT]at h;obtain⟨I,J,U⟩:=V _ _ _ x G A h S;exact⟨I,J,λt d H=>by simp only[Sem.runT];exact U t d H⟩
 |shape r k V=>
  intro w es x G A h S;simp only[Sem.runT]at h;obtain⟨I,J,U⟩:=V _ _ _ x G A h S;exact⟨I,J,λt d H=>by simp only[Sem.runT];exact U t d H⟩
 |freeze a n k V=>
  intro w es x G A h S;simp only[Sem.runT]at h;have e:∀t d,(re w t d).freeze a n=re (w.freeze a n) t d:=λt d=>by unfold World.freeze;split<;>rfl
  have e1:(w.freeze a n).tape=w.tape:=by unfold World.freeze;split<;>rfl
  have e2:(w.freeze a n).drawn=w.drawn:=by unfold World.freeze;split<;>rfl
  obtain⟨I,J,U⟩:=V _ _ x G A h S;refine⟨I.trans e1,e2▸J,λt d H=>?_⟩;simp only[Sem.runT,e];rw[<-e2];exact U t d λi hi=>by rw[e1,e2];rw[e2]at hi;exact H i hi
 |frozen a k V=>
  intro w es x G A h S;simp only[Sem.runT]at h;obtain⟨I,J,U⟩:=V _ _ _ x G A h S;exact⟨I,J,λt d H=>by simp only[Sem.runT];exact U t d H⟩
 |getObj r k V=>
  intro w es x G A h S;simp only[Sem.runT]at h;split at h
  ·simp at h
  ·rename_i o aa Z;obtain⟨I,J,U⟩:=V _ _ _ x G A h S;refine⟨I,J,λt d H=>?_⟩;simp only[Sem.runT,ZiS];split
   ·rename_i Y;rw[Z]at Y;cases Y;exact absurd rfl (aa _ _ _)
   ·rename_i o2 _ Y;rw[Z]at Y;cases Y;exact U t d H
   rename_i Y;rw[Z]at Y;cases Y
  simp at h
 |setObj r o k V=>
  intro w es x G A h S;simp only[Sem.runT]at h;split at h
  ·simp at h
  ·rename_i o1 aa Z;obtain⟨I,J,U⟩:=V _ _ x G A h S;refine⟨I,J,λt d H=>?_⟩;simp only[Sem.runT,ZiS];split
   ·rename_i Y;rw[Z]at Y;cases Y;exact absurd rfl (aa _ _ _)
   ·exact U t d H
   rename_i Y;rw[Z]at Y;cases Y
  simp at h
 |choose q k V=>
  intro w es x G A h S;simp only[Sem.runT]at h;split at h
  ·rename_i hf;obtain⟨I,J,U⟩:=V _ _ _ x G A h S;refine⟨I,J,λt d H=>?_⟩;simp only[Sem.runT];rw[if_pos hf];exact U t d H
  rename_i hf;obtain⟨I,J,U⟩:=V _ _ _ x G A h S;have I:G.tape=w.tape:=I;have J:w.drawn+1<=G.drawn:=J;refine⟨I,by omega,λt d H=>?_⟩;simp only[Sem.runT];rw[if_neg hf];have e0:=H 0 (by omega);rw[dS,dS]at e0;simp only[ZsM,Zqm,e0];have:=U t (d+1) λi hi=>by
   have hi:i<G.drawn-(w.drawn+1):=hi;have:=H (i+1) (by omega);rw[show d+1+i=d+(i+1) by omega];show _=w.tape (w.drawn+1+i);rw[show w.drawn+1+i=w.drawn+(i+1) by omega];exact this
  have e1:d+1+(G.drawn-(w.drawn+1))=d+(G.drawn-w.drawn):=by omega
  rw[show(({w with drawn:=w.drawn+1}:World)).drawn=w.drawn+1 from rfl,e1]at this;exact this
 |sys c k V=>
  intro w es x G A h S;simp only[Sem.runT]at h;exfalso;refine S ⟨.output,true,false⟩ ?_ rfl;have:=Sem.events_keep P (k (w.sys c).1) ⟨.output,true,false⟩ (w.sys c).2 (es.push ⟨.output,true,false⟩) (by simp);rw[h]at this;exact this
 |program k V=>
  intro w es x G A h S;simp only[Sem.runT]at h;obtain⟨I,J,U⟩:=V _ _ _ x G A h S;exact⟨I,J,λt d H=>by simp only[Sem.runT];exact U t d H⟩
 |mark m k V=>
  intro w es x G A h S;simp only[Sem.runT]at h;obtain⟨I,J,U⟩:=V _ _ x G A h S;exact⟨I,J,λt d H=>by simp only[Sem.runT];exact U t d H⟩
 |halt hh=>
  intro w es x G A h S;simp[Sem.runT]at h
end Conc1
end Go.Proofs.YtjgpiclllehgmaaGreat
