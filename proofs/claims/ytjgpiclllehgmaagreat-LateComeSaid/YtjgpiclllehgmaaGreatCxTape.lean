/- What an operation does hangs on that piece of the tape alone which it takes. -/
import GoSem.Step
import Derived.Room.Events
set_option linter.unusedSimpArgs false
set_option linter.unusedVariables false
namespace Go.Proofs.YtjgpiclllehgmaaGreat.Conc1
open Go
def re (w:World) (t:Nat→Question→Nat) (d:Nat):World:={w with tape:=t,drawn:=d}
theorem re_re (w:World) (t d t' d'):re (re w t d) t' d'=re w t' d':=rfl
@[simp] theorem Zhk (w:World) (t d):(re w t d).heap=w.heap:=rfl
@[simp] theorem Zqa (w:World) (t d):(re w t d).tape=t:=rfl
@[simp] theorem ZnZ (w:World) (t d):(re w t d).drawn=d:=rfl
theorem Zp5 (p:Program) (w:World) (t d) (a:Addr) (u:TypeId) (k:Addr) (b:Bool):(re w t d).seen p a u k b=w.seen p a u k b:=rfl
def Ztv (t:Nat→Question→Nat) (d:Nat) {ε:Type}:Except ε (World×List Addr)→Except ε (World×List Addr)
 |.ok r=>.ok (re r.1 t d,r.2)
 |.error e=>.error e
theorem Zg6 (p:Program) (w:World) (t d) (a:Addr) (u:TypeId) (k:Addr) (v:Value) (b:Bool):
  (re w t d).viewStore p a u k v b=Ztv t d (w.viewStore p a u k v b)∧∀r,w.viewStore p a u k v b= .ok r→r.1.tape=w.tape∧r.1.drawn=w.drawn:=by
 have ob:∀ {ε α β:Type} (x:α) (f:α→Except ε β),(Except.ok x>>=f)=f x:=fun _ _=>rfl
 have eb:∀ {ε α β:Type} (e:ε) (f:α→Except ε β),((Except.error e:Except ε α)>>=f)=Except.error e:=fun _ _=>rfl
 unfold World.viewStore
 rw[Zp5]
 cases h1:(!tight p p.depth u)
 case true=>simp only[if_true];exact⟨rfl,fun r h=>by cases h⟩
 case false=>
  simp only[Bool.false_eq_true,if_false]
  cases w.seen p a u k b with
  |error e=>exact⟨rfl,fun r h=>by cases h⟩
  |ok x=>
   obtain⟨c,e,frozen,first,like,cells⟩:=x
   simp only[ob]
   cases v.bytes? with
   |none=>exact⟨rfl,fun r h=>by cases h⟩
   |some bytes=>
    simp only
    by_cases hs:some bytes.length≠like.bytes?.map (·.length)
    ·simp only[if_pos hs]
     exact⟨rfl,fun r h=>by cases h⟩
    ·simp only[if_neg hs]
     generalize List.foldlM (m:=Except String) _ c cells=z
     cases z with
     |error e=>exact⟨rfl,fun r h=>by cases h⟩
     |ok c=>exact⟨rfl,fun r h=>by cases h;exact⟨rfl,rfl⟩⟩
theorem Zec (p:Program) (w:World) (t d) (a:Addr) (v:Value) (b:Bool):
  (re w t d).farStore p a v b=Ztv t d (w.farStore p a v b)∧∀r,w.farStore p a v b= .ok r→r.1.tape=w.tape∧r.1.drawn=w.drawn:=by
 unfold World.farStore
 rw[Zhk]
 split
 ·rename_i at_ u _
  obtain⟨h1,h2⟩:=Zg6 p w t d at_ u a v b
  rw[h1]
  cases h:w.viewStore p at_ u a v b with
  |error e=>exact⟨rfl,fun r hr=>by cases hr⟩
  |ok x=>exact⟨rfl,fun r hr=>by cases hr;exact h2 _ h⟩
 ·exact⟨rfl,fun r h=>by cases h⟩
def Zr3 (w w':World) (t:Nat→Question→Nat) (d:Nat):Prop:=∀i,i<w'.drawn-w.drawn→t (d+i)=w.tape (w.drawn+i)
theorem Zaz {α:Type} (P:Program):∀(s:Sem α) (w:World) (es:Array Event) (x:α) (w':World) (es':Array Event),s.runT P w es=(.ok x w',es')→(∀e∈es',e.loc≠ .output)→
  w'.tape=w.tape∧w.drawn≤w'.drawn∧∀t d,Zr3 w w' t d→s.runT P (re w t d) es=(.ok x (re w' t (d+(w'.drawn-w.drawn))),es'):=by
 intro s
 induction s with
 |pure a=>
  intro w es x w' es' h _
  simp only[Sem.runT,Prod.mk.injEq,Result.ok.injEq]at h
  obtain⟨⟨rfl,rfl⟩,rfl⟩:=h
  exact⟨rfl,Nat.le_refl _,fun t d _=>by simp[Sem.runT]⟩
 |load m a k ih=>
  intro w es x w' es' h ho
  simp only[Sem.runT]at h
  split at h
  ·rename_i v hv
   obtain⟨h1,h2,h3⟩:=ih v w _ x w' es' h ho
   refine⟨h1,h2,fun t d hag=>?_⟩
   have hv':(re w t d).cell? a=some v:=hv
   simp only[Sem.runT,hv']
   exact h3 t d hag
  ·rename_i hv
   split at h
   ·rename_i v l hv2
    obtain⟨h1,h2,h3⟩:=ih v w _ x w' es' h ho
    refine⟨h1,h2,fun t d hag=>?_⟩
    have hv':(re w t d).cell? a=none:=hv
    have hv2':(re w t d).farLoad P a (m== .atomic)= .ok (v,l):=hv2
    simp only[Sem.runT,hv',hv2']
    exact h3 t d hag
   ·simp at h
 |store m a v k ih=>
  intro w es x w' es' h ho
  have key:∀v,(∀c,v≠ .agg c)→(∀c,v≠ .tuple c)→(Sem.store m a v k).runT P w es=(.ok x w',es')→w'.tape=w.tape∧w.drawn≤w'.drawn∧∀t d,Zr3 w w' t d→(Sem.store m a v k).runT P (re w t d) es=(.ok x (re w' t (d+(w'.drawn-w.drawn))),es'):=by
   intro v hn1 hn2 h
   have e1:∀(w:World),(Sem.store m a v k).runT P w es=(match w.cell? a with
    |some _=>
     if w.frozen? a then(.halt (.unsupported (.unsafePointer "a write to bytes that a string shares")) w,es)
     else k.runT P (w.setCell a v) (es.push ⟨.cell a,true,m== .atomic⟩)
    |none=>match w.farStore P a v (m== .atomic)with
     |.ok (w,touched)=>k.runT P w (es++touched.toArray.map (⟨.cell ·,true,m== .atomic⟩))
     |.error h=>(.halt h w,es)):=by
    intro w
    cases v<;>first|rfl|exact absurd rfl (hn1 _)|exact absurd rfl (hn2 _)
   rw[e1]at h
   split at h
   ·rename_i u hu
    split at h
    ·simp at h
    ·rename_i hf
     obtain⟨h1,h2,h3⟩:=ih (w.setCell a v) _ x w' es' h ho
     refine⟨h1,h2,fun t d hag=>?_⟩
     rw[e1]
     have hu':(re w t d).cell? a=some u:=hu
     have hf':¬(re w t d).frozen? a=true:=hf
     simp only[hu']
     rw[if_neg hf']
     exact h3 t d hag
   ·rename_i hu
    obtain⟨f1,f2⟩:=Zec P w
     (fun _ _=>0) 0 a v (m== .atomic)
    split at h
    ·rename_i w1 l hw
     obtain⟨g1,g2⟩:=f2 _ hw
     obtain⟨h1,h2,h3⟩:=ih w1 _ x w' es' h ho
     have g1:w1.tape=w.tape:=g1
     have g2:w1.drawn=w.drawn:=g2
     refine⟨h1.trans g1,g2▸h2,fun t d hag=>?_⟩
     rw[e1]
     have hu':(re w t d).cell? a=none:=hu
     have hw':(re w t d).farStore P a v (m== .atomic)= .ok (re w1 t d,l):=by
      rw[(Zec P w t d a v (m== .atomic)).1,hw];rfl
     simp only[hu',hw']
     rw[←g2]
     exact h3 t d fun i hi=>by rw[g1,g2];rw[g2]at hi;exact hag i hi
    ·simp at h
  cases v with
  |agg c=>simp[Sem.runT]at h
  |tuple c=>simp[Sem.runT]at h
  |_=>exact key _ (by simp) (by simp) h
 |new o k ih=>
  intro w es x w' es' h ho
  simp only[Sem.runT]at h
  obtain⟨h1,h2,h3⟩:=ih _ _ _ x w' es' h ho
  exact⟨h1,h2,fun t d hag=>by simp only[Sem.runT];exact h3 t d hag⟩
 |shape r k ih=>
  intro w es x w' es' h ho
  simp only[Sem.runT]at h
  obtain⟨h1,h2,h3⟩:=ih _ _ _ x w' es' h ho
  exact⟨h1,h2,fun t d hag=>by simp only[Sem.runT];exact h3 t d hag⟩
 |freeze a n k ih=>
  intro w es x w' es' h ho
  simp only[Sem.runT]at h
  have e:∀t d,(re w t d).freeze a n=re (w.freeze a n) t d:=fun t d=>by unfold World.freeze;split<;>rfl
  have e1:(w.freeze a n).tape=w.tape:=by unfold World.freeze;split<;>rfl
  have e2:(w.freeze a n).drawn=w.drawn:=by unfold World.freeze;split<;>rfl
  obtain⟨h1,h2,h3⟩:=ih _ _ x w' es' h ho
  refine⟨h1.trans e1,e2▸h2,fun t d hag=>?_⟩
  simp only[Sem.runT,e]
  rw[←e2]
  exact h3 t d fun i hi=>by rw[e1,e2];rw[e2]at hi;exact hag i hi
 |frozen a k ih=>
  intro w es x w' es' h ho
  simp only[Sem.runT]at h
  obtain⟨h1,h2,h3⟩:=ih _ _ _ x w' es' h ho
  exact⟨h1,h2,fun t d hag=>by simp only[Sem.runT];exact h3 t d hag⟩
 |getObj r k ih=>
  intro w es x w' es' h ho
  simp only[Sem.runT]at h
  split at h
  ·simp at h
  ·rename_i o hne ho'
   obtain⟨h1,h2,h3⟩:=ih _ _ _ x w' es' h ho
   refine⟨h1,h2,fun t d hag=>?_⟩
   simp only[Sem.runT,Zhk]
   split
   ·rename_i h5;rw[ho']at h5;cases h5;exact absurd rfl (hne _ _ _)
   ·rename_i o2 _ h5
    rw[ho']at h5
    cases h5
    exact h3 t d hag
   ·rename_i h5;rw[ho']at h5;cases h5
  ·simp at h
 |setObj r o k ih=>
  intro w es x w' es' h ho
  simp only[Sem.runT]at h
  split at h
  ·simp at h
  ·rename_i o1 hne ho'
   obtain⟨h1,h2,h3⟩:=ih _ _ x w' es' h ho
   refine⟨h1,h2,fun t d hag=>?_⟩
   simp only[Sem.runT,Zhk]
   split
   ·rename_i h5;rw[ho']at h5;cases h5;exact absurd rfl (hne _ _ _)
   ·exact h3 t d hag
   ·rename_i h5;rw[ho']at h5;cases h5
  ·simp at h
 |choose q k ih=>
  intro w es x w' es' h ho
  simp only[Sem.runT]at h
  split at h
  ·rename_i hf
   obtain⟨h1,h2,h3⟩:=ih _ _ _ x w' es' h ho
   refine⟨h1,h2,fun t d hag=>?_⟩
   simp only[Sem.runT]
   rw[if_pos hf]
   exact h3 t d hag
  ·rename_i hf
   obtain⟨h1,h2,h3⟩:=ih _ _ _ x w' es' h ho
   have h1:w'.tape=w.tape:=h1
   have h2:w.drawn+1≤w'.drawn:=h2
   refine⟨h1,by omega,fun t d hag=>?_⟩
   simp only[Sem.runT]
   rw[if_neg hf]
   have e0:=hag 0 (by omega)
   rw[Nat.add_zero,Nat.add_zero]at e0
   simp only[Zqa,ZnZ,e0]
   have:=h3 t (d+1) fun i hi=>by
    have hi:i<w'.drawn-(w.drawn+1):=hi
    have:=hag (i+1) (by omega)
    rw[show d+1+i=d+(i+1) by omega]
    show _=w.tape (w.drawn+1+i)
    rw[show w.drawn+1+i=w.drawn+(i+1) by omega]
    exact this
   have e1:d+1+(w'.drawn-(w.drawn+1))=d+(w'.drawn-w.drawn):=by omega
   rw[show(({w with drawn:=w.drawn+1}:World)).drawn=w.drawn+1 from rfl,e1]at this
   exact this
 |sys c k ih=>
  intro w es x w' es' h ho
  simp only[Sem.runT]at h
  exfalso
  refine ho ⟨.output,true,false⟩ ?_ rfl
  have:=Sem.events_keep P (k (w.sys c).1) ⟨.output,true,false⟩ (w.sys c).2 (es.push ⟨.output,true,false⟩) (by simp)
  rw[h]at this
  exact this
 |program k ih=>
  intro w es x w' es' h ho
  simp only[Sem.runT]at h
  obtain⟨h1,h2,h3⟩:=ih _ _ _ x w' es' h ho
  exact⟨h1,h2,fun t d hag=>by simp only[Sem.runT];exact h3 t d hag⟩
 |mark m k ih=>
  intro w es x w' es' h ho
  simp only[Sem.runT]at h
  obtain⟨h1,h2,h3⟩:=ih _ _ x w' es' h ho
  exact⟨h1,h2,fun t d hag=>by simp only[Sem.runT];exact h3 t d hag⟩
 |halt hh=>
  intro w es x w' es' h ho
  simp[Sem.runT]at h
end Go.Proofs.YtjgpiclllehgmaaGreat.Conc1
