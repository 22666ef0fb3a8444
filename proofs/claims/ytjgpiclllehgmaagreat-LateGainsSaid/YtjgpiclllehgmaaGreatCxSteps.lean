/- Lemmas. -/
import Derived.Test.YtjgpiclllehgmaaGreatCxMildMore
import Derived.Test.YtjgpiclllehgmaaGreatCxFlat
set_option linter.all false
open Array renaming getElem?_eq_some_iff->aM,getElem?_modify->cU,getElem?_setIfInBounds_self_of_lt->bH,mem_append->eB,mem_map->gp,mem_push->ei,replicate->dK
open Go.World renaming cell?->bV
namespace Go.Proofs.YtjgpiclllehgmaaGreat
namespace Conc1
open Go Go.Conc
theorem ZA.events {α:Type} (P:Program) {pr:Nat->Prop} (ab:∀n,¬pr n):∀(s:Sem α) (K:Nat->Prop) (w:World) (es:Array Event) (x:α) (U:World) (G:Array Event),ZA P K s->(∀r,K r->ZjD w r)->
  s.runT P w es=(.ok x U,G)->∀e∈G,e∈es\/YI pr e:=by
 intro s;induction s with
 |pure a=>
  intro K w es x U G _ _ h e S;simp only[Sem.runT,Prod.mk.injEq,Result.ok.injEq]at h;exact .inl (h.2▸S)
 |load m a k J=>
  intro K w es x U G A I h e S;rcases A.1 with rfl|Z;case inr=>exact(Qz.runT (s:=.load m a k) Z _ _ _ _ _ h).elim
  simp only[Sem.runT]at h;split at h
  ·rcases J _ K _ _ _ _ _ (A.2 _) I h e S with H|H
   ·rcases ei.1 H with V|rfl
    ·exact .inl V
    exact .inr ⟨rfl,λhw=>by cases hw⟩
   exact .inr H
  split at h
  ·rcases J _ K _ _ _ _ _ (A.2 _) I h e S with H|H
   ·rcases eB.1 H with V|V
    ·exact .inl V
    obtain⟨y,_,rfl⟩:=gp.1 V;exact .inr ⟨rfl,λhw=>by cases hw⟩
   exact .inr H
  simp at h
 |store m a v k J=>
  intro K w es x U G A I h e S;rcases A.1 with rfl|Z;case inr=>exact(Qz.runT (s:=.store m a v k) Z _ _ _ _ _ h).elim
  have aj:∀v,(∀c,v≠ .agg c)->(∀c,v≠ .tuple c)->(Sem.store .plain a v k).runT P w es=(.ok x U,G)->e∈es\/YI pr e:=by
   intro v ah ak h
   have e1:(Sem.store .plain a v k).runT P w es=(match w.cell? a with
    |some _=>
     if w.frozen? a then(.halt (.unsupported (.unsafePointer "a write to bytes that a string shares")) w,es)
     else k.runT P (w.setCell a v) (es.push ⟨.cell a,true,Mode.plain== .atomic⟩)
    |none=>match w.farStore P a v (Mode.plain== .atomic)with
     |.ok (w,touched)=>k.runT P w (es++touched.toArray.map (⟨.cell ·,true,Mode.plain== .atomic⟩))
     |.error h=>(.halt h w,es)):=by
    cases v<;>first|rfl|exact absurd rfl (ah _)|exact absurd rfl (ak _)
   rw[e1]at h;split at h
   ·split at h
    ·simp at h
    rename_i u hu hf
    rcases J K _ _ _ _ _ A.2 (λr hr=>by
     obtain⟨o,Y,hi⟩:=I r hr;by_cases hra:a.block=r
     ·subst hra;have:∃c t f,o= .cells c t f:=by
       unfold bV at hu;rw[Y]at hu;cases o<;>first|exact⟨_,_,_,rfl⟩|cases hu
      obtain⟨c,t,f,rfl⟩:=this;refine⟨.cells (if a.spot.isSome then c else c.setIfInBounds a.off v) t f,?_,rfl⟩;show(w.heap.modify a.block _)[a.block]? =_;rw[cU,if_pos rfl,Y];rfl
     refine⟨o,?_,hi⟩;show(w.heap.modify a.block _)[r]? =_
     rw[cU,if_neg hra];exact Y) h e S with H|H
    ·rcases ei.1 H with V|rfl
     ·exact .inl V
     exact .inr ⟨rfl,λ_=>ab _⟩
    exact .inr H
   split at h
   ·rename_i w1 l hw
    rcases J K _ _ _ _ _ A.2 (λr hr=>by
     obtain⟨o,Y,hi⟩:=I r hr
     exact Za6 hw Y hi) h e S with H|H
    ·rcases eB.1 H with V|V
     ·exact .inl V
     obtain⟨y,_,rfl⟩:=gp.1 V;exact .inr ⟨rfl,λ_=>ab _⟩
    exact .inr H
   simp at h
  cases v with
  |agg c=>simp[Sem.runT]at h
  |tuple c=>simp[Sem.runT]at h
  |_=>exact aj _ (by simp) (by simp) h
 |new o k J=>
  intro K w es x U G A I h e S;rcases A with⟨Y,A⟩|Z;case inr=>exact(Qz.runT (s:=.new o k) Z _ _ _ _ _ h).elim
  simp only[Sem.runT]at h;refine J w.heap.size _ _ _ _ _ _ (A _) (λr hr=>?_) h e S;rcases hr with hr|rfl
  ·obtain⟨o',aa,hi⟩:=I r hr;have ac:=(aM.1 aa).1;refine⟨o',?_,hi⟩;show(w.heap.push o)[r]? =_;rw[Array.getElem?_push_lt ac,<-Array.getElem?_eq_getElem ac];exact aa
  exact⟨o,by show(w.heap.push o)[w.heap.size]? =_;simp,Y⟩
 |shape r k J=>
  intro K w es x U G A I h e S;exact J _ K _ _ _ _ _ (A _) I h e S
 |freeze a n k J=>exact λK w es x U G A I h=>(Qz.runT (s:=.freeze a n k) A _ _ _ _ _ h).elim
 |frozen a k J=>exact λK w es x U G A I h=>(Qz.runT (s:=.frozen a k) A _ _ _ _ _ h).elim
 |getObj r k J=>
  intro K w es x U G A I h e S;simp only[Sem.runT]at h;split at h
  ·simp at h
  ·rename_i o am Y;cases hch:o.isChan with
   |true=>exact((A o).1 hch|>.runT _ _ _ _ _ h).elim
   |false=>
    rcases J o _ _ _ _ _ _ ((A o).2 hch) (λr' hr=>hr.elim (I r') λe=>⟨o,by rw[e];exact Y,hch⟩) h e S with H|H
    ·rcases ei.1 H with V|rfl
     ·exact .inl V
     exact .inr ⟨hch,λhw=>by cases hw⟩
    exact .inr H
  simp at h
 |setObj r o k J=>
  intro K w es x U G A I h e S;rcases A with⟨hr,Y,A⟩|Z;case inr=>exact(Qz.runT (s:=.setObj r o k) Z _ _ _ _ _ h).elim
  simp only[Sem.runT]at h;obtain⟨o',aa,ao⟩:=I r hr;split at h
  ·simp at h
  ·rcases J K _ _ _ _ _ A (λr' ae=>by
    by_cases e:r=r'
    ·subst e;refine⟨o,?_,Y⟩;show(w.heap.setIfInBounds r o)[r]? =_;rw[bH (aM.1 aa).1]
    obtain⟨o2,al,ai⟩:=I r' ae;refine⟨o2,?_,ai⟩;show(w.heap.setIfInBounds r o)[r']? =_
    rw[Array.getElem?_setIfInBounds_ne e];exact al) h e S with H|H
   ·rcases ei.1 H with V|rfl
    ·exact .inl V
    exact .inr ⟨Y,λ_=>ab _⟩
   exact .inr H
  simp at h
 |choose q k J=>
  intro K w es x U G A I h e S;simp only[Sem.runT]at h;split at h
  ·exact J _ K _ _ _ _ _ (A _) I h e S
  exact J _ K {w with drawn:=w.drawn+1} _ _ _ _ (A _) I h e S
 |sys c k J=>exact λK w es x U G A I h=>(Qz.runT (s:=.sys c k) A _ _ _ _ _ h).elim
 |program k J=>exact λK w es x U G A I h e S=>J P K w es x U G A I h e S
 |mark m k J=>
  intro K w es x U G A I h e S;rcases A with⟨rfl,A⟩|Z;case inr=>exact(Qz.runT (s:=.mark m k) Z _ _ _ _ _ h).elim
  simp only[Sem.runT]at h;rcases J K w _ _ _ _ A I h e S with H|H
  ·rcases ei.1 H with V|rfl
   ·exact .inl V
   exact .inr (show Conc.Neutral .noRoom from rfl)
  exact .inr H
 |halt hh=>
  intro K w es x U G A I h;simp[Sem.runT]at h
def OwM (P:Program) (a b:Cf):Prop:=
 ∃(α:Type) (s:Sem α) (F:α->Frame×List Frame) (x:α) (es:Array Event),Zrz P a.fr a.cs s F/\ZA P (λ_=>False) s/\s.runT P a.w #[]=(.ok x b.w,es)/\F x=(b.fr,b.cs)
theorem OwM.ow {P:Program} {a b:Cf} (h:OwM P a b):Ow P (λ_=>False) a b:=by
 obtain⟨α,s,F,x,es,J,H,A,I⟩:=h;exact⟨α,s,F,x,es,J,A,I,λe G=>(ZA.events P (λ_ h=>h) s _ _ _ _ _ _ H (λ_ h=>h.elim) A e G).elim (λh=>by simp at h) id⟩
def ZtE (P:Program) (ch:Nat) (fr:Frame) (cs:List Frame) (v:Bool):Prop:=∃z,∀w,stepG P false (G fr cs) w= .comm (G fr cs) #[scase ch (.bool v) z] true .send w #[]
def ZvM (P:Program) (ch:Nat) (a b:Cf):Prop:=
 ∃v A s r G,ZtE P ch a.fr a.cs v/\a.w.heap[ch]? =some (.chan 0 A false s r G)/\b=⟨a.fr.finish undef,a.cs,a.w.setChan ch 0 (A.push (.bool v)) false (s+1) r G⟩
def wd (ch cell:Nat):World:={(default:World)with heap:=(dK cell (.cells #[] 0 (0,0))).push (.cells #[.chan (some ch)] 0 (0,0))}
def sim (P:Program) (ch cell:Nat):Nat->Frame×List Frame->Frame×List Frame
 |0,x=>x
 |n+1,x=>match stepG P true (G x.1 x.2) (wd ch cell)with
  |.go g _ _=>sim P ch cell n (g.frame,g.callers)
  |_=>x
def kf (P:Program) (fr:Frame) (cs:List Frame):Option (Nat×Nat×RP):=match(fr.tmps[37]? :Option Value),(fr.tmps[11]? :Option Value)with
 |some (.chan (some ch)),some (.pointer (some ⟨cell,0,none⟩))=>(match stepG P true (G fr cs) (wd ch cell)with
  |.spawn g _ _ _=>some (ch,cell,λL=>L.foldl (λx v=>sim P ch cell 60 (got x v true)) (sim P ch cell 60 (g.frame,g.callers)))
  |_=>none)
 |_,_=>none
theorem Zmz (ch cell:Nat):(wd ch cell).cell? ⟨cell,0,none⟩=some (.chan (some ch)):=by
 have h:(wd ch cell).heap[cell]? =some (.cells #[.chan (some ch)] 0 (0,0)):=by
  show((dK cell _).push _)[cell]? =_;rw[Array.getElem?_push];simp
 simp[bV,h]
theorem ZiK {P:Program} {ch cell:Nat} {y:Frame×List Frame} (A:∀g w es,stepG P true (G y.1 y.2) (wd ch cell)≠ .go g w es):∀ {n:Nat} {x:Frame×List Frame},ZeX P ch cell n x y->∀m,n<=m->sim P ch cell m x=y
 |_,_,.zero _,0,_=>rfl
 |_,_,.zero _,m+1,_=>by
  unfold sim;split
  ·rename_i g w es h;exact absurd h (A g w es)
  rfl
 |_,_,.succ h1 h2,0,hm=>by omega
 |_,_,.succ (y:=z) h1 h2,m+1,hm=>by
  obtain⟨es,H,_⟩:=h1 (wd ch cell) (Zmz ch cell);unfold sim;rw[H];exact ZiK A h2 m (by omega)
theorem ZwM {P:Program} {fr A Z:Frame} {cs:List Frame} {ch cell:Nat} {E:RP} (h1:fr.tmps[37]? =some (.chan (some ch))) (h2:fr.tmps[11]? =some (.pointer (some ⟨cell,0,none⟩))) (U:Zos P fr cs A Z)
  (V:∃n,n<=60/\ZeX P ch cell n (A,cs) (E []))
  (hr:∀L w,w.cell? ⟨cell,0,none⟩=some (.chan (some ch))->∃es,stepG P true (G (E L).1 (E L).2) w= .comm (G (E L).1 (E L).2) #[rcase ch (.bool false)] true (.recv true) w es/\∀e∈es,e=⟨.cell ⟨cell,0,none⟩,false,false⟩)
  (I:∀L v,∃n,n<=60/\ZeX P ch cell n (got (E L) v true) (E (L++[v]))):kf P fr cs=some (ch,cell,E)/\ZrF P ch cell E (A,cs):=by
 have H:∀L g w es,stepG P true (G (E L).1 (E L).2) (wd ch cell)≠ .go g w es:=λL g w es e=>by
  obtain⟨aa,Y,_⟩:=hr L (wd ch cell) (Zmz ch cell);rw[e]at Y;cases Y
 refine⟨?_,⟨let ⟨n,_,h⟩:=V;⟨n,h⟩,hr,λL v=>let ⟨n,_,h⟩:=I L v;⟨n,h⟩⟩⟩;obtain⟨es,S,_⟩:=U (wd ch cell);unfold kf;rw[h1,h2];simp only[S];have J:∀M:List Bool,M.reverse.foldl (λx v=>sim P ch cell 60 (got x v true)) (sim P ch cell 60 (A,cs))=E M.reverse:=by
  intro M;induction M with
  |nil=>
   obtain⟨n,I,h⟩:=V;exact ZiK (H []) h 60 I
  |cons v M ih=>
   rw[List.reverse_cons,List.foldl_append,ih];obtain⟨n,I,h⟩:=I M.reverse v;exact ZiK (H _) h 60 I
 have:(λL:List Bool=>L.foldl (λx v=>sim P ch cell 60 (got x v true)) (sim P ch cell 60 (A,cs)))=E:=funext λL=>by
  have:=J L.reverse;rwa [List.reverse_reverse]at this
 exact congrArg some (congrArg (Prod.mk ch) (congrArg (Prod.mk cell) this))
def One (P:Program) (cx:Option Nat) (a b:Cf):Prop:=match cx with
 |none=>Zd6 (T P (kf P)) (.one a) (.one b)
 |some A=>OwM P a b\/ZvM P A a b
inductive StepsC (P:Program) (cx:Option Nat):Cf->Cf->Prop
 |refl (a:Cf):StepsC P cx a a
 |head {a b c:Cf}:One P cx a b->StepsC P cx b c->StepsC P cx a c
section
variable {P:Program} {cx:Option Nat} {a b c:Cf}
theorem OwM.one (h:OwM P a b):One P cx a b:=by
 cases cx with
 |none=>exact .head (.own h.ow) (.refl _)
 |some A=>exact .inl h
theorem StepsC.one (h:One P cx a b):StepsC P cx a b:=.head h (.refl _)
theorem StepsC.trans (h:StepsC P cx a b) (h':StepsC P cx b c):StepsC P cx a c:=by
 induction h with
 |refl=>exact h'
 |head h _ A=>exact .head h (A h')
theorem Zd6.trans {C:Type _} {T:C->C->Prop} {a b c:C} (h:Zd6 T a b) (h':Zd6 T b c):Zd6 T a c:=by
 induction h with
 |refl=>exact h'
 |head h _ A=>exact .head h (A h')
theorem StepsC.main (h:StepsC P none a b):Zd6 (T P (kf P)) (.one a) (.one b):=by
 induction h with
 |refl=>exact .refl _
 |head h _ A=>exact Zd6.trans h A
theorem StepsC.child {KF:Frame->List Frame->Option (Nat×Nat×RP)} {ch cell:Nat} {R:RP} (S:ch≠cell) (h:StepsC P (some ch) a b):∀(w:World),Fz cell a.w w->(∃A s r G,a.w.heap[ch]? =some (.chan 0 A false s r G))->
  ∃H,Zd6 (T P KF) (.two ch cell R ⟨a.fr,a.cs,w⟩) (.two ch cell R ⟨b.fr,b.cs,H⟩)/\Fz cell b.w H/\∃A s r G,b.w.heap[ch]? =some (.chan 0 A false s r G):=by
 induction h with
 |refl a=>exact λw I hc=>⟨w,.refl _,I,hc⟩
 | @head a b c h _ ih=>
  intro w I hc;rcases h with⟨α,s,F,x,es,Z,J,h3,h4⟩|⟨v,A,s,r,G,⟨z,Z⟩,J,rfl⟩
  ·obtain⟨A,sn,rc,G,U⟩:=hc;obtain⟨⟨H,g1,g2⟩,g3,g4⟩:=Zo4 (ch:=ch) P s _ _ _ _ _ _ _ J I (λ_ h=>h.elim) ⟨_,U,rfl⟩ h3;obtain⟨w2,V,k2,Y⟩:=ih H g2 ⟨A,sn,rc,G,g3.trans U⟩;refine⟨w2,.head (.cown (a:=⟨a.fr,a.cs,w⟩) (b:=⟨b.fr,b.cs,H⟩) ⟨α,s,F,x,es,Z,g1,h4,λe he=>(g4 e he).elim (λh=>by simp at h) id⟩) V,k2,Y⟩
  have ab:=I.set_ne (b:=ch) S (.chan 0 (A.push (.bool v)) false (s+1) r G);have aa:=(aM.1 J).1
  obtain⟨w2,V,k2,Y⟩:=ih _ ab ⟨A.push (.bool v),s+1,r,G,by
   show(a.w.heap.setIfInBounds ch _)[ch]? =_
   rw[bH aa]⟩
  exact⟨w2,.head (.send (a:=⟨a.fr,a.cs,w⟩) ⟨z,λw=>⟨#[],Z w,λe he=>by simp at he⟩⟩ ((I.ne ch S).trans J)) V,k2,Y⟩
end
end Conc1
end Go.Proofs.YtjgpiclllehgmaaGreat
