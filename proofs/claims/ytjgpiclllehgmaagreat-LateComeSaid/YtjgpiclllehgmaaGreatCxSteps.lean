/- Steps of main, and of a child that sends. -/
import Derived.Test.YtjgpiclllehgmaaGreatCxMildMore
import Derived.Test.YtjgpiclllehgmaaGreatCxFlat
set_option linter.unusedSimpArgs false
set_option linter.unusedVariables false
namespace Go.Proofs.YtjgpiclllehgmaaGreat.Conc1
open Go Go.Conc
theorem Zt.events {α:Type} (P:Program) {pr:Nat→Prop} (hpr:∀n,¬pr n):∀(s:Sem α) (K:Nat→Prop) (w:World) (es:Array Event) (x:α) (w':World) (es':Array Event),Zt P K s→(∀r,K r→Zh2 w r)→
  s.runT P w es=(.ok x w',es')→∀e∈es',e∈es∨Yc pr e:=by
 intro s
 induction s with
 |pure a=>
  intro K w es x w' es' _ _ h e he
  simp only[Sem.runT,Prod.mk.injEq,Result.ok.injEq]at h
  exact .inl (h.2▸he)
 |load m a k ih=>
  intro K w es x w' es' hM hK h e he
  rcases hM.1 with rfl|hd
  case inr=>exact(Qi.runT (s:=.load m a k) hd _ _ _ _ _ h).elim
  simp only[Sem.runT]at h
  split at h
  ·rcases ih _ K _ _ _ _ _ (hM.2 _) hK h e he with h4|h4
   ·rcases Array.mem_push.1 h4 with h5|rfl
    ·exact .inl h5
    ·exact .inr ⟨rfl,fun hw=>by cases hw⟩
   ·exact .inr h4
  ·split at h
   ·rcases ih _ K _ _ _ _ _ (hM.2 _) hK h e he with h4|h4
    ·rcases Array.mem_append.1 h4 with h5|h5
     ·exact .inl h5
     ·obtain⟨y,_,rfl⟩:=Array.mem_map.1 h5
      exact .inr ⟨rfl,fun hw=>by cases hw⟩
    ·exact .inr h4
   ·simp at h
 |store m a v k ih=>
  intro K w es x w' es' hM hK h e he
  rcases hM.1 with rfl|hd
  case inr=>exact(Qi.runT (s:=.store m a v k) hd _ _ _ _ _ h).elim
  have key:∀v,(∀c,v≠ .agg c)→(∀c,v≠ .tuple c)→(Sem.store .plain a v k).runT P w es=(.ok x w',es')→e∈es∨Yc pr e:=by
   intro v hn1 hn2 h
   have e1:(Sem.store .plain a v k).runT P w es=(match w.cell? a with
    |some _=>
     if w.frozen? a then(.halt (.unsupported (.unsafePointer "a write to bytes that a string shares")) w,es)
     else k.runT P (w.setCell a v) (es.push ⟨.cell a,true,Mode.plain== .atomic⟩)
    |none=>match w.farStore P a v (Mode.plain== .atomic)with
     |.ok (w,touched)=>k.runT P w (es++touched.toArray.map (⟨.cell ·,true,Mode.plain== .atomic⟩))
     |.error h=>(.halt h w,es)):=by
    cases v<;>first|rfl|exact absurd rfl (hn1 _)|exact absurd rfl (hn2 _)
   rw[e1]at h
   split at h
   ·split at h
    ·simp at h
    ·rename_i u hu hf
     rcases ih K _ _ _ _ _ hM.2 (fun r hr=>by
      obtain⟨o,ho,hi⟩:=hK r hr
      by_cases hra:a.block=r
      ·subst hra
       have:∃c t f,o= .cells c t f:=by
        unfold World.cell? at hu
        rw[ho]at hu
        cases o<;>first|exact⟨_,_,_,rfl⟩|cases hu
       obtain⟨c,t,f,rfl⟩:=this
       refine⟨.cells (if a.spot.isSome then c else c.setIfInBounds a.off v) t f,?_,rfl⟩
       show(w.heap.modify a.block _)[a.block]? =_
       rw[Array.getElem?_modify,if_pos rfl,ho]
       rfl
      ·refine⟨o,?_,hi⟩
       show(w.heap.modify a.block _)[r]? =_
       rw[Array.getElem?_modify,if_neg hra];exact ho) h e he with h4|h4
     ·rcases Array.mem_push.1 h4 with h5|rfl
      ·exact .inl h5
      ·exact .inr ⟨rfl,fun _=>hpr _⟩
     ·exact .inr h4
   ·split at h
    ·rename_i w1 l hw
     rcases ih K _ _ _ _ _ hM.2 (fun r hr=>by
      obtain⟨o,ho,hi⟩:=hK r hr
      exact Zal hw ho hi) h e he with h4|h4
     ·rcases Array.mem_append.1 h4 with h5|h5
      ·exact .inl h5
      ·obtain⟨y,_,rfl⟩:=Array.mem_map.1 h5
       exact .inr ⟨rfl,fun _=>hpr _⟩
     ·exact .inr h4
    ·simp at h
  cases v with
  |agg c=>simp[Sem.runT]at h
  |tuple c=>simp[Sem.runT]at h
  |_=>exact key _ (by simp) (by simp) h
 |new o k ih=>
  intro K w es x w' es' hM hK h e he
  rcases hM with⟨ho,hM⟩|hd
  case inr=>exact(Qi.runT (s:=.new o k) hd _ _ _ _ _ h).elim
  simp only[Sem.runT]at h
  refine ih w.heap.size _ _ _ _ _ _ (hM _) (fun r hr=>?_) h e he
  rcases hr with hr|rfl
  ·obtain⟨o',ho',hi⟩:=hK r hr
   have hlt:=(Array.getElem?_eq_some_iff.1 ho').1
   refine⟨o',?_,hi⟩
   show(w.heap.push o)[r]? =_
   rw[Array.getElem?_push_lt hlt,←Array.getElem?_eq_getElem hlt]
   exact ho'
  ·exact⟨o,by show(w.heap.push o)[w.heap.size]? =_;simp,ho⟩
 |shape r k ih=>
  intro K w es x w' es' hM hK h e he
  exact ih _ K _ _ _ _ _ (hM _) hK h e he
 |freeze a n k ih=>exact fun K w es x w' es' hM hK h=>(Qi.runT (s:=.freeze a n k) hM _ _ _ _ _ h).elim
 |frozen a k ih=>exact fun K w es x w' es' hM hK h=>(Qi.runT (s:=.frozen a k) hM _ _ _ _ _ h).elim
 |getObj r k ih=>
  intro K w es x w' es' hM hK h e he
  simp only[Sem.runT]at h
  split at h
  ·simp at h
  ·rename_i o hne ho
   cases hch:o.isChan with
   |true=>exact((hM o).1 hch|>.runT _ _ _ _ _ h).elim
   |false=>
    rcases ih o _ _ _ _ _ _ ((hM o).2 hch) (fun r' hr=>hr.elim (hK r') fun e=>⟨o,by rw[e];exact ho,hch⟩) h e he with h4|h4
    ·rcases Array.mem_push.1 h4 with h5|rfl
     ·exact .inl h5
     ·exact .inr ⟨hch,fun hw=>by cases hw⟩
    ·exact .inr h4
  ·simp at h
 |setObj r o k ih=>
  intro K w es x w' es' hM hK h e he
  rcases hM with⟨hr,ho,hM⟩|hd
  case inr=>exact(Qi.runT (s:=.setObj r o k) hd _ _ _ _ _ h).elim
  simp only[Sem.runT]at h
  obtain⟨o',ho',hi'⟩:=hK r hr
  split at h
  ·simp at h
  ·rcases ih K _ _ _ _ _ hM (fun r' hr'=>by
    by_cases e:r=r'
    ·subst e
     refine⟨o,?_,ho⟩
     show(w.heap.setIfInBounds r o)[r]? =_
     rw[Array.getElem?_setIfInBounds_self_of_lt (Array.getElem?_eq_some_iff.1 ho').1]
    ·obtain⟨o2,ho2,hi2⟩:=hK r' hr'
     refine⟨o2,?_,hi2⟩
     show(w.heap.setIfInBounds r o)[r']? =_
     rw[Array.getElem?_setIfInBounds_ne e];exact ho2) h e he with h4|h4
   ·rcases Array.mem_push.1 h4 with h5|rfl
    ·exact .inl h5
    ·exact .inr ⟨ho,fun _=>hpr _⟩
   ·exact .inr h4
  ·simp at h
 |choose q k ih=>
  intro K w es x w' es' hM hK h e he
  simp only[Sem.runT]at h
  split at h
  ·exact ih _ K _ _ _ _ _ (hM _) hK h e he
  ·exact ih _ K {w with drawn:=w.drawn+1} _ _ _ _ (hM _) hK h e he
 |sys c k ih=>exact fun K w es x w' es' hM hK h=>(Qi.runT (s:=.sys c k) hM _ _ _ _ _ h).elim
 |program k ih=>exact fun K w es x w' es' hM hK h e he=>ih P K w es x w' es' hM hK h e he
 |mark m k ih=>
  intro K w es x w' es' hM hK h e he
  rcases hM with⟨rfl,hM⟩|hd
  case inr=>exact(Qi.runT (s:=.mark m k) hd _ _ _ _ _ h).elim
  simp only[Sem.runT]at h
  rcases ih K w _ _ _ _ hM hK h e he with h4|h4
  ·rcases Array.mem_push.1 h4 with h5|rfl
   ·exact .inl h5
   ·exact .inr (show Conc.Neutral .noRoom from rfl)
  ·exact .inr h4
 |halt hh=>
  intro K w es x w' es' hM hK h
  simp[Sem.runT]at h
def OwM (P:Program) (a b:Cf):Prop:=
 ∃(α:Type) (s:Sem α) (F:α→Frame×List Frame) (x:α) (es:Array Event),Zo3 P a.fr a.cs s F∧Zt P (fun _=>False) s∧s.runT P a.w #[]=(.ok x b.w,es)∧F x=(b.fr,b.cs)
theorem OwM.ow {P:Program} {a b:Cf} (h:OwM P a b):Ow P (fun _=>False) a b:=by
 obtain⟨α,s,F,x,es,h1,h2,h3,h4⟩:=h
 exact⟨α,s,F,x,es,h1,h3,h4,fun e he=>(Zt.events P (fun _ h=>h) s _ _ _ _ _ _ h2 (fun _ h=>h.elim) h3 e he).elim (fun h=>by simp at h) id⟩
def ZqU (P:Program) (ch:Nat) (fr:Frame) (cs:List Frame) (v:Bool):Prop:=∃z,∀w,stepG P false (G fr cs) w= .comm (G fr cs) #[scase ch (.bool v) z] true .send w #[]
def ZsO (P:Program) (ch:Nat) (a b:Cf):Prop:=
 ∃v buf s r tm,ZqU P ch a.fr a.cs v∧a.w.heap[ch]? =some (.chan 0 buf false s r tm)∧b=⟨a.fr.finish undef,a.cs,a.w.setChan ch 0 (buf.push (.bool v)) false (s+1) r tm⟩
def wd (ch cell:Nat):World:={(default:World)with heap:=(Array.replicate cell (.cells #[] 0 (0,0))).push (.cells #[.chan (some ch)] 0 (0,0))}
def sim (P:Program) (ch cell:Nat):Nat→Frame×List Frame→Frame×List Frame
 |0,x=>x
 |n+1,x=>match stepG P true (G x.1 x.2) (wd ch cell)with
  |.go g _ _=>sim P ch cell n (g.frame,g.callers)
  |_=>x
def kf (P:Program) (fr:Frame) (cs:List Frame):Option (Nat×Nat×RP):=match(fr.tmps[37]? :Option Value),(fr.tmps[11]? :Option Value)with
 |some (.chan (some ch)),some (.pointer (some ⟨cell,0,none⟩))=>(match stepG P true (G fr cs) (wd ch cell)with
  |.spawn g _ _ _=>some (ch,cell,fun L=>L.foldl (fun x v=>sim P ch cell 60 (got x v true)) (sim P ch cell 60 (g.frame,g.callers)))
  |_=>none)
 |_,_=>none
theorem ZkB (ch cell:Nat):(wd ch cell).cell? ⟨cell,0,none⟩=some (.chan (some ch)):=by
 have h:(wd ch cell).heap[cell]? =some (.cells #[.chan (some ch)] 0 (0,0)):=by
  show((Array.replicate cell _).push _)[cell]? =_
  rw[Array.getElem?_push]
  simp
 simp[World.cell?,h]
theorem Zhc {P:Program} {ch cell:Nat} {y:Frame×List Frame} (hy:∀g w es,stepG P true (G y.1 y.2) (wd ch cell)≠ .go g w es):∀ {n:Nat} {x:Frame×List Frame},ZdM P ch cell n x y→∀m,n≤m→sim P ch cell m x=y
 |_,_,.zero _,0,_=>rfl
 |_,_,.zero _,m+1,_=>by
  unfold sim
  split
  ·rename_i g w es h
   exact absurd h (hy g w es)
  ·rfl
 |_,_,.succ h1 h2,0,hm=>by omega
 |_,_,.succ (y:=z) h1 h2,m+1,hm=>by
  obtain⟨es,h3,_⟩:=h1 (wd ch cell) (ZkB ch cell)
  unfold sim
  rw[h3]
  exact Zhc hy h2 m (by omega)
theorem Ztz {P:Program} {fr fr' cfr:Frame} {cs:List Frame} {ch cell:Nat} {E:RP} (h1:fr.tmps[37]? =some (.chan (some ch))) (h2:fr.tmps[11]? =some (.pointer (some ⟨cell,0,none⟩))) (hgo:Zmd P fr cs fr' cfr)
  (hs:∃n,n≤60∧ZdM P ch cell n (fr',cs) (E []))
  (hr:∀L w,w.cell? ⟨cell,0,none⟩=some (.chan (some ch))→∃es,stepG P true (G (E L).1 (E L).2) w= .comm (G (E L).1 (E L).2) #[rcase ch (.bool false)] true (.recv true) w es∧∀e∈es,e=⟨.cell ⟨cell,0,none⟩,false,false⟩)
  (hn:∀L v,∃n,n≤60∧ZdM P ch cell n (got (E L) v true) (E (L++[v]))):kf P fr cs=some (ch,cell,E)∧Zo8 P ch cell E (fr',cs):=by
 have hstop:∀L g w es,stepG P true (G (E L).1 (E L).2) (wd ch cell)≠ .go g w es:=fun L g w es e=>by
  obtain⟨es',e',_⟩:=hr L (wd ch cell) (ZkB ch cell)
  rw[e]at e'
  cases e'
 refine⟨?_,⟨let ⟨n,_,h⟩:=hs;⟨n,h⟩,hr,fun L v=>let ⟨n,_,h⟩:=hn L v;⟨n,h⟩⟩⟩
 obtain⟨es,hsp,_⟩:=hgo (wd ch cell)
 unfold kf
 rw[h1,h2]
 simp only[hsp]
 have key:∀M:List Bool,M.reverse.foldl (fun x v=>sim P ch cell 60 (got x v true)) (sim P ch cell 60 (fr',cs))=E M.reverse:=by
  intro M
  induction M with
  |nil=>
   obtain⟨n,hn,h⟩:=hs
   exact Zhc (hstop []) h 60 hn
  |cons v M ih=>
   rw[List.reverse_cons,List.foldl_append,ih]
   obtain⟨n,hn,h⟩:=hn M.reverse v
   exact Zhc (hstop _) h 60 hn
 have:(fun L:List Bool=>L.foldl (fun x v=>sim P ch cell 60 (got x v true)) (sim P ch cell 60 (fr',cs)))=E:=funext fun L=>by
  have:=key L.reverse
  rwa [List.reverse_reverse]at this
 exact congrArg some (congrArg (Prod.mk ch) (congrArg (Prod.mk cell) this))
def One (P:Program) (cx:Option Nat) (a b:Cf):Prop:=match cx with
 |none=>Zc5 (T P (kf P)) (.one a) (.one b)
 |some ch=>OwM P a b∨ZsO P ch a b
inductive StepsC (P:Program) (cx:Option Nat):Cf→Cf→Prop
 |refl (a:Cf):StepsC P cx a a
 |head {a b c:Cf}:One P cx a b→StepsC P cx b c→StepsC P cx a c
section
variable {P:Program} {cx:Option Nat} {a b c:Cf}
theorem OwM.one (h:OwM P a b):One P cx a b:=by
 cases cx with
 |none=>exact .head (.own h.ow) (.refl _)
 |some ch=>exact .inl h
theorem StepsC.one (h:One P cx a b):StepsC P cx a b:=.head h (.refl _)
theorem StepsC.trans (h:StepsC P cx a b) (h':StepsC P cx b c):StepsC P cx a c:=by
 induction h with
 |refl=>exact h'
 |head h _ ih=>exact .head h (ih h')
theorem Zc5.trans {C:Type _} {T:C→C→Prop} {a b c:C} (h:Zc5 T a b) (h':Zc5 T b c):Zc5 T a c:=by
 induction h with
 |refl=>exact h'
 |head h _ ih=>exact .head h (ih h')
theorem StepsC.main (h:StepsC P none a b):Zc5 (T P (kf P)) (.one a) (.one b):=by
 induction h with
 |refl=>exact .refl _
 |head h _ ih=>exact Zc5.trans h ih
theorem StepsC.child {KF:Frame→List Frame→Option (Nat×Nat×RP)} {ch cell:Nat} {R:RP} (hne:ch≠cell) (h:StepsC P (some ch) a b):∀(w:World),Fz cell a.w w→(∃buf s r tm,a.w.heap[ch]? =some (.chan 0 buf false s r tm))→
  ∃w',Zc5 (T P KF) (.two ch cell R ⟨a.fr,a.cs,w⟩) (.two ch cell R ⟨b.fr,b.cs,w'⟩)∧Fz cell b.w w'∧∃buf s r tm,b.w.heap[ch]? =some (.chan 0 buf false s r tm):=by
 induction h with
 |refl a=>exact fun w hF hc=>⟨w,.refl _,hF,hc⟩
 | @head a b c h _ ih=>
  intro w hF hc
  rcases h with⟨α,s,F,x,es,h1,h2,h3,h4⟩|⟨v,buf,s,r,tm,⟨z,h1⟩,h2,rfl⟩
  ·obtain⟨buf,sn,rc,tm,hch⟩:=hc
   obtain⟨⟨w',g1,g2⟩,g3,g4⟩:=ZmK (ch:=ch) P s _ _ _ _ _ _ _ h2 hF (fun _ h=>h.elim) ⟨_,hch,rfl⟩ h3
   obtain⟨w2,k1,k2,k3⟩:=ih w' g2 ⟨buf,sn,rc,tm,g3.trans hch⟩
   refine⟨w2,.head (.cown (a:=⟨a.fr,a.cs,w⟩) (b:=⟨b.fr,b.cs,w'⟩) ⟨α,s,F,x,es,h1,g1,h4,fun e he=>(g4 e he).elim (fun h=>by simp at h) id⟩) k1,k2,k3⟩
  ·have hF':=hF.set_ne (b:=ch) hne (.chan 0 (buf.push (.bool v)) false (s+1) r tm)
   have hlt:=(Array.getElem?_eq_some_iff.1 h2).1
   obtain⟨w2,k1,k2,k3⟩:=ih _ hF' ⟨buf.push (.bool v),s+1,r,tm,by
    show(a.w.heap.setIfInBounds ch _)[ch]? =_
    rw[Array.getElem?_setIfInBounds_self_of_lt hlt]⟩
   exact⟨w2,.head (.send (a:=⟨a.fr,a.cs,w⟩) ⟨z,fun w=>⟨#[],h1 w,fun e he=>by simp at he⟩⟩ ((hF.ne ch hne).trans h2)) k1,k2,k3⟩
end
end Go.Proofs.YtjgpiclllehgmaaGreat.Conc1
