/- Lemmas. -/
import Derived.Test.YtjgpiclllehgmaaGreatCxPhase3
import Derived.Test.YtjgpiclllehgmaaGreatCxKeep
set_option linter.all false
open Array renaming append_assoc->dC,getElem?_eq_getElem->aY,getElem?_eq_some_iff->aM,getElem?_map->cA,getElem?_setIfInBounds_ne->aF,getElem?_setIfInBounds_self_of_lt->bH,map_id->gG,mem_append->eB
open Nat renaming le_refl->aJ
open Option renaming map_eq_some_iff->aG
open Go.World renaming cell?->bV
namespace Go.Proofs.YtjgpiclllehgmaaGreat
namespace Conc1
open Go Go.Conc
structure ZuJ (P:Program) (ch cell:Nat) (R:RP):Prop where
 recv:ZrA P ch cell R
 next:∀L v,∃n,ZeX P ch cell n (got (R L) v true) (R (L++[v]))
def ZrD (P:Program) (St:Frame->List Frame->World->Prop):Fc->Prop
 |.one a=>Zcw P St a
 |.two G A R a=>ZuJ P G A R->Zk8 P St G A R a
section
variable {P:Program} {St:Frame->List Frame->World->Prop} {KF:Frame->List Frame->Option (Nat×Nat×RP)}
theorem Zg7 (L:List Bool) (v:Bool):Zil (L++[v])=(Zil L).push (.bool v):=by simp[Zil]
theorem Zf6 {w:World} {ch d cap:Nat} {o:Obj} {A buf':Array Value} {s r s' r':Nat} {G tm' c c':Bool}:
  ((sw w ch o).at d).setChan ch cap A c s r G=(sw ((w.at d).setChan ch 0 buf' c' s' r' tm') ch (.chan cap A c s r G)).at d:=by
 show World.mk ((w.heap.setIfInBounds ch _).setIfInBounds ch _) w.tape d w.os w.output=World.mk ((w.heap.setIfInBounds ch _).setIfInBounds ch _) w.tape d w.os w.output;simp
theorem Zmp {ch cell n:Nat} {R:RP} {L:List Bool} {g:Goroutine} (h:ZeW P ch cell R L n g):awake g:=by
 cases h with
 |run _=>exact awake_of (.inl rfl)
 |parked=>exact Zd0 _ _ _
theorem ZkS {pr:Nat->Prop} {ch n:Nat} {a:Cf} {g:Goroutine} (h:ZcU P pr ch a n g):awake g:=by
 cases h with
 |run=>exact awake_of (.inl rfl)
 |parked _=>exact Zd0 _ _ _
theorem ZfV {ch cell n s r cap:Nat} {R:RP} {L:List Bool} {g x y:Goroutine} {w:World} {A:Array Value} {G:Bool} (h:ZeW P ch cell R L n g) (H:w.heap[ch]? =some (.chan cap A false s r G)):woken P x y w g=g:=by
 cases h with
 |run _=>exact woken_run rfl
 |parked=>exact woken_recv_open _ _ H
theorem Ze1 {pr:Nat->Prop} {ch n s r cap:Nat} {a:Cf} {g x y:Goroutine} {w:World} {A:Array Value} {G:Bool} (h:ZcU P pr ch a n g) (H:w.heap[ch]? =some (.chan cap A false s r G)):woken P x y w g=g:=by
 cases h with
 |run=>exact woken_run rfl
 |parked _=>exact woken_send_open _ _ H
theorem Zbe {g x y:Goroutine} {w:World} (h:g.status= .running\/g.status= .finished):woken P x y w g=g:=by
 unfold woken;split
 ·exact again_running _ h
 rfl
theorem ZkJ {j cell i k c s r:Nat} {f₁ f₂ f₃ f₄:FuncId} {p₁ p₂ p₃ p₄:String} {cap:Nat} (J:i=0\/i=j) (I:k=0\/k=j):
  ∀G∈ [({g:=i,fn:=f₁,pos:=p₁,act:=.send c s}:MemOp),{g:=k,fn:=f₂,pos:=p₂,act:=.recv c r cap},{g:=i,fn:=f₃,pos:=p₃,act:=.sendDone c s},{g:=k,fn:=f₄,pos:=p₄,act:=.recvDone c r}],ZhI j cell G:=by
 intro G A;simp only[List.mem_cons,List.not_mem_nil,or_false]at A;rcases A with rfl|rfl|rfl|rfl<;>exact⟨by assumption,⟨by simp,by simp⟩,λa H=>by simp[MemAct.touch?]at H⟩
theorem Zlw {pr:Nat->Prop} {j cell ch:Nat} {fn:FuncId} {pos:String} {es:Array Event} (I:pr cell) (h:∀e∈es,YI pr e\/e=⟨.obj ch,false,true⟩):∀G∈(MemOp.ofEvents j fn pos es).toList,ZhI j cell G:=by
 intro G J;obtain⟨e,U,rfl⟩:=Conc.mem_ofEvents (Array.mem_toList_iff.1 J);rcases h e U with V|rfl
 ·exact Zdi (es:= #[e]) (fn:=fn) (pos:=pos) I (λY S=>by rw[show Y=e by simpa using S];exact V) _ (by simp[ofEvents_eq])
 refine⟨.inr rfl,⟨by simp[MemAct.ofEvent],by simp[MemAct.ofEvent]⟩,λa H hm=>.inr ⟨rfl,λZ A hw=>?_⟩⟩;simp[MemAct.ofEvent,MemAct.touch?]at H;rw[<-H]at A;cases A
theorem Zam.shut {t:Trace} {j p cell ch:Nat} (h:Zam t j p cell) (Z:p<=t.size) (y:MemOp) (J:y.g=j) (I:y.act= .close ch):ZeU (t++ #[y]) j p cell ch t.size:=by
 have ty:y.act.touch?=none:=by rw[I];rfl
 have G:∀(i:Nat) (a:Touch) (x:MemOp),(t++ #[y])[i]? =some x->x.act.touch?=some a->t[i]? =some x:=λi a x H A=>by
  rcases getElem?_append_cases H with⟨_,U⟩|⟨_,V⟩
  ·exact U
  have:x=y:=by simpa using V
  rw[this,ty]at A;cases A
 refine⟨h.pos,YX h.clean (g:=j) (by simp[J]) (by simp[ty]),(Zhn (by rw[I];exact⟨by simp,by simp⟩)).trans h.hears0,λi a Y hm S=>?_,λi a x H A hm S=>h.late i a x (G i a x H A) A hm S,⟨y,by simp,J,I⟩,⟨j,by simp[Trace.g?,J],by rw[deaf_old (aJ _)];exact h.hearsJ⟩,λi a x H A hm _=>Nat.le_of_lt (lt_size_of_getElem? (G i a x H A)),by simp;omega⟩;obtain⟨x,H,A⟩:=touch_of Y;exact(h.early i a (by rw[touchAt_of (G i a x H A)];exact A) hm S).1.app _
theorem Zk8.of {ch cell:Nat} {R:RP} {a:Cf} (hE:ZuJ P ch cell R) (h:∀d,∃b,T P KF (.two ch cell R ⟨a.fr,a.cs,a.w.at d⟩) b/\ZrD P St b):Zk8 P St ch cell R a:=by
 intro A sl t q d j p L s r J nm nc gm gc h0 hm hj hc be hL ak hp ao am a9;have cw:∀(M:Nat) (A:Array Goroutine) (sl:Option (Nat×Nat)) (t:Trace) (q:Nat->Nat) (d nm nc:Nat) (gm gc:Goroutine),nm+nc+ConcN.sumTo A.size q<=M->
   A[0]? =some gm->ZeW P ch cell R L nm gm->A[j]? =some gc->ZcU P (λn=>n=cell\/n=ch) ch a nc gc->0<nm+nc->QA P t A j q->Zam t j p cell->p<=t.size->
   QY P St (crowd A ((sw a.w ch (.chan 0 #[] false s s J)).at d) sl) t:=by
  clear h0 hm hj hc be hL ak hp;intro M;induction M using Nat.strongRecOn with
  |_ M ih=>
   intro A sl t q d nm nc gm gc hM h0 hm hj hc be hL ak hp;have c6:=ak.pos;have Y:0<A.size:=(aM.1 h0).1;have S:j<A.size:=(aM.1 hj).1;have ai:∀d,((sw a.w ch (.chan 0 #[] false s s J)).at d).heap[ch]? =some (.chan 0 #[] false s s J):=λ_=>Zcz ao;have bh:∀d,((sw a.w ch (.chan 0 #[] false s s J)).at d).cell? ⟨cell,0,none⟩=some (.chan (some ch)):=λ_=>(Zjr ao rfl rfl _).trans am;have cj:∀g∈A,awake g:=by
    intro g hg;obtain⟨i,hi,rfl⟩:=Array.mem_iff_getElem.1 hg;by_cases hi0:i=0
    ·subst hi0;have:A[0]=gm:=by simpa [aY hi]using h0
     rw[this];exact Zmp hm
    by_cases al:i=j
    ·subst al;have:A[i]=gc:=by simpa [aY hi]using hj
     rw[this];exact ZkS hc
    exact awake_of ((hL.old i _ (by omega) al (aY hi)).status.elim .inl λx=>.inr (.inr x))
   have bz:∃(i:Nat) (g:Goroutine),A[i]? =some g/\g.status= .running:=by
    cases hm with
    |run hn=>exact⟨0,_,h0,rfl⟩
    |parked=>
     cases hc with
     |run=>exact⟨j,_,hj,rfl⟩
     |parked _=>omega
   obtain⟨i,g,H,ab,hi,hg,aj⟩:=crowd_pick (P:=P) (w:=(sw a.w ch (.chan 0 #[] false s s J)).at d) (sl:=sl) cj bz;have aj:stepT P (crowd A ((sw a.w ch (.chan 0 #[] false s s J)).at d) sl)=runT P (crowd A ((sw a.w ch (.chan 0 #[] false s s J)).at H) ab) i:=aj;have bc:∀(ae:Nat) (au:Goroutine) (bg:Nat) (bx:Goroutine),(ae=0\/ae=j)->(bg=0\/bg=j)->∀(f:Goroutine->Goroutine),(∀g,g.status= .running\/g.status= .finished->f g=g)->
     ∀i g,0<i->i≠j->(((A.map f).setIfInBounds ae au).setIfInBounds bg bx)[i]? =some g->∃y,A[i]? =some y/\((y.status= .running\/y.status= .finished)->g=y):=by
    intro ae au bg bx e1 e2 f hf i g hi al U;rw[aF (by omega),aF (by omega),cA]at U;obtain⟨y,hy,rfl⟩:=aG.1 U;exact⟨y,hy,hf y⟩
   have ac:∀(ae:Nat) (au:Goroutine),(ae=0\/ae=j)->∀(f:Goroutine->Goroutine),(∀g,g.status= .running\/g.status= .finished->f g=g)->
     ∀i g,0<i->i≠j->((A.map f).setIfInBounds ae au)[i]? =some g->∃y,A[i]? =some y/\((y.status= .running\/y.status= .finished)->g=y):=by
    intro ae au e1 f hf i g hi al U;rw[aF (by omega),cA]at U;obtain⟨y,hy,rfl⟩:=aG.1 U;exact⟨y,hy,hf y⟩
   have ar:∀(k:Nat) (x:Goroutine) (i:Nat) (cg:Bool),(A.setIfInBounds i ph)[k]? =some x->0<k->k≠j->offersAt x ch cg=[]:=by
    intro k x i cg U hk ah;rcases getElem?_stand A i k x U with⟨_,rfl⟩|⟨ap,U⟩
    ·rfl
    refine offersAt_of_not_blocked ?_ _ _;rcases(hL.old k x hk ah U).status with e|e<;>rw[e]<;>simp
   by_cases hi0:i=0
   ·
    subst hi0;obtain rfl:g=gm:=by rw[h0]at hi;exact(Option.some.inj hi).symm
    cases hm with
    |parked=>cases hg
    | @run n x hn=>
     cases hn with
     |zero=>
      obtain⟨es,e1,e2⟩:=hE.recv L _ (bh H);have hk:∀V∈(MemOp.ofEvents 0 (G (R L).1 (R L).2).frame.fn (G (R L).1 (R L).2).frame.place es).toList,ZhI j cell V:=ZhZ e2;have Z:=ak.apps _ hp hk;cases hc with
      |run=>
       have aw:partners (A.setIfInBounds 0 ph) ch true=[]:=by
        refine partners_nil λk x U=>?_;by_cases aq:k=0
        ·rcases getElem?_stand A 0 k x U with⟨_,rfl⟩|⟨ap,_⟩
         ·rfl
         exact absurd aq ap
        by_cases ah:k=j
        ·subst ah;rw[aF (by omega),hj]at U;cases U;exact offersAt_of_not_blocked (by simp[G]) _ _
        exact ar k x 0 true U (by omega) ah
       have I:=crowd_waits (sl:=ab) h0 (show stepG P (0==0) _ _=_ from e1) (λcc bl=>by
        have:cc=rcase ch (.bool false):=by simpa using bl
        rw[this];exact ways_recv_none (ai H) aw)
       refine QY.step (aj.trans I) ?_;refine ih (0+1+ConcN.sumTo A.size q) (by omega) _ ab _ q H 0 1 _ (G a.fr a.cs) (by simp) (by first|(simp[Y];done)|(simp[Y];rfl)) .parked ?_ .run (by omega) ?_ ?_ ?_
       ·rw[aF (by omega)];exact hj
       ·refine hL.apps (λV aa=>(hk V (by simpa using aa)).1) S Y (by simp) ?_;have:=ac 0 (Conc.parked (G (R L).1 (R L).2) #[rcase ch (.bool false)] (.recv true)) (.inl rfl) id (λ_ _=>rfl);rw[gG]at this;exact this
       ·simpa using Z
       simp;omega
      | @parked v z hs=>
       have aw:partners (A.setIfInBounds 0 ph) ch true=[(j,0)]:=by
        have:=partners_one (gs:=A.setIfInBounds 0 ph) (r:=ch) (send:=true) (stand_get (i:=0) (by omega) hj) (λk x ah U=>by
         by_cases aq:k=0
         ·rcases getElem?_stand A 0 k x U with⟨_,rfl⟩|⟨ap,_⟩
          ·rfl
          exact absurd aq ap
         exact ar k x 0 true U (by omega) ah)
        rw[this,offersAt_parked_send,if_pos rfl];rfl
       have I:=crowd_recv_meets (sl:=ab) h0 (show stepG P (0==0) _ _=_ from e1) (ai H) (by omega) hj aw;refine QY.step (aj.trans I) ?_;obtain⟨b,hT,hG⟩:=h H;obtain⟨c8,bt,_⟩:=hs (a.w.at H);cases hT with
       |cown h1=>
        obtain⟨cf,e3,_⟩:=h1.step false;have e3:stepG P false (G a.fr a.cs) (a.w.at H)=_:=e3;rw[bt]at e3;cases e3
       |close h1 az=>
        obtain⟨_,g,cf,n,h1,_⟩:=h1;have e3:stepG P false (G a.fr a.cs) (a.w.at H)=_:=h1 _ _ _ _ _ az;rw[bt]at e3;cases e3
       | @send _ _ _ _ v' buf' s' r' tm' h1 az=>
        obtain⟨rfl,rfl,rfl,rfl⟩:=Zgs ao (show a.w.heap[ch]? =_ from az);obtain⟨z',h1⟩:=h1;obtain⟨cf,e3,_⟩:=h1 (a.w.at H);have e3:stepG P false (G a.fr a.cs) (a.w.at H)=_:=e3;rw[bt]at e3;obtain rfl:v'=v:=by
         injection e3 with _ e4;have:=congrArg (λx:Array CommCase=>(x[0]?).map (·.send)) e4;simp[scase]at this;exact this.symm
        have hG:=hG hE;obtain⟨n',bu⟩:=hE.next L v';rw[finishComm_send,finishComm_recv];have bk:=ZkJ (j:=j) (cell:=cell) (i:=j) (k:=0) (c:=ch) (s:=s) (r:=s) (f₁:=(G a.fr a.cs).frame.fn) (f₂:=(G (R L).1 (R L).2).frame.fn) (f₃:=(G a.fr a.cs).frame.fn) (f₄:=(G (R L).1 (R L).2).frame.fn) (p₁:=(G a.fr a.cs).frame.place) (p₂:=(G (R L).1 (R L).2).frame.place) (p₃:=(G a.fr a.cs).frame.place) (p₄:=(G (R L).1 (R L).2).frame.place) (cap:=0) (.inr rfl) (.inl rfl);have bo:=Z.apps _ (by simp;omega) bk;have:=hG ((A.setIfInBounds j (Conc.served (G a.fr a.cs) undef)).setIfInBounds 0 (Conc.served (G (R L).1 (R L).2) (recvd true (.bool v') true))) ab
         (t++(MemOp.ofEvents 0 (G (R L).1 (R L).2).frame.fn (G (R L).1 (R L).2).frame.place es++ #[{g:=j,fn:=(G a.fr a.cs).frame.fn,pos:=(G a.fr a.cs).frame.place,act:=.send ch s},{g:=0,fn:=(G (R L).1 (R L).2).frame.fn,pos:=(G (R L).1 (R L).2).frame.place,act:=.recv ch s 0},
          {g:=j,fn:=(G a.fr a.cs).frame.fn,pos:=(G a.fr a.cs).frame.place,act:=.sendDone ch s},{g:=0,fn:=(G (R L).1 (R L).2).frame.fn,pos:=(G (R L).1 (R L).2).frame.place,act:=.recvDone ch s}])) q H j p (L++[v']) (s+1) r J (n'+1) 1 (G (got (R L) v' true).1 (got (R L) v' true).2) (G (a.fr.finish undef) a.cs)
         (by first|(simp[Y];done)|(simp[Y];rfl)) (.run bu) (by rw[aF (by omega)];simp[S];rfl) .run (by omega) ?_ ?_ (by simp;omega) ?_ ?_ a9
        ·rw[Zf6 (buf':=(Zil L).push (.bool v')) (c':=false) (s':=s+1) (r':=r) (tm':=J)];exact this
        ·refine hL.apps (λV aa=>?_) S Y (by simp) ?_
         ·rcases eB.1 aa with h|h
          ·exact(hk V (by simpa using h)).1
          exact(bk V (by simpa using h)).1
         have:=bc j (Conc.served (G a.fr a.cs) undef) 0 (Conc.served (G (R L).1 (R L).2) (recvd true (.bool v') true)) (.inr rfl) (.inl rfl) id (λ_ _=>rfl);rw[gG]at this;exact this
        ·simpa [dC]using bo
        ·have ba:ch<a.w.heap.size:=(aM.1 ao).1;show(a.w.heap.setIfInBounds ch _)[ch]? =_;rw[bH ba,Zg7]
        show bV {a.w.at H with heap:=a.w.heap.setIfInBounds ch _} _=_;unfold bV;show(match(a.w.heap.setIfInBounds ch _)[cell]? with|some (.cells c _ _)=>_|_=>none)=_;rw[aF a9];exact am
     | @succ n _ y _ h1 h2=>
      obtain⟨es,e1,e2⟩:=h1 _ (bh H);have hk:∀V∈(MemOp.ofEvents 0 (G x.1 x.2).frame.fn (G x.1 x.2).frame.place es).toList,ZhI j cell V:=ZhZ e2;have Z:=ak.apps _ hp hk;have I:=runT_crowd_go (P:=P) (sl:=ab) (i:=0) h0 (show stepG P (0==0) _ _=_ from e1);refine QY.step (aj.trans I) ?_;refine ih (n+1+nc+ConcN.sumTo A.size q) (by omega) _ ab _ q H (n+1) nc (G y.1 y.2) gc (by simp) (by simp[Y]) (.run h2) ?_ hc (by omega) ?_ ?_ ?_
      ·rw[aF (by omega),cA,hj];exact congrArg some (Ze1 hc (ai H))
      ·exact hL.apps (λV aa=>(hk V (by simpa using aa)).1) S Y (by simp) (ac 0 (G y.1 y.2) (.inl rfl) _ λg hs=>Zbe hs)
      ·simpa using Z
      simp;omega
   by_cases al:i=j
   ·
    subst al;obtain rfl:g=gc:=by rw[hj]at hi;exact(Option.some.inj hi).symm
    have bp:(i==0)=false:=by simp;omega
    cases hc with
    |parked _=>cases hg
    |run=>
     obtain⟨b,hT,hG⟩:=h H;cases hT with
     | @cown _ b _ _ _ h1=>
      have hG:=hG hE;obtain⟨ci,cz⟩:=h1.swap (o₂:=.chan 0 #[] false s s J) (.inr rfl) (show a.w.heap[ch]? =_ from ao) rfl rfl;obtain⟨es,e1,e2⟩:=cz.step false;have hk:∀V∈(MemOp.ofEvents i (G a.fr a.cs).frame.fn (G a.fr a.cs).frame.place es).toList,ZhI i cell V:=Zdi (pr:=λn=>n=cell\/n=ch) (.inl rfl) e2;have Z:=ak.apps _ hp hk;have I:=runT_crowd_go (P:=P) (sl:=ab) (i:=i) hj ((congrArg (λb=>stepG P b (G a.fr a.cs) ((sw a.w ch (.chan 0 #[] false s s J)).at H)) bp).trans e1);refine QY.step (aj.trans I) ?_;have ct:b.w.cell? ⟨cell,0,none⟩=some (.chan (some ch)):=h1.keep (.inl rfl) (show(a.w.at H).cell? _=_ from am);have ca:(sw b.w ch (.chan 0 #[] false s s J)).heap[ch]? =some (.chan 0 #[] false s s J):=Zcz ci;have:=hG ((A.map (woken P (G a.fr a.cs) (G b.fr b.cs) (sw b.w ch (.chan 0 #[] false s s J)))).setIfInBounds i (G b.fr b.cs)) ab (t++MemOp.ofEvents i (G a.fr a.cs).frame.fn (G a.fr a.cs).frame.place es) q b.w.drawn i p L s r J nm 1 gm (G b.fr b.cs)
       (by rw[aF (by omega),cA,h0];exact congrArg some (ZfV hm ca)) hm (by simp[S]) .run (by omega) ?_ ?_ (by simp;omega) ci ct a9
      ·exact this
      ·exact hL.apps (λV aa=>(hk V (by simpa using aa)).1) S Y (by simp) (ac i (G b.fr b.cs) (.inr rfl) _ λg hs=>Zbe hs)
      simpa using Z
     | @send _ _ _ _ v' buf' s' r' tm' h1 az=>
      obtain⟨rfl,rfl,rfl,rfl⟩:=Zgs ao (show a.w.heap[ch]? =_ from az);obtain⟨z',h1⟩:=h1;obtain⟨es,e1,e2⟩:=h1 ((sw a.w ch (.chan 0 #[] false s s J)).at H);have e1:=(congrArg (λb=>stepG P b (G a.fr a.cs) ((sw a.w ch (.chan 0 #[] false s s J)).at H)) bp).trans e1;have hk:∀V∈(MemOp.ofEvents i (G a.fr a.cs).frame.fn (G a.fr a.cs).frame.place es).toList,ZhI i cell V:=Zdi (pr:=λn=>n=cell\/n=ch) (.inl rfl) e2;have Z:=ak.apps _ hp hk;cases hm with
      | @run n x hn=>
       have aw:partners (A.setIfInBounds i ph) ch false=[]:=by
        refine partners_nil λk x U=>?_;by_cases ah:k=i
        ·rcases getElem?_stand A i k x U with⟨_,rfl⟩|⟨ap,_⟩
         ·rfl
         exact absurd ah ap
        by_cases aq:k=0
        ·subst aq;rw[aF (by omega),h0]at U;cases U;exact offersAt_of_not_blocked (by simp[G]) _ _
        exact ar k x i false U (by omega) ah
       have I:=crowd_waits (sl:=ab) hj e1 (λcc bl=>by
        have:cc=scase ch (.bool v') z':=by simpa using bl
        rw[this];exact ways_send_none (ai H) (by simp) aw)
       refine QY.step (aj.trans I) ?_;refine ih (n+1+0+ConcN.sumTo A.size q) (by omega) _ ab _ q H (n+1) 0 (G x.1 x.2) _ (by simp) (by rw[aF (by omega)];exact h0) (.run hn) (by first|(simp[S];done)|(simp[S];rfl)) (.parked h1) (by omega) ?_ ?_ ?_
       ·refine hL.apps (λV aa=>(hk V (by simpa using aa)).1) S Y (by simp) ?_;have:=ac i (Conc.parked (G a.fr a.cs) #[scase ch (.bool v') z'] .send) (.inr rfl) id (λ_ _=>rfl);rw[gG]at this;exact this
       ·simpa using Z
       simp;omega
      |parked=>
       have aw:partners (A.setIfInBounds i ph) ch false=[(0,0)]:=by
        have:=partners_one (gs:=A.setIfInBounds i ph) (r:=ch) (send:=false) (stand_get (i:=i) (by omega) h0) (λk x aq U=>by
         by_cases ah:k=i
         ·rcases getElem?_stand A i k x U with⟨_,rfl⟩|⟨ap,_⟩
          ·rfl
          exact absurd ah ap
         exact ar k x i false U (by omega) ah)
        rw[this,offersAt_parked_recv,if_pos rfl];rfl
       have I:=crowd_send_meets (sl:=ab) hj e1 (ai H) (by omega) h0 aw;refine QY.step (aj.trans I) ?_;have hG:=hG hE;obtain⟨n',bu⟩:=hE.next L v';rw[finishComm_send,finishComm_recv];have bk:=ZkJ (j:=i) (cell:=cell) (i:=i) (k:=0) (c:=ch) (s:=s) (r:=s) (f₁:=(G a.fr a.cs).frame.fn) (f₂:=(G (R L).1 (R L).2).frame.fn) (f₃:=(G a.fr a.cs).frame.fn) (f₄:=(G (R L).1 (R L).2).frame.fn) (p₁:=(G a.fr a.cs).frame.place) (p₂:=(G (R L).1 (R L).2).frame.place) (p₃:=(G a.fr a.cs).frame.place) (p₄:=(G (R L).1 (R L).2).frame.place) (cap:=0) (.inr rfl) (.inl rfl);have bo:=Z.apps _ (by simp;omega) bk;have:=hG ((A.setIfInBounds 0 (Conc.served (G (R L).1 (R L).2) (recvd true (.bool v') true))).setIfInBounds i (Conc.served (G a.fr a.cs) undef)) ab
        (t++(MemOp.ofEvents i (G a.fr a.cs).frame.fn (G a.fr a.cs).frame.place es++ #[{g:=i,fn:=(G a.fr a.cs).frame.fn,pos:=(G a.fr a.cs).frame.place,act:=.send ch s},{g:=0,fn:=(G (R L).1 (R L).2).frame.fn,pos:=(G (R L).1 (R L).2).frame.place,act:=.recv ch s 0},
         {g:=i,fn:=(G a.fr a.cs).frame.fn,pos:=(G a.fr a.cs).frame.place,act:=.sendDone ch s},{g:=0,fn:=(G (R L).1 (R L).2).frame.fn,pos:=(G (R L).1 (R L).2).frame.place,act:=.recvDone ch s}])) q H i p (L++[v']) (s+1) r J (n'+1) 1 (G (got (R L) v' true).1 (got (R L) v' true).2) (G (a.fr.finish undef) a.cs)
        (by rw[aF (by omega)];simp[Y];rfl) (.run bu) (by first|(simp[S];done)|(simp[S];rfl)) .run (by omega) ?_ ?_ (by simp;omega) ?_ ?_ a9
       ·rw[Zf6 (buf':=(Zil L).push (.bool v')) (c':=false) (s':=s+1) (r':=r) (tm':=J)];exact this
       ·refine hL.apps (λV aa=>?_) S Y (by simp) ?_
        ·rcases eB.1 aa with h|h
         ·exact(hk V (by simpa using h)).1
         exact(bk V (by simpa using h)).1
        have:=bc 0 (Conc.served (G (R L).1 (R L).2) (recvd true (.bool v') true)) i (Conc.served (G a.fr a.cs) undef) (.inl rfl) (.inr rfl) id (λ_ _=>rfl);rw[gG]at this;exact this
       ·simpa [dC]using bo
       ·have ba:ch<a.w.heap.size:=(aM.1 ao).1;show(a.w.heap.setIfInBounds ch _)[ch]? =_;rw[bH ba,Zg7]
       show bV {a.w.at H with heap:=a.w.heap.setIfInBounds ch _} _=_;unfold bV;show(match(a.w.heap.setIfInBounds ch _)[cell]? with|some (.cells c _ _)=>_|_=>none)=_;rw[aF a9];exact am
     | @close _ _ _ _ L' s' r' tm' h1 az=>
      obtain⟨e3,rfl,rfl,rfl⟩:=Zgs ao (show a.w.heap[ch]? =_ from az);obtain rfl:=Zio e3;obtain⟨ck,g,es,n,h1,h2,h3⟩:=h1;have e1:=h1 ((sw a.w ch (.chan 0 #[] false s s J)).at H) _ _ _ _ (ai H);have hG:Zcw P St _:=hG;have e1:=(congrArg (λb=>stepG P b (G a.fr a.cs) ((sw a.w ch (.chan 0 #[] false s s J)).at H)) bp).trans e1;have I:=runT_crowd_go (P:=P) (sl:=ab) (i:=i) hj e1;refine QY.step (aj.trans I) ?_;have hW:((sw a.w ch (.chan 0 #[] false s s J)).at H).setChan ch 0 #[] true s s J=(a.w.at H).setChan ch 0 #[] true s s J:=by
       show World.mk ((a.w.heap.setIfInBounds ch _).setIfInBounds ch _) a.w.tape H a.w.os a.w.output=World.mk (a.w.heap.setIfInBounds ch _) a.w.tape H a.w.os a.w.output;simp
      have hk:∀V∈(MemOp.ofEvents i (G a.fr a.cs).frame.fn (G a.fr a.cs).frame.place es).toList,ZhI i cell V:=Zlw (pr:=λn=>n=cell\/n=ch) (.inl rfl) h2;have Z:=ak.apps _ hp hk;have hS:=Z.shut (by simp;omega) {g:=i,fn:=(G a.fr a.cs).frame.fn,pos:=(G a.fr a.cs).frame.place,act:=.close ch} (ch:=ch) rfl rfl;have aa:t++MemOp.ofEvents i (G a.fr a.cs).frame.fn (G a.fr a.cs).frame.place (es.push ⟨.obj ch,true,true⟩)=(t++(MemOp.ofEvents i (G a.fr a.cs).frame.fn (G a.fr a.cs).frame.place es).toList.toArray)++ #[{g:=i,fn:=(G a.fr a.cs).frame.fn,pos:=(G a.fr a.cs).frame.place,act:=.close ch}]:=by
       rw[Array.toArray_toList,dC,ofEvents_eq,ofEvents_eq];congr 1;rw[Array.map_push,Array.push_eq_append];rfl
      have ba:ch<a.w.heap.size:=(aM.1 ao).1;have ce:((a.w.at H).setChan ch 0 #[] true s s J).heap[ch]? =some (.chan 0 #[] true s s J):=by
       show(a.w.heap.setIfInBounds ch _)[ch]? =_;rw[bH ba]
      have bl:((a.w.at H).setChan ch 0 #[] true s s J).cell? ⟨cell,0,none⟩=some (.chan (some ch)):=by
       unfold bV;show(match(a.w.heap.setIfInBounds ch _)[cell]? with|some (.cells c _ _)=>_|_=>none)=_;rw[aF a9];exact am
      have b9:∃bq bm,(if mayWake P (G a.fr a.cs)&&g.status != .blocked&&g.status != .waiting then gm.again ((a.w.at H).setChan ch 0 #[] true s s J)else gm)=bm/\Zbc P ch cell R L bq bm:=by
       cases hm with
       | @run n x hn=>
        refine⟨n,G x.1 x.2,?_,.run hn⟩;split
        ·exact again_running _ (.inl rfl)
        rfl
       |parked=>
        refine⟨0,_,?_,.woken⟩;rw[if_pos,again_recv_closed ce];rw[ck];rcases h3.status with e|e<;>rw[e]<;>rfl
      obtain⟨bq,bm,cn,cu⟩:=b9;rw[aa,hW];have cr:((A.map (woken P (G a.fr a.cs) g ((a.w.at H).setChan ch 0 #[] true s s J))).setIfInBounds i g)[0]? =some bm:=by
       rw[aF (by omega),cA,h0];exact congrArg some cn
      refine Zxr (q:=ConcN.upd q i n) (j:=i) (p:=p) (d:=H) hE.recv ce bl hG _ _ _ _ _ bq bm (aJ _) cr cu ?_ hS (by omega) (by simpa using S);have bw:=hL.apps (gs':=(A.map (woken P (G a.fr a.cs) g ((a.w.at H).setChan ch 0 #[] true s s J))).setIfInBounds i g) (u:=MemOp.ofEvents i (G a.fr a.cs).frame.fn (G a.fr a.cs).frame.place (es.push ⟨.obj ch,true,true⟩)) (λV h=>by obtain⟨e,_,rfl⟩:=Conc.mem_ofEvents h;exact .inr rfl) S Y (by simp) (ac i g (.inr rfl) _ λg hs=>Zbe hs);rw[aa]at bw;refine⟨λk x aq U=>?_,bw.above⟩;by_cases hki:k=i
      ·subst hki;rw[bH (by simpa using S)]at U;obtain rfl:=Option.some.inj U;rw[ConcN.upd_same,Zhn ⟨by simp,by simp⟩,Z.hearsJ];exact h3
      rw[ConcN.upd_ne q n hki];exact bw.old k x aq hki U
   
   obtain⟨g',es,k,c9,cy,I,cq,ba⟩:=hL.move hi (by omega) al hg ((sw a.w ch (.chan 0 #[] false s s J)).at H) ab;refine QY.step (aj.trans I) ?_;have hn:∀V∈MemOp.ofEvents i g.frame.fn g.frame.place es,V.act.touch?=none:=λV aa=>by obtain⟨e,he,rfl⟩:=Conc.mem_ofEvents aa;exact touch_mute (cy e he)
   refine ih (nm+nc+ConcN.sumTo A.size (ConcN.upd q i k)) (by omega) _ ab _ _ H nm nc gm gc (by simp) ?_ hm ?_ hc be cq (ak.appMute hi0 al Yj hn hp) (by simp;omega)
   ·rw[aF hi0,cA,h0];exact congrArg some (ZfV hm (ai H))
   rw[aF al,cA,hj];exact congrArg some (Ze1 hc (ai H))
 exact cw _ A sl t q d nm nc gm gc (aJ _) h0 hm hj hc be hL ak hp
end
end Conc1
end Go.Proofs.YtjgpiclllehgmaaGreat
