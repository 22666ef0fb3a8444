/- Lemmas. -/
import Derived.Test.YtjgpiclllehgmaaGreatCxPhase3
import Derived.Test.YtjgpiclllehgmaaGreatCxKeep
set_option linter.all false
open Array renaming append_assoc->dE,getElem?_eq_getElem->aZ,getElem?_eq_some_iff->aM,getElem?_map->cB,getElem?_setIfInBounds_ne->aF,getElem?_setIfInBounds_self_of_lt->bH,map_id->gJ,mem_append->eG
open Nat renaming le_refl->aI
open Option renaming map_eq_some_iff->aG
open Go.World renaming cell?->bX
namespace Go.Proofs.YtjgpiclllehgmaaGreat
namespace Conc1
open Go Go.Conc
structure ZuM (P:Program) (ch cell:Nat) (R:RP):Prop where
 recv:Zry P ch cell R
 next:∀L v,∃n,Ze8 P ch cell n (got (R L) v true) (R (L++[v]))
def ZrB (P:Program) (St:Frame->List Frame->World->Prop):Fc->Prop
 |.one a=>ZcB P St a
 |.two G A R a=>ZuM P G A R->Zld P St G A R a
section
variable {P:Program} {St:Frame->List Frame->World->Prop} {KF:Frame->List Frame->Option (Nat×Nat×RP)}
theorem Zg9 (L:List Bool) (v:Bool):Zik (L++[v])=(Zik L).push (.bool v):=by simp[Zik]
theorem Zgc {w:World} {ch d cap:Nat} {o:Obj} {A buf':Array Value} {s r s' r':Nat} {G tm' c c':Bool}:
  ((sw w ch o).at d).setChan ch cap A c s r G=(sw ((w.at d).setChan ch 0 buf' c' s' r' tm') ch (.chan cap A c s r G)).at d:=by
 show World.mk ((w.heap.setIfInBounds ch _).setIfInBounds ch _) w.tape d w.os w.output=World.mk ((w.heap.setIfInBounds ch _).setIfInBounds ch _) w.tape d w.os w.output;simp
theorem Zms {ch cell n:Nat} {R:RP} {L:List Bool} {g:Goroutine} (h:Ze7 P ch cell R L n g):awake g:=by
 cases h with
 |run _=>exact awake_of (.inl rfl)
 |parked=>exact Zea _ _ _
theorem ZkY {pr:Nat->Prop} {ch n:Nat} {a:Cf} {g:Goroutine} (h:Zc2 P pr ch a n g):awake g:=by
 cases h with
 |run=>exact awake_of (.inl rfl)
 |parked _=>exact Zea _ _ _
theorem Zf2 {ch cell n s r cap:Nat} {R:RP} {L:List Bool} {g x y:Goroutine} {w:World} {A:Array Value} {G:Bool} (h:Ze7 P ch cell R L n g) (H:w.heap[ch]? =some (.chan cap A false s r G)):woken P x y w g=g:=by
 cases h with
 |run _=>exact woken_run rfl
 |parked=>exact woken_recv_open _ _ H
theorem Zfb {pr:Nat->Prop} {ch n s r cap:Nat} {a:Cf} {g x y:Goroutine} {w:World} {A:Array Value} {G:Bool} (h:Zc2 P pr ch a n g) (H:w.heap[ch]? =some (.chan cap A false s r G)):woken P x y w g=g:=by
 cases h with
 |run=>exact woken_run rfl
 |parked _=>exact woken_send_open _ _ H
theorem Zbp {g x y:Goroutine} {w:World} (h:g.status= .running\/g.status= .finished):woken P x y w g=g:=by
 unfold woken;split
 ·exact again_running _ h
 rfl
theorem ZkP {j cell i k c s r:Nat} {f₁ f₂ f₃ f₄:FuncId} {p₁ p₂ p₃ p₄:String} {cap:Nat} (J:i=0\/i=j) (I:k=0\/k=j):
  ∀G∈ [({g:=i,fn:=f₁,pos:=p₁,act:=.send c s}:MemOp),{g:=k,fn:=f₂,pos:=p₂,act:=.recv c r cap},{g:=i,fn:=f₃,pos:=p₃,act:=.sendDone c s},{g:=k,fn:=f₄,pos:=p₄,act:=.recvDone c r}],ZhL j cell G:=by
 intro G A;simp only[List.mem_cons,List.not_mem_nil,or_false]at A;rcases A with rfl|rfl|rfl|rfl<;>exact⟨by assumption,⟨by simp,by simp⟩,λa H=>by simp[MemAct.touch?]at H⟩
theorem ZlB {pr:Nat->Prop} {j cell ch:Nat} {fn:FuncId} {pos:String} {es:Array Event} (I:pr cell) (h:∀e∈es,YI pr e\/e=⟨.obj ch,false,true⟩):∀G∈(MemOp.ofEvents j fn pos es).toList,ZhL j cell G:=by
 intro G J;obtain⟨e,U,rfl⟩:=Conc.mem_ofEvents (Array.mem_toList_iff.1 J);rcases h e U with V|rfl
 ·exact Zdq (es:= #[e]) (fn:=fn) (pos:=pos) I (λY S=>by rw[show Y=e by simpa using S];exact V) _ (by simp[ofEvents_eq])
 refine⟨.inr rfl,⟨by simp[MemAct.ofEvent],by simp[MemAct.ofEvent]⟩,λa H hm=>.inr ⟨rfl,λZ A hw=>?_⟩⟩;simp[MemAct.ofEvent,MemAct.touch?]at H;rw[<-H]at A;cases A
theorem Zar.shut {t:Trace} {j p cell ch:Nat} (h:Zar t j p cell) (Z:p<=t.size) (y:MemOp) (J:y.g=j) (I:y.act= .close ch):Ze4 (t++ #[y]) j p cell ch t.size:=by
 have ty:y.act.touch?=none:=by rw[I];rfl
 have G:∀(i:Nat) (a:Touch) (x:MemOp),(t++ #[y])[i]? =some x->x.act.touch?=some a->t[i]? =some x:=λi a x H A=>by
  rcases getElem?_append_cases H with⟨_,U⟩|⟨_,V⟩
  ·exact U
  have:x=y:=by simpa using V
  rw[this,ty]at A;cases A
 refine⟨h.pos,YX h.clean (g:=j) (by simp[J]) (by simp[ty]),(Zht (by rw[I];exact⟨by simp,by simp⟩)).trans h.hears0,λi a Y hm S=>?_,λi a x H A hm S=>h.late i a x (G i a x H A) A hm S,⟨y,by simp,J,I⟩,⟨j,by simp[Trace.g?,J],by rw[deaf_old (aI _)];exact h.hearsJ⟩,λi a x H A hm _=>Nat.le_of_lt (lt_size_of_getElem? (G i a x H A)),by simp;omega⟩;obtain⟨x,H,A⟩:=touch_of Y;exact(h.early i a (by rw[touchAt_of (G i a x H A)];exact A) hm S).1.app _
theorem Zld.of {ch cell:Nat} {R:RP} {a:Cf} (hE:ZuM P ch cell R) (h:∀d,∃b,T P KF (.two ch cell R ⟨a.fr,a.cs,a.w.at d⟩) b/\ZrB P St b):Zld P St ch cell R a:=by
 intro A sl t q d j p L s r J nm nc gm gc h0 hm hj hc bk hL ak hp aq ao bc;have c6:∀(M:Nat) (A:Array Goroutine) (sl:Option (Nat×Nat)) (t:Trace) (q:Nat->Nat) (d nm nc:Nat) (gm gc:Goroutine),nm+nc+ConcN.sumTo A.size q<=M->
   A[0]? =some gm->Ze7 P ch cell R L nm gm->A[j]? =some gc->Zc2 P (λn=>n=cell\/n=ch) ch a nc gc->0<nm+nc->Qy P t A j q->Zar t j p cell->p<=t.size->
   QT P St (crowd A ((sw a.w ch (.chan 0 #[] false s s J)).at d) sl) t:=by
  clear h0 hm hj hc bk hL ak hp;intro M;induction M using Nat.strongRecOn with
  |_ M ih=>
   intro A sl t q d nm nc gm gc hM h0 hm hj hc bk hL ak hp;have da:=ak.pos;have Y:0<A.size:=(aM.1 h0).1;have S:j<A.size:=(aM.1 hj).1;have ai:∀d,((sw a.w ch (.chan 0 #[] false s s J)).at d).heap[ch]? =some (.chan 0 #[] false s s J):=λ_=>ZcG aq;have bm:∀d,((sw a.w ch (.chan 0 #[] false s s J)).at d).cell? ⟨cell,0,none⟩=some (.chan (some ch)):=λ_=>(Zjr aq rfl rfl _).trans ao;have cq:∀g∈A,awake g:=by
    intro g hg;obtain⟨i,hi,rfl⟩:=Array.mem_iff_getElem.1 hg;by_cases hi0:i=0
    ·subst hi0;have:A[0]=gm:=by simpa [aZ hi]using h0
     rw[this];exact Zms hm
    by_cases am:i=j
    ·subst am;have:A[i]=gc:=by simpa [aZ hi]using hj
     rw[this];exact ZkY hc
    exact awake_of ((hL.old i _ (by omega) am (aZ hi)).status.elim .inl λx=>.inr (.inr x))
   have ce:∃(i:Nat) (g:Goroutine),A[i]? =some g/\g.status= .running:=by
    cases hm with
    |run hn=>exact⟨0,_,h0,rfl⟩
    |parked=>
     cases hc with
     |run=>exact⟨j,_,hj,rfl⟩
     |parked _=>omega
   obtain⟨i,g,H,ab,hi,hg,aj⟩:=crowd_pick (P:=P) (w:=(sw a.w ch (.chan 0 #[] false s s J)).at d) (sl:=sl) cq ce;have aj:stepT P (crowd A ((sw a.w ch (.chan 0 #[] false s s J)).at d) sl)=runT P (crowd A ((sw a.w ch (.chan 0 #[] false s s J)).at H) ab) i:=aj;have bh:∀(ae:Nat) (az:Goroutine) (bl:Nat) (ca:Goroutine),(ae=0\/ae=j)->(bl=0\/bl=j)->∀(f:Goroutine->Goroutine),(∀g,g.status= .running\/g.status= .finished->f g=g)->
     ∀i g,0<i->i≠j->(((A.map f).setIfInBounds ae az).setIfInBounds bl ca)[i]? =some g->∃y,A[i]? =some y/\((y.status= .running\/y.status= .finished)->g=y):=by
    intro ae az bl ca e1 e2 f hf i g hi am U;rw[aF (by omega),aF (by omega),cB]at U;obtain⟨y,hy,rfl⟩:=aG.1 U;exact⟨y,hy,hf y⟩
   have ac:∀(ae:Nat) (az:Goroutine),(ae=0\/ae=j)->∀(f:Goroutine->Goroutine),(∀g,g.status= .running\/g.status= .finished->f g=g)->
     ∀i g,0<i->i≠j->((A.map f).setIfInBounds ae az)[i]? =some g->∃y,A[i]? =some y/\((y.status= .running\/y.status= .finished)->g=y):=by
    intro ae az e1 f hf i g hi am U;rw[aF (by omega),cB]at U;obtain⟨y,hy,rfl⟩:=aG.1 U;exact⟨y,hy,hf y⟩
   have aw:∀(k:Nat) (x:Goroutine) (i:Nat) (ck:Bool),(A.setIfInBounds i ph)[k]? =some x->0<k->k≠j->offersAt x ch ck=[]:=by
    intro k x i ck U hk ah;rcases getElem?_stand A i k x U with⟨_,rfl⟩|⟨ar,U⟩
    ·rfl
    refine offersAt_of_not_blocked ?_ _ _;rcases(hL.old k x hk ah U).status with e|e<;>rw[e]<;>simp
   by_cases hi0:i=0
   ·
    subst hi0;obtain rfl:g=gm:=by rw[h0]at hi;exact(Option.some.inj hi).symm
    cases hm with
    |parked=>cases hg
    | @run n x hn=>
     cases hn with
     |zero=>
      obtain⟨es,e1,e2⟩:=hE.recv L _ (bm H);have hk:∀V∈(MemOp.ofEvents 0 (G (R L).1 (R L).2).frame.fn (G (R L).1 (R L).2).frame.place es).toList,ZhL j cell V:=Zh0 e2;have Z:=ak.apps _ hp hk;cases hc with
      |run=>
       have a9:partners (A.setIfInBounds 0 ph) ch true=[]:=by
        refine partners_nil λk x U=>?_;by_cases au:k=0
        ·rcases getElem?_stand A 0 k x U with⟨_,rfl⟩|⟨ar,_⟩
         ·rfl
         exact absurd au ar
        by_cases ah:k=j
        ·subst ah;rw[aF (by omega),hj]at U;cases U;exact offersAt_of_not_blocked (by simp[G]) _ _
        exact aw k x 0 true U (by omega) ah
       have I:=crowd_waits (sl:=ab) h0 (show stepG P (0==0) _ _=_ from e1) (λcc bp=>by
        have:cc=rcase ch (.bool false):=by simpa using bp
        rw[this];exact ways_recv_none (ai H) a9)
       refine QT.step (aj.trans I) ?_;refine ih (0+1+ConcN.sumTo A.size q) (by omega) _ ab _ q H 0 1 _ (G a.fr a.cs) (by simp) (by first|(simp[Y];done)|(simp[Y];rfl)) .parked ?_ .run (by omega) ?_ ?_ ?_
       ·rw[aF (by omega)];exact hj
       ·refine hL.apps (λV aa=>(hk V (by simpa using aa)).1) S Y (by simp) ?_;have:=ac 0 (Conc.parked (G (R L).1 (R L).2) #[rcase ch (.bool false)] (.recv true)) (.inl rfl) id (λ_ _=>rfl);rw[gJ]at this;exact this
       ·simpa using Z
       simp;omega
      | @parked v z hs=>
       have a9:partners (A.setIfInBounds 0 ph) ch true=[(j,0)]:=by
        have:=partners_one (gs:=A.setIfInBounds 0 ph) (r:=ch) (send:=true) (stand_get (i:=0) (by omega) hj) (λk x ah U=>by
         by_cases au:k=0
         ·rcases getElem?_stand A 0 k x U with⟨_,rfl⟩|⟨ar,_⟩
          ·rfl
          exact absurd au ar
         exact aw k x 0 true U (by omega) ah)
        rw[this,offersAt_parked_send,if_pos rfl];rfl
       have I:=crowd_recv_meets (sl:=ab) h0 (show stepG P (0==0) _ _=_ from e1) (ai H) (by omega) hj a9;refine QT.step (aj.trans I) ?_;obtain⟨b,hT,hG⟩:=h H;obtain⟨db,bx,_⟩:=hs (a.w.at H);cases hT with
       |cown h1=>
        obtain⟨cj,e3,_⟩:=h1.step false;have e3:stepG P false (G a.fr a.cs) (a.w.at H)=_:=e3;rw[bx]at e3;cases e3
       |close h1 ba=>
        obtain⟨_,g,cj,n,h1,_⟩:=h1;have e3:stepG P false (G a.fr a.cs) (a.w.at H)=_:=h1 _ _ _ _ _ ba;rw[bx]at e3;cases e3
       | @send _ _ _ _ v' buf' s' r' tm' h1 ba=>
        obtain⟨rfl,rfl,rfl,rfl⟩:=Zgy aq (show a.w.heap[ch]? =_ from ba);obtain⟨z',h1⟩:=h1;obtain⟨cj,e3,_⟩:=h1 (a.w.at H);have e3:stepG P false (G a.fr a.cs) (a.w.at H)=_:=e3;rw[bx]at e3;obtain rfl:v'=v:=by
         injection e3 with _ e4;have:=congrArg (λx:Array CommCase=>(x[0]?).map (·.send)) e4;simp[scase]at this;exact this.symm
        have hG:=hG hE;obtain⟨n',bz⟩:=hE.next L v';rw[finishComm_send,finishComm_recv];have bo:=ZkP (j:=j) (cell:=cell) (i:=j) (k:=0) (c:=ch) (s:=s) (r:=s) (f₁:=(G a.fr a.cs).frame.fn) (f₂:=(G (R L).1 (R L).2).frame.fn) (f₃:=(G a.fr a.cs).frame.fn) (f₄:=(G (R L).1 (R L).2).frame.fn) (p₁:=(G a.fr a.cs).frame.place) (p₂:=(G (R L).1 (R L).2).frame.place) (p₃:=(G a.fr a.cs).frame.place) (p₄:=(G (R L).1 (R L).2).frame.place) (cap:=0) (.inr rfl) (.inl rfl);have bt:=Z.apps _ (by simp;omega) bo;have:=hG ((A.setIfInBounds j (Conc.served (G a.fr a.cs) undef)).setIfInBounds 0 (Conc.served (G (R L).1 (R L).2) (recvd true (.bool v') true))) ab
         (t++(MemOp.ofEvents 0 (G (R L).1 (R L).2).frame.fn (G (R L).1 (R L).2).frame.place es++ #[{g:=j,fn:=(G a.fr a.cs).frame.fn,pos:=(G a.fr a.cs).frame.place,act:=.send ch s},{g:=0,fn:=(G (R L).1 (R L).2).frame.fn,pos:=(G (R L).1 (R L).2).frame.place,act:=.recv ch s 0},
          {g:=j,fn:=(G a.fr a.cs).frame.fn,pos:=(G a.fr a.cs).frame.place,act:=.sendDone ch s},{g:=0,fn:=(G (R L).1 (R L).2).frame.fn,pos:=(G (R L).1 (R L).2).frame.place,act:=.recvDone ch s}])) q H j p (L++[v']) (s+1) r J (n'+1) 1 (G (got (R L) v' true).1 (got (R L) v' true).2) (G (a.fr.finish undef) a.cs)
         (by first|(simp[Y];done)|(simp[Y];rfl)) (.run bz) (by rw[aF (by omega)];simp[S];rfl) .run (by omega) ?_ ?_ (by simp;omega) ?_ ?_ bc
        ·rw[Zgc (buf':=(Zik L).push (.bool v')) (c':=false) (s':=s+1) (r':=r) (tm':=J)];exact this
        ·refine hL.apps (λV aa=>?_) S Y (by simp) ?_
         ·rcases eG.1 aa with h|h
          ·exact(hk V (by simpa using h)).1
          exact(bo V (by simpa using h)).1
         have:=bh j (Conc.served (G a.fr a.cs) undef) 0 (Conc.served (G (R L).1 (R L).2) (recvd true (.bool v') true)) (.inr rfl) (.inl rfl) id (λ_ _=>rfl);rw[gJ]at this;exact this
        ·simpa [dE]using bt
        ·have bg:ch<a.w.heap.size:=(aM.1 aq).1;show(a.w.heap.setIfInBounds ch _)[ch]? =_;rw[bH bg,Zg9]
        show bX {a.w.at H with heap:=a.w.heap.setIfInBounds ch _} _=_;unfold bX;show(match(a.w.heap.setIfInBounds ch _)[cell]? with|some (.cells c _ _)=>_|_=>none)=_;rw[aF bc];exact ao
     | @succ n _ y _ h1 h2=>
      obtain⟨es,e1,e2⟩:=h1 _ (bm H);have hk:∀V∈(MemOp.ofEvents 0 (G x.1 x.2).frame.fn (G x.1 x.2).frame.place es).toList,ZhL j cell V:=Zh0 e2;have Z:=ak.apps _ hp hk;have I:=runT_crowd_go (P:=P) (sl:=ab) (i:=0) h0 (show stepG P (0==0) _ _=_ from e1);refine QT.step (aj.trans I) ?_;refine ih (n+1+nc+ConcN.sumTo A.size q) (by omega) _ ab _ q H (n+1) nc (G y.1 y.2) gc (by simp) (by simp[Y]) (.run h2) ?_ hc (by omega) ?_ ?_ ?_
      ·rw[aF (by omega),cB,hj];exact congrArg some (Zfb hc (ai H))
      ·exact hL.apps (λV aa=>(hk V (by simpa using aa)).1) S Y (by simp) (ac 0 (G y.1 y.2) (.inl rfl) _ λg hs=>Zbp hs)
      ·simpa using Z
      simp;omega
   by_cases am:i=j
   ·
    subst am;obtain rfl:g=gc:=by rw[hj]at hi;exact(Option.some.inj hi).symm
    have bu:(i==0)=false:=by simp;omega
    cases hc with
    |parked _=>cases hg
    |run=>
     obtain⟨b,hT,hG⟩:=h H;cases hT with
     | @cown _ b _ _ _ h1=>
      have hG:=hG hE;obtain⟨cn,c9⟩:=h1.swap (o₂:=.chan 0 #[] false s s J) (.inr rfl) (show a.w.heap[ch]? =_ from aq) rfl rfl;obtain⟨es,e1,e2⟩:=c9.step false;have hk:∀V∈(MemOp.ofEvents i (G a.fr a.cs).frame.fn (G a.fr a.cs).frame.place es).toList,ZhL i cell V:=Zdq (pr:=λn=>n=cell\/n=ch) (.inl rfl) e2;have Z:=ak.apps _ hp hk;have I:=runT_crowd_go (P:=P) (sl:=ab) (i:=i) hj ((congrArg (λb=>stepG P b (G a.fr a.cs) ((sw a.w ch (.chan 0 #[] false s s J)).at H)) bu).trans e1);refine QT.step (aj.trans I) ?_;have cy:b.w.cell? ⟨cell,0,none⟩=some (.chan (some ch)):=h1.keep (.inl rfl) (show(a.w.at H).cell? _=_ from ao);have cg:(sw b.w ch (.chan 0 #[] false s s J)).heap[ch]? =some (.chan 0 #[] false s s J):=ZcG cn;have:=hG ((A.map (woken P (G a.fr a.cs) (G b.fr b.cs) (sw b.w ch (.chan 0 #[] false s s J)))).setIfInBounds i (G b.fr b.cs)) ab (t++MemOp.ofEvents i (G a.fr a.cs).frame.fn (G a.fr a.cs).frame.place es) q b.w.drawn i p L s r J nm 1 gm (G b.fr b.cs)
       (by rw[aF (by omega),cB,h0];exact congrArg some (Zf2 hm cg)) hm (by simp[S]) .run (by omega) ?_ ?_ (by simp;omega) cn cy bc
      ·exact this
      ·exact hL.apps (λV aa=>(hk V (by simpa using aa)).1) S Y (by simp) (ac i (G b.fr b.cs) (.inr rfl) _ λg hs=>Zbp hs)
      simpa using Z
     | @send _ _ _ _ v' buf' s' r' tm' h1 ba=>
      obtain⟨rfl,rfl,rfl,rfl⟩:=Zgy aq (show a.w.heap[ch]? =_ from ba);obtain⟨z',h1⟩:=h1;obtain⟨es,e1,e2⟩:=h1 ((sw a.w ch (.chan 0 #[] false s s J)).at H);have e1:=(congrArg (λb=>stepG P b (G a.fr a.cs) ((sw a.w ch (.chan 0 #[] false s s J)).at H)) bu).trans e1;have hk:∀V∈(MemOp.ofEvents i (G a.fr a.cs).frame.fn (G a.fr a.cs).frame.place es).toList,ZhL i cell V:=Zdq (pr:=λn=>n=cell\/n=ch) (.inl rfl) e2;have Z:=ak.apps _ hp hk;cases hm with
      | @run n x hn=>
       have a9:partners (A.setIfInBounds i ph) ch false=[]:=by
        refine partners_nil λk x U=>?_;by_cases ah:k=i
        ·rcases getElem?_stand A i k x U with⟨_,rfl⟩|⟨ar,_⟩
         ·rfl
         exact absurd ah ar
        by_cases au:k=0
        ·subst au;rw[aF (by omega),h0]at U;cases U;exact offersAt_of_not_blocked (by simp[G]) _ _
        exact aw k x i false U (by omega) ah
       have I:=crowd_waits (sl:=ab) hj e1 (λcc bp=>by
        have:cc=scase ch (.bool v') z':=by simpa using bp
        rw[this];exact ways_send_none (ai H) (by simp) a9)
       refine QT.step (aj.trans I) ?_;refine ih (n+1+0+ConcN.sumTo A.size q) (by omega) _ ab _ q H (n+1) 0 (G x.1 x.2) _ (by simp) (by rw[aF (by omega)];exact h0) (.run hn) (by first|(simp[S];done)|(simp[S];rfl)) (.parked h1) (by omega) ?_ ?_ ?_
       ·refine hL.apps (λV aa=>(hk V (by simpa using aa)).1) S Y (by simp) ?_;have:=ac i (Conc.parked (G a.fr a.cs) #[scase ch (.bool v') z'] .send) (.inr rfl) id (λ_ _=>rfl);rw[gJ]at this;exact this
       ·simpa using Z
       simp;omega
      |parked=>
       have a9:partners (A.setIfInBounds i ph) ch false=[(0,0)]:=by
        have:=partners_one (gs:=A.setIfInBounds i ph) (r:=ch) (send:=false) (stand_get (i:=i) (by omega) h0) (λk x au U=>by
         by_cases ah:k=i
         ·rcases getElem?_stand A i k x U with⟨_,rfl⟩|⟨ar,_⟩
          ·rfl
          exact absurd ah ar
         exact aw k x i false U (by omega) ah)
        rw[this,offersAt_parked_recv,if_pos rfl];rfl
       have I:=crowd_send_meets (sl:=ab) hj e1 (ai H) (by omega) h0 a9;refine QT.step (aj.trans I) ?_;have hG:=hG hE;obtain⟨n',bz⟩:=hE.next L v';rw[finishComm_send,finishComm_recv];have bo:=ZkP (j:=i) (cell:=cell) (i:=i) (k:=0) (c:=ch) (s:=s) (r:=s) (f₁:=(G a.fr a.cs).frame.fn) (f₂:=(G (R L).1 (R L).2).frame.fn) (f₃:=(G a.fr a.cs).frame.fn) (f₄:=(G (R L).1 (R L).2).frame.fn) (p₁:=(G a.fr a.cs).frame.place) (p₂:=(G (R L).1 (R L).2).frame.place) (p₃:=(G a.fr a.cs).frame.place) (p₄:=(G (R L).1 (R L).2).frame.place) (cap:=0) (.inr rfl) (.inl rfl);have bt:=Z.apps _ (by simp;omega) bo;have:=hG ((A.setIfInBounds 0 (Conc.served (G (R L).1 (R L).2) (recvd true (.bool v') true))).setIfInBounds i (Conc.served (G a.fr a.cs) undef)) ab
        (t++(MemOp.ofEvents i (G a.fr a.cs).frame.fn (G a.fr a.cs).frame.place es++ #[{g:=i,fn:=(G a.fr a.cs).frame.fn,pos:=(G a.fr a.cs).frame.place,act:=.send ch s},{g:=0,fn:=(G (R L).1 (R L).2).frame.fn,pos:=(G (R L).1 (R L).2).frame.place,act:=.recv ch s 0},
         {g:=i,fn:=(G a.fr a.cs).frame.fn,pos:=(G a.fr a.cs).frame.place,act:=.sendDone ch s},{g:=0,fn:=(G (R L).1 (R L).2).frame.fn,pos:=(G (R L).1 (R L).2).frame.place,act:=.recvDone ch s}])) q H i p (L++[v']) (s+1) r J (n'+1) 1 (G (got (R L) v' true).1 (got (R L) v' true).2) (G (a.fr.finish undef) a.cs)
        (by rw[aF (by omega)];simp[Y];rfl) (.run bz) (by first|(simp[S];done)|(simp[S];rfl)) .run (by omega) ?_ ?_ (by simp;omega) ?_ ?_ bc
       ·rw[Zgc (buf':=(Zik L).push (.bool v')) (c':=false) (s':=s+1) (r':=r) (tm':=J)];exact this
       ·refine hL.apps (λV aa=>?_) S Y (by simp) ?_
        ·rcases eG.1 aa with h|h
         ·exact(hk V (by simpa using h)).1
         exact(bo V (by simpa using h)).1
        have:=bh 0 (Conc.served (G (R L).1 (R L).2) (recvd true (.bool v') true)) i (Conc.served (G a.fr a.cs) undef) (.inl rfl) (.inr rfl) id (λ_ _=>rfl);rw[gJ]at this;exact this
       ·simpa [dE]using bt
       ·have bg:ch<a.w.heap.size:=(aM.1 aq).1;show(a.w.heap.setIfInBounds ch _)[ch]? =_;rw[bH bg,Zg9]
       show bX {a.w.at H with heap:=a.w.heap.setIfInBounds ch _} _=_;unfold bX;show(match(a.w.heap.setIfInBounds ch _)[cell]? with|some (.cells c _ _)=>_|_=>none)=_;rw[aF bc];exact ao
     | @close _ _ _ _ L' s' r' tm' h1 ba=>
      obtain⟨e3,rfl,rfl,rfl⟩:=Zgy aq (show a.w.heap[ch]? =_ from ba);obtain rfl:=Zim e3;obtain⟨cr,g,es,n,h1,h2,h3⟩:=h1;have e1:=h1 ((sw a.w ch (.chan 0 #[] false s s J)).at H) _ _ _ _ (ai H);have hG:ZcB P St _:=hG;have e1:=(congrArg (λb=>stepG P b (G a.fr a.cs) ((sw a.w ch (.chan 0 #[] false s s J)).at H)) bu).trans e1;have I:=runT_crowd_go (P:=P) (sl:=ab) (i:=i) hj e1;refine QT.step (aj.trans I) ?_;have hW:((sw a.w ch (.chan 0 #[] false s s J)).at H).setChan ch 0 #[] true s s J=(a.w.at H).setChan ch 0 #[] true s s J:=by
       show World.mk ((a.w.heap.setIfInBounds ch _).setIfInBounds ch _) a.w.tape H a.w.os a.w.output=World.mk (a.w.heap.setIfInBounds ch _) a.w.tape H a.w.os a.w.output;simp
      have hk:∀V∈(MemOp.ofEvents i (G a.fr a.cs).frame.fn (G a.fr a.cs).frame.place es).toList,ZhL i cell V:=ZlB (pr:=λn=>n=cell\/n=ch) (.inl rfl) h2;have Z:=ak.apps _ hp hk;have hS:=Z.shut (by simp;omega) {g:=i,fn:=(G a.fr a.cs).frame.fn,pos:=(G a.fr a.cs).frame.place,act:=.close ch} (ch:=ch) rfl rfl;have aa:t++MemOp.ofEvents i (G a.fr a.cs).frame.fn (G a.fr a.cs).frame.place (es.push ⟨.obj ch,true,true⟩)=(t++(MemOp.ofEvents i (G a.fr a.cs).frame.fn (G a.fr a.cs).frame.place es).toList.toArray)++ #[{g:=i,fn:=(G a.fr a.cs).frame.fn,pos:=(G a.fr a.cs).frame.place,act:=.close ch}]:=by
       rw[Array.toArray_toList,dE,ofEvents_eq,ofEvents_eq];congr 1;rw[Array.map_push,Array.push_eq_append];rfl
      have bg:ch<a.w.heap.size:=(aM.1 aq).1;have ci:((a.w.at H).setChan ch 0 #[] true s s J).heap[ch]? =some (.chan 0 #[] true s s J):=by
       show(a.w.heap.setIfInBounds ch _)[ch]? =_;rw[bH bg]
      have bp:((a.w.at H).setChan ch 0 #[] true s s J).cell? ⟨cell,0,none⟩=some (.chan (some ch)):=by
       unfold bX;show(match(a.w.heap.setIfInBounds ch _)[cell]? with|some (.cells c _ _)=>_|_=>none)=_;rw[aF bc];exact ao
      have cf:∃bw bq,(if mayWake P (G a.fr a.cs)&&g.status != .blocked&&g.status != .waiting then gm.again ((a.w.at H).setChan ch 0 #[] true s s J)else gm)=bq/\Zbn P ch cell R L bw bq:=by
       cases hm with
       | @run n x hn=>
        refine⟨n,G x.1 x.2,?_,.run hn⟩;split
        ·exact again_running _ (.inl rfl)
        rfl
       |parked=>
        refine⟨0,_,?_,.woken⟩;rw[if_pos,again_recv_closed ci];rw[cr];rcases h3.status with e|e<;>rw[e]<;>rfl
      obtain⟨bw,bq,ct,cz⟩:=cf;rw[aa,hW];have cw:((A.map (woken P (G a.fr a.cs) g ((a.w.at H).setChan ch 0 #[] true s s J))).setIfInBounds i g)[0]? =some bq:=by
       rw[aF (by omega),cB,h0];exact congrArg some ct
      refine ZxJ (q:=ConcN.upd q i n) (j:=i) (p:=p) (d:=H) hE.recv ci bp hG _ _ _ _ _ bw bq (aI _) cw cz ?_ hS (by omega) (by simpa using S);have b9:=hL.apps (gs':=(A.map (woken P (G a.fr a.cs) g ((a.w.at H).setChan ch 0 #[] true s s J))).setIfInBounds i g) (u:=MemOp.ofEvents i (G a.fr a.cs).frame.fn (G a.fr a.cs).frame.place (es.push ⟨.obj ch,true,true⟩)) (λV h=>by obtain⟨e,_,rfl⟩:=Conc.mem_ofEvents h;exact .inr rfl) S Y (by simp) (ac i g (.inr rfl) _ λg hs=>Zbp hs);rw[aa]at b9;refine⟨λk x au U=>?_,b9.above⟩;by_cases hki:k=i
      ·subst hki;rw[bH (by simpa using S)]at U;obtain rfl:=Option.some.inj U;rw[ConcN.upd_same,Zht ⟨by simp,by simp⟩,Z.hearsJ];exact h3
      rw[ConcN.upd_ne q n hki];exact b9.old k x au hki U
   
   obtain⟨g',es,k,dc,c8,I,cu,bg⟩:=hL.move hi (by omega) am hg ((sw a.w ch (.chan 0 #[] false s s J)).at H) ab;refine QT.step (aj.trans I) ?_;have hn:∀V∈MemOp.ofEvents i g.frame.fn g.frame.place es,V.act.touch?=none:=λV aa=>by obtain⟨e,he,rfl⟩:=Conc.mem_ofEvents aa;exact touch_mute (c8 e he)
   refine ih (nm+nc+ConcN.sumTo A.size (ConcN.upd q i k)) (by omega) _ ab _ _ H nm nc gm gc (by simp) ?_ hm ?_ hc bk cu (ak.appMute hi0 am Yg hn hp) (by simp;omega)
   ·rw[aF hi0,cB,h0];exact congrArg some (Zf2 hm (ai H))
   rw[aF am,cB,hj];exact congrArg some (Zfb hc (ai H))
 exact c6 _ A sl t q d nm nc gm gc (aI _) h0 hm hj hc bk hL ak hp
end
end Conc1
end Go.Proofs.YtjgpiclllehgmaaGreat
