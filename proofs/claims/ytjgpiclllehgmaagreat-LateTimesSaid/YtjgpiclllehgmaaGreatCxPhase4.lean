/- Lemmas. -/
import Derived.Test.YtjgpiclllehgmaaGreatCxPhase3
import Derived.Test.YtjgpiclllehgmaaGreatCxKeep
set_option linter.all false
open Array renaming append_assoc->dB,getElem?_eq_getElem->aY,getElem?_eq_some_iff->aM,getElem?_map->bZ,getElem?_setIfInBounds_ne->aF,getElem?_setIfInBounds_self_of_lt->bH,map_id->gD,mem_append->eC
open Nat renaming le_refl->aJ
open Option renaming map_eq_some_iff->aG
open Go.World renaming cell?->bU
namespace Go.Proofs.YtjgpiclllehgmaaGreat
namespace Conc1
open Go Go.Conc
structure Zuq (P:Program) (ch cell:Nat) (R:RP):Prop where
 recv:Zrd P ch cell R
 next:∀L v,∃n,ZeL P ch cell n (got (R L) v true) (R (L++[v]))
def Zrg (P:Program) (St:Frame->List Frame->World->Prop):Fc->Prop
 |.one a=>Zco P St a
 |.two G A R a=>Zuq P G A R->ZkK P St G A R a
section
variable {P:Program} {St:Frame->List Frame->World->Prop} {KF:Frame->List Frame->Option (Nat×Nat×RP)}
theorem ZgT (L:List Bool) (v:Bool):ZhW (L++[v])=(ZhW L).push (.bool v):=by simp[ZhW]
theorem ZfS {w:World} {ch d cap:Nat} {o:Obj} {A buf':Array Value} {s r s' r':Nat} {G tm' c c':Bool}:
  ((sw w ch o).at d).setChan ch cap A c s r G=(sw ((w.at d).setChan ch 0 buf' c' s' r' tm') ch (.chan cap A c s r G)).at d:=by
 show World.mk ((w.heap.setIfInBounds ch _).setIfInBounds ch _) w.tape d w.os w.output=World.mk ((w.heap.setIfInBounds ch _).setIfInBounds ch _) w.tape d w.os w.output;simp
theorem Zl1 {ch cell n:Nat} {R:RP} {L:List Bool} {g:Goroutine} (h:ZeK P ch cell R L n g):awake g:=by
 cases h with
 |run _=>exact awake_of (.inl rfl)
 |parked=>exact ZdR _ _ _
theorem Zkv {pr:Nat->Prop} {ch n:Nat} {a:Cf} {g:Goroutine} (h:ZcN P pr ch a n g):awake g:=by
 cases h with
 |run=>exact awake_of (.inl rfl)
 |parked _=>exact ZdR _ _ _
theorem ZfK {ch cell n s r cap:Nat} {R:RP} {L:List Bool} {g x y:Goroutine} {w:World} {A:Array Value} {G:Bool} (h:ZeK P ch cell R L n g) (H:w.heap[ch]? =some (.chan cap A false s r G)):woken P x y w g=g:=by
 cases h with
 |run _=>exact woken_run rfl
 |parked=>exact woken_recv_open _ _ H
theorem ZeP {pr:Nat->Prop} {ch n s r cap:Nat} {a:Cf} {g x y:Goroutine} {w:World} {A:Array Value} {G:Bool} (h:ZcN P pr ch a n g) (H:w.heap[ch]? =some (.chan cap A false s r G)):woken P x y w g=g:=by
 cases h with
 |run=>exact woken_run rfl
 |parked _=>exact woken_send_open _ _ H
theorem Za7 {g x y:Goroutine} {w:World} (h:g.status= .running\/g.status= .finished):woken P x y w g=g:=by
 unfold woken;split
 ·exact again_running _ h
 rfl
theorem Zkm {j cell i k c s r:Nat} {f₁ f₂ f₃ f₄:FuncId} {p₁ p₂ p₃ p₄:String} {cap:Nat} (J:i=0\/i=j) (I:k=0\/k=j):
  ∀G∈ [({g:=i,fn:=f₁,pos:=p₁,act:=.send c s}:MemOp),{g:=k,fn:=f₂,pos:=p₂,act:=.recv c r cap},{g:=i,fn:=f₃,pos:=p₃,act:=.sendDone c s},{g:=k,fn:=f₄,pos:=p₄,act:=.recvDone c r}],Zhr j cell G:=by
 intro G A;simp only[List.mem_cons,List.not_mem_nil,or_false]at A;rcases A with rfl|rfl|rfl|rfl<;>exact⟨by assumption,⟨by simp,by simp⟩,fun a H=>by simp[MemAct.touch?]at H⟩
theorem Zk7 {pr:Nat->Prop} {j cell ch:Nat} {fn:FuncId} {pos:String} {es:Array Event} (H:pr cell) (h:∀e∈es,Yw pr e\/e=⟨.obj ch,false,true⟩):∀S∈(MemOp.ofEvents j fn pos es).toList,Zhr j cell S:=by
 intro S G;obtain⟨e,V,rfl⟩:=Conc.mem_ofEvents (Array.mem_toList_iff.1 G);rcases h e V with Y|rfl
 ·exact Zc9 (es:= #[e]) (fn:=fn) (pos:=pos) H (fun U I=>by rw[show U=e by simpa using I];exact Y) _ (by simp[ofEvents_eq])
 refine⟨.inr rfl,⟨by simp[MemAct.ofEvent],by simp[MemAct.ofEvent]⟩,fun a J hm=>.inr ⟨rfl,fun Z A hw=>?_⟩⟩;simp[MemAct.ofEvent,MemAct.touch?]at J;rw[<-J]at A;cases A
theorem Zad.shut {t:Trace} {j p cell ch:Nat} (h:Zad t j p cell) (Z:p<=t.size) (y:MemOp) (S:y.g=j) (J:y.act= .close ch):ZeH (t++ #[y]) j p cell ch t.size:=by
 have ty:y.act.touch?=none:=by rw[J];rfl
 have H:∀(i:Nat) (a:Touch) (x:MemOp),(t++ #[y])[i]? =some x->x.act.touch?=some a->t[i]? =some x:=fun i a x G A=>by
  rcases getElem?_append_cases G with⟨_,U⟩|⟨_,V⟩
  ·exact U
  have:x=y:=by simpa using V
  rw[this,ty]at A;cases A
 refine⟨h.pos,YM h.clean (g:=j) (by simp[S]) (by simp[ty]),(Zg8 (by rw[J];exact⟨by simp,by simp⟩)).trans h.hears0,fun i a Y hm I=>?_,fun i a x G A hm I=>h.late i a x (H i a x G A) A hm I,⟨y,by simp,S,J⟩,⟨j,by simp[Trace.g?,S],by rw[deaf_old (aJ _)];exact h.hearsJ⟩,fun i a x G A hm _=>Nat.le_of_lt (lt_size_of_getElem? (H i a x G A)),by simp;omega⟩;obtain⟨x,G,A⟩:=touch_of Y;exact(h.early i a (by rw[touchAt_of (H i a x G A)];exact A) hm I).1.app _
theorem ZkK.of {ch cell:Nat} {R:RP} {a:Cf} (hE:Zuq P ch cell R) (h:∀d,∃b,T P KF (.two ch cell R ⟨a.fr,a.cs,a.w.at d⟩) b/\Zrg P St b):ZkK P St ch cell R a:=by
 intro H sl t q d j p L s r S nm nc gm gc h0 hm hj hc bh hL aj hp ao am bc;have cr:∀(M:Nat) (H:Array Goroutine) (sl:Option (Nat×Nat)) (t:Trace) (q:Nat->Nat) (d nm nc:Nat) (gm gc:Goroutine),nm+nc+ConcN.sumTo H.size q<=M->
   H[0]? =some gm->ZeK P ch cell R L nm gm->H[j]? =some gc->ZcN P (fun n=>n=cell\/n=ch) ch a nc gc->0<nm+nc->Qo P t H j q->Zad t j p cell->p<=t.size->
   QJ P St (crowd H ((sw a.w ch (.chan 0 #[] false s s S)).at d) sl) t:=by
  clear h0 hm hj hc bh hL aj hp;intro M;induction M using Nat.strongRecOn with
  |_ M ih=>
   intro H sl t q d nm nc gm gc hM h0 hm hj hc bh hL aj hp;have c9:=aj.pos;have V:0<H.size:=(aM.1 h0).1;have J:j<H.size:=(aM.1 hj).1;have ai:∀d,((sw a.w ch (.chan 0 #[] false s s S)).at d).heap[ch]? =some (.chan 0 #[] false s s S):=fun _=>Zcs ao;have bm:∀d,((sw a.w ch (.chan 0 #[] false s s S)).at d).cell? ⟨cell,0,none⟩=some (.chan (some ch)):=fun _=>(Zi1 ao rfl rfl _).trans am;have ct:∀g∈H,awake g:=by
    intro g hg;obtain⟨i,hi,rfl⟩:=Array.mem_iff_getElem.1 hg;by_cases hi0:i=0
    ·subst hi0;have:H[0]=gm:=by simpa [aY hi]using h0
     rw[this];exact Zl1 hm
    by_cases al:i=j
    ·subst al;have:H[i]=gc:=by simpa [aY hi]using hj
     rw[this];exact Zkv hc
    exact awake_of ((hL.old i _ (by omega) al (aY hi)).status.elim .inl fun x=>.inr (.inr x))
   have ce:∃(i:Nat) (g:Goroutine),H[i]? =some g/\g.status= .running:=by
    cases hm with
    |run hn=>exact⟨0,_,h0,rfl⟩
    |parked=>
     cases hc with
     |run=>exact⟨j,_,hj,rfl⟩
     |parked _=>omega
   obtain⟨i,g,A,ab,hi,hg,ak⟩:=crowd_pick (P:=P) (w:=(sw a.w ch (.chan 0 #[] false s s S)).at d) (sl:=sl) ct ce;have ak:stepT P (crowd H ((sw a.w ch (.chan 0 #[] false s s S)).at d) sl)=runT P (crowd H ((sw a.w ch (.chan 0 #[] false s s S)).at A) ab) i:=ak;have a9:∀(ae:Nat) (au:Goroutine) (bg:Nat) (bu:Goroutine),(ae=0\/ae=j)->(bg=0\/bg=j)->∀(f:Goroutine->Goroutine),(∀g,g.status= .running\/g.status= .finished->f g=g)->
     ∀i g,0<i->i≠j->(((H.map f).setIfInBounds ae au).setIfInBounds bg bu)[i]? =some g->∃y,H[i]? =some y/\((y.status= .running\/y.status= .finished)->g=y):=by
    intro ae au bg bu e1 e2 f hf i g hi al U;rw[aF (by omega),aF (by omega),bZ]at U;obtain⟨y,hy,rfl⟩:=aG.1 U;exact⟨y,hy,hf y⟩
   have ac:∀(ae:Nat) (au:Goroutine),(ae=0\/ae=j)->∀(f:Goroutine->Goroutine),(∀g,g.status= .running\/g.status= .finished->f g=g)->
     ∀i g,0<i->i≠j->((H.map f).setIfInBounds ae au)[i]? =some g->∃y,H[i]? =some y/\((y.status= .running\/y.status= .finished)->g=y):=by
    intro ae au e1 f hf i g hi al U;rw[aF (by omega),bZ]at U;obtain⟨y,hy,rfl⟩:=aG.1 U;exact⟨y,hy,hf y⟩
   have ar:∀(k:Nat) (x:Goroutine) (i:Nat) (cj:Bool),(H.setIfInBounds i ph)[k]? =some x->0<k->k≠j->offersAt x ch cj=[]:=by
    intro k x i cj U hk ah;rcases getElem?_stand H i k x U with⟨_,rfl⟩|⟨ap,U⟩
    ·rfl
    refine offersAt_of_not_blocked ?_ _ _;rcases(hL.old k x hk ah U).status with e|e<;>rw[e]<;>simp
   by_cases hi0:i=0
   ·
    subst hi0;obtain rfl:g=gm:=by rw[h0]at hi;exact(Option.some.inj hi).symm
    cases hm with
    |parked=>cases hg
    | @run n x hn=>
     cases hn with
     |zero=>
      obtain⟨es,e1,e2⟩:=hE.recv L _ (bm A);have hk:∀Y∈(MemOp.ofEvents 0 (G (R L).1 (R L).2).frame.fn (G (R L).1 (R L).2).frame.place es).toList,Zhr j cell Y:=ZhD e2;have Z:=aj.apps _ hp hk;cases hc with
      |run=>
       have az:partners (H.setIfInBounds 0 ph) ch true=[]:=by
        refine partners_nil fun k x U=>?_;by_cases aq:k=0
        ·rcases getElem?_stand H 0 k x U with⟨_,rfl⟩|⟨ap,_⟩
         ·rfl
         exact absurd aq ap
        by_cases ah:k=j
        ·subst ah;rw[aF (by omega),hj]at U;cases U;exact offersAt_of_not_blocked (by simp[G]) _ _
        exact ar k x 0 true U (by omega) ah
       have I:=crowd_waits (sl:=ab) h0 (show stepG P (0==0) _ _=_ from e1) (fun cc bk=>by
        have:cc=rcase ch (.bool false):=by simpa using bk
        rw[this];exact ways_recv_none (ai A) az)
       refine QJ.step (ak.trans I) ?_;refine ih (0+1+ConcN.sumTo H.size q) (by omega) _ ab _ q A 0 1 _ (G a.fr a.cs) (by simp) (by first|(simp[V];done)|(simp[V];rfl)) .parked ?_ .run (by omega) ?_ ?_ ?_
       ·rw[aF (by omega)];exact hj
       ·refine hL.apps (fun Y aa=>(hk Y (by simpa using aa)).1) J V (by simp) ?_;have:=ac 0 (Conc.parked (G (R L).1 (R L).2) #[rcase ch (.bool false)] (.recv true)) (.inl rfl) id (fun _ _=>rfl);rw[gD]at this;exact this
       ·simpa using Z
       simp;omega
      | @parked v z hs=>
       have az:partners (H.setIfInBounds 0 ph) ch true=[(j,0)]:=by
        have:=partners_one (gs:=H.setIfInBounds 0 ph) (r:=ch) (send:=true) (stand_get (i:=0) (by omega) hj) (fun k x ah U=>by
         by_cases aq:k=0
         ·rcases getElem?_stand H 0 k x U with⟨_,rfl⟩|⟨ap,_⟩
          ·rfl
          exact absurd aq ap
         exact ar k x 0 true U (by omega) ah)
        rw[this,offersAt_parked_send,if_pos rfl];rfl
       have I:=crowd_recv_meets (sl:=ab) h0 (show stepG P (0==0) _ _=_ from e1) (ai A) (by omega) hj az;refine QJ.step (ak.trans I) ?_;obtain⟨b,hT,hG⟩:=h A;obtain⟨da,bx,_⟩:=hs (a.w.at A);cases hT with
       |cown h1=>
        obtain⟨ci,e3,_⟩:=h1.step false;have e3:stepG P false (G a.fr a.cs) (a.w.at A)=_:=e3;rw[bx]at e3;cases e3
       |close h1 aw=>
        obtain⟨_,g,ci,n,h1,_⟩:=h1;have e3:stepG P false (G a.fr a.cs) (a.w.at A)=_:=h1 _ _ _ _ _ aw;rw[bx]at e3;cases e3
       | @send _ _ _ _ v' buf' s' r' tm' h1 aw=>
        obtain⟨rfl,rfl,rfl,rfl⟩:=Zge ao (show a.w.heap[ch]? =_ from aw);obtain⟨z',h1⟩:=h1;obtain⟨ci,e3,_⟩:=h1 (a.w.at A);have e3:stepG P false (G a.fr a.cs) (a.w.at A)=_:=e3;rw[bx]at e3;obtain rfl:v'=v:=by
         injection e3 with _ e4;have:=congrArg (fun x:Array CommCase=>(x[0]?).map (·.send)) e4;simp[scase]at this;exact this.symm
        have hG:=hG hE;obtain⟨n',bw⟩:=hE.next L v';rw[finishComm_send,finishComm_recv];have bo:=Zkm (j:=j) (cell:=cell) (i:=j) (k:=0) (c:=ch) (s:=s) (r:=s) (f₁:=(G a.fr a.cs).frame.fn) (f₂:=(G (R L).1 (R L).2).frame.fn) (f₃:=(G a.fr a.cs).frame.fn) (f₄:=(G (R L).1 (R L).2).frame.fn) (p₁:=(G a.fr a.cs).frame.place) (p₂:=(G (R L).1 (R L).2).frame.place) (p₃:=(G a.fr a.cs).frame.place) (p₄:=(G (R L).1 (R L).2).frame.place) (cap:=0) (.inr rfl) (.inl rfl);have bq:=Z.apps _ (by simp;omega) bo;have:=hG ((H.setIfInBounds j (Conc.served (G a.fr a.cs) undef)).setIfInBounds 0 (Conc.served (G (R L).1 (R L).2) (recvd true (.bool v') true))) ab
         (t++(MemOp.ofEvents 0 (G (R L).1 (R L).2).frame.fn (G (R L).1 (R L).2).frame.place es++ #[{g:=j,fn:=(G a.fr a.cs).frame.fn,pos:=(G a.fr a.cs).frame.place,act:=.send ch s},{g:=0,fn:=(G (R L).1 (R L).2).frame.fn,pos:=(G (R L).1 (R L).2).frame.place,act:=.recv ch s 0},
          {g:=j,fn:=(G a.fr a.cs).frame.fn,pos:=(G a.fr a.cs).frame.place,act:=.sendDone ch s},{g:=0,fn:=(G (R L).1 (R L).2).frame.fn,pos:=(G (R L).1 (R L).2).frame.place,act:=.recvDone ch s}])) q A j p (L++[v']) (s+1) r S (n'+1) 1 (G (got (R L) v' true).1 (got (R L) v' true).2) (G (a.fr.finish undef) a.cs)
         (by first|(simp[V];done)|(simp[V];rfl)) (.run bw) (by rw[aF (by omega)];simp[J];rfl) .run (by omega) ?_ ?_ (by simp;omega) ?_ ?_ bc
        ·rw[ZfS (buf':=(ZhW L).push (.bool v')) (c':=false) (s':=s+1) (r':=r) (tm':=S)];exact this
        ·refine hL.apps (fun Y aa=>?_) J V (by simp) ?_
         ·rcases eC.1 aa with h|h
          ·exact(hk Y (by simpa using h)).1
          exact(bo Y (by simpa using h)).1
         have:=a9 j (Conc.served (G a.fr a.cs) undef) 0 (Conc.served (G (R L).1 (R L).2) (recvd true (.bool v') true)) (.inr rfl) (.inl rfl) id (fun _ _=>rfl);rw[gD]at this;exact this
        ·simpa [dB]using bq
        ·have ba:ch<a.w.heap.size:=(aM.1 ao).1;show(a.w.heap.setIfInBounds ch _)[ch]? =_;rw[bH ba,ZgT]
        show bU {a.w.at A with heap:=a.w.heap.setIfInBounds ch _} _=_;unfold bU;show(match(a.w.heap.setIfInBounds ch _)[cell]? with|some (.cells c _ _)=>_|_=>none)=_;rw[aF bc];exact am
     | @succ n _ y _ h1 h2=>
      obtain⟨es,e1,e2⟩:=h1 _ (bm A);have hk:∀Y∈(MemOp.ofEvents 0 (G x.1 x.2).frame.fn (G x.1 x.2).frame.place es).toList,Zhr j cell Y:=ZhD e2;have Z:=aj.apps _ hp hk;have I:=runT_crowd_go (P:=P) (sl:=ab) (i:=0) h0 (show stepG P (0==0) _ _=_ from e1);refine QJ.step (ak.trans I) ?_;refine ih (n+1+nc+ConcN.sumTo H.size q) (by omega) _ ab _ q A (n+1) nc (G y.1 y.2) gc (by simp) (by simp[V]) (.run h2) ?_ hc (by omega) ?_ ?_ ?_
      ·rw[aF (by omega),bZ,hj];exact congrArg some (ZeP hc (ai A))
      ·exact hL.apps (fun Y aa=>(hk Y (by simpa using aa)).1) J V (by simp) (ac 0 (G y.1 y.2) (.inl rfl) _ fun g hs=>Za7 hs)
      ·simpa using Z
      simp;omega
   by_cases al:i=j
   ·
    subst al;obtain rfl:g=gc:=by rw[hj]at hi;exact(Option.some.inj hi).symm
    have bp:(i==0)=false:=by simp;omega
    cases hc with
    |parked _=>cases hg
    |run=>
     obtain⟨b,hT,hG⟩:=h A;cases hT with
     | @cown _ b _ _ _ h1=>
      have hG:=hG hE;obtain⟨cg,cn⟩:=h1.swap (o₂:=.chan 0 #[] false s s S) (.inr rfl) (show a.w.heap[ch]? =_ from ao) rfl rfl;obtain⟨es,e1,e2⟩:=cn.step false;have hk:∀Y∈(MemOp.ofEvents i (G a.fr a.cs).frame.fn (G a.fr a.cs).frame.place es).toList,Zhr i cell Y:=Zc9 (pr:=fun n=>n=cell\/n=ch) (.inl rfl) e2;have Z:=aj.apps _ hp hk;have I:=runT_crowd_go (P:=P) (sl:=ab) (i:=i) hj ((congrArg (fun b=>stepG P b (G a.fr a.cs) ((sw a.w ch (.chan 0 #[] false s s S)).at A)) bp).trans e1);refine QJ.step (ak.trans I) ?_;have cq:b.w.cell? ⟨cell,0,none⟩=some (.chan (some ch)):=h1.keep (.inl rfl) (show(a.w.at A).cell? _=_ from am);have b9:(sw b.w ch (.chan 0 #[] false s s S)).heap[ch]? =some (.chan 0 #[] false s s S):=Zcs cg;have:=hG ((H.map (woken P (G a.fr a.cs) (G b.fr b.cs) (sw b.w ch (.chan 0 #[] false s s S)))).setIfInBounds i (G b.fr b.cs)) ab (t++MemOp.ofEvents i (G a.fr a.cs).frame.fn (G a.fr a.cs).frame.place es) q b.w.drawn i p L s r S nm 1 gm (G b.fr b.cs)
       (by rw[aF (by omega),bZ,h0];exact congrArg some (ZfK hm b9)) hm (by simp[J]) .run (by omega) ?_ ?_ (by simp;omega) cg cq bc
      ·exact this
      ·exact hL.apps (fun Y aa=>(hk Y (by simpa using aa)).1) J V (by simp) (ac i (G b.fr b.cs) (.inr rfl) _ fun g hs=>Za7 hs)
      simpa using Z
     | @send _ _ _ _ v' buf' s' r' tm' h1 aw=>
      obtain⟨rfl,rfl,rfl,rfl⟩:=Zge ao (show a.w.heap[ch]? =_ from aw);obtain⟨z',h1⟩:=h1;obtain⟨es,e1,e2⟩:=h1 ((sw a.w ch (.chan 0 #[] false s s S)).at A);have e1:=(congrArg (fun b=>stepG P b (G a.fr a.cs) ((sw a.w ch (.chan 0 #[] false s s S)).at A)) bp).trans e1;have hk:∀Y∈(MemOp.ofEvents i (G a.fr a.cs).frame.fn (G a.fr a.cs).frame.place es).toList,Zhr i cell Y:=Zc9 (pr:=fun n=>n=cell\/n=ch) (.inl rfl) e2;have Z:=aj.apps _ hp hk;cases hm with
      | @run n x hn=>
       have az:partners (H.setIfInBounds i ph) ch false=[]:=by
        refine partners_nil fun k x U=>?_;by_cases ah:k=i
        ·rcases getElem?_stand H i k x U with⟨_,rfl⟩|⟨ap,_⟩
         ·rfl
         exact absurd ah ap
        by_cases aq:k=0
        ·subst aq;rw[aF (by omega),h0]at U;cases U;exact offersAt_of_not_blocked (by simp[G]) _ _
        exact ar k x i false U (by omega) ah
       have I:=crowd_waits (sl:=ab) hj e1 (fun cc bk=>by
        have:cc=scase ch (.bool v') z':=by simpa using bk
        rw[this];exact ways_send_none (ai A) (by simp) az)
       refine QJ.step (ak.trans I) ?_;refine ih (n+1+0+ConcN.sumTo H.size q) (by omega) _ ab _ q A (n+1) 0 (G x.1 x.2) _ (by simp) (by rw[aF (by omega)];exact h0) (.run hn) (by first|(simp[J];done)|(simp[J];rfl)) (.parked h1) (by omega) ?_ ?_ ?_
       ·refine hL.apps (fun Y aa=>(hk Y (by simpa using aa)).1) J V (by simp) ?_;have:=ac i (Conc.parked (G a.fr a.cs) #[scase ch (.bool v') z'] .send) (.inr rfl) id (fun _ _=>rfl);rw[gD]at this;exact this
       ·simpa using Z
       simp;omega
      |parked=>
       have az:partners (H.setIfInBounds i ph) ch false=[(0,0)]:=by
        have:=partners_one (gs:=H.setIfInBounds i ph) (r:=ch) (send:=false) (stand_get (i:=i) (by omega) h0) (fun k x aq U=>by
         by_cases ah:k=i
         ·rcases getElem?_stand H i k x U with⟨_,rfl⟩|⟨ap,_⟩
          ·rfl
          exact absurd ah ap
         exact ar k x i false U (by omega) ah)
        rw[this,offersAt_parked_recv,if_pos rfl];rfl
       have I:=crowd_send_meets (sl:=ab) hj e1 (ai A) (by omega) h0 az;refine QJ.step (ak.trans I) ?_;have hG:=hG hE;obtain⟨n',bw⟩:=hE.next L v';rw[finishComm_send,finishComm_recv];have bo:=Zkm (j:=i) (cell:=cell) (i:=i) (k:=0) (c:=ch) (s:=s) (r:=s) (f₁:=(G a.fr a.cs).frame.fn) (f₂:=(G (R L).1 (R L).2).frame.fn) (f₃:=(G a.fr a.cs).frame.fn) (f₄:=(G (R L).1 (R L).2).frame.fn) (p₁:=(G a.fr a.cs).frame.place) (p₂:=(G (R L).1 (R L).2).frame.place) (p₃:=(G a.fr a.cs).frame.place) (p₄:=(G (R L).1 (R L).2).frame.place) (cap:=0) (.inr rfl) (.inl rfl);have bq:=Z.apps _ (by simp;omega) bo;have:=hG ((H.setIfInBounds 0 (Conc.served (G (R L).1 (R L).2) (recvd true (.bool v') true))).setIfInBounds i (Conc.served (G a.fr a.cs) undef)) ab
        (t++(MemOp.ofEvents i (G a.fr a.cs).frame.fn (G a.fr a.cs).frame.place es++ #[{g:=i,fn:=(G a.fr a.cs).frame.fn,pos:=(G a.fr a.cs).frame.place,act:=.send ch s},{g:=0,fn:=(G (R L).1 (R L).2).frame.fn,pos:=(G (R L).1 (R L).2).frame.place,act:=.recv ch s 0},
         {g:=i,fn:=(G a.fr a.cs).frame.fn,pos:=(G a.fr a.cs).frame.place,act:=.sendDone ch s},{g:=0,fn:=(G (R L).1 (R L).2).frame.fn,pos:=(G (R L).1 (R L).2).frame.place,act:=.recvDone ch s}])) q A i p (L++[v']) (s+1) r S (n'+1) 1 (G (got (R L) v' true).1 (got (R L) v' true).2) (G (a.fr.finish undef) a.cs)
        (by rw[aF (by omega)];simp[V];rfl) (.run bw) (by first|(simp[J];done)|(simp[J];rfl)) .run (by omega) ?_ ?_ (by simp;omega) ?_ ?_ bc
       ·rw[ZfS (buf':=(ZhW L).push (.bool v')) (c':=false) (s':=s+1) (r':=r) (tm':=S)];exact this
       ·refine hL.apps (fun Y aa=>?_) J V (by simp) ?_
        ·rcases eC.1 aa with h|h
         ·exact(hk Y (by simpa using h)).1
         exact(bo Y (by simpa using h)).1
        have:=a9 0 (Conc.served (G (R L).1 (R L).2) (recvd true (.bool v') true)) i (Conc.served (G a.fr a.cs) undef) (.inl rfl) (.inr rfl) id (fun _ _=>rfl);rw[gD]at this;exact this
       ·simpa [dB]using bq
       ·have ba:ch<a.w.heap.size:=(aM.1 ao).1;show(a.w.heap.setIfInBounds ch _)[ch]? =_;rw[bH ba,ZgT]
       show bU {a.w.at A with heap:=a.w.heap.setIfInBounds ch _} _=_;unfold bU;show(match(a.w.heap.setIfInBounds ch _)[cell]? with|some (.cells c _ _)=>_|_=>none)=_;rw[aF bc];exact am
     | @close _ _ _ _ L' s' r' tm' h1 aw=>
      obtain⟨e3,rfl,rfl,rfl⟩:=Zge ao (show a.w.heap[ch]? =_ from aw);obtain rfl:=ZhY e3;obtain⟨cu,g,es,n,h1,h2,h3⟩:=h1;have e1:=h1 ((sw a.w ch (.chan 0 #[] false s s S)).at A) _ _ _ _ (ai A);have hG:Zco P St _:=hG;have e1:=(congrArg (fun b=>stepG P b (G a.fr a.cs) ((sw a.w ch (.chan 0 #[] false s s S)).at A)) bp).trans e1;have I:=runT_crowd_go (P:=P) (sl:=ab) (i:=i) hj e1;refine QJ.step (ak.trans I) ?_;have hW:((sw a.w ch (.chan 0 #[] false s s S)).at A).setChan ch 0 #[] true s s S=(a.w.at A).setChan ch 0 #[] true s s S:=by
       show World.mk ((a.w.heap.setIfInBounds ch _).setIfInBounds ch _) a.w.tape A a.w.os a.w.output=World.mk (a.w.heap.setIfInBounds ch _) a.w.tape A a.w.os a.w.output;simp
      have hk:∀Y∈(MemOp.ofEvents i (G a.fr a.cs).frame.fn (G a.fr a.cs).frame.place es).toList,Zhr i cell Y:=Zk7 (pr:=fun n=>n=cell\/n=ch) (.inl rfl) h2;have Z:=aj.apps _ hp hk;have hS:=Z.shut (by simp;omega) {g:=i,fn:=(G a.fr a.cs).frame.fn,pos:=(G a.fr a.cs).frame.place,act:=.close ch} (ch:=ch) rfl rfl;have aa:t++MemOp.ofEvents i (G a.fr a.cs).frame.fn (G a.fr a.cs).frame.place (es.push ⟨.obj ch,true,true⟩)=(t++(MemOp.ofEvents i (G a.fr a.cs).frame.fn (G a.fr a.cs).frame.place es).toList.toArray)++ #[{g:=i,fn:=(G a.fr a.cs).frame.fn,pos:=(G a.fr a.cs).frame.place,act:=.close ch}]:=by
       rw[Array.toArray_toList,dB,ofEvents_eq,ofEvents_eq];congr 1;rw[Array.map_push,Array.push_eq_append];rfl
      have ba:ch<a.w.heap.size:=(aM.1 ao).1;have cf:((a.w.at A).setChan ch 0 #[] true s s S).heap[ch]? =some (.chan 0 #[] true s s S):=by
       show(a.w.heap.setIfInBounds ch _)[ch]? =_;rw[bH ba]
      have bk:((a.w.at A).setChan ch 0 #[] true s s S).cell? ⟨cell,0,none⟩=some (.chan (some ch)):=by
       unfold bU;show(match(a.w.heap.setIfInBounds ch _)[cell]? with|some (.cells c _ _)=>_|_=>none)=_;rw[aF bc];exact am
      have ca:∃bt bl,(if mayWake P (G a.fr a.cs)&&g.status != .blocked&&g.status != .waiting then gm.again ((a.w.at A).setChan ch 0 #[] true s s S)else gm)=bl/\Za5 P ch cell R L bt bl:=by
       cases hm with
       | @run n x hn=>
        refine⟨n,G x.1 x.2,?_,.run hn⟩;split
        ·exact again_running _ (.inl rfl)
        rfl
       |parked=>
        refine⟨0,_,?_,.woken⟩;rw[if_pos,again_recv_closed cf];rw[cu];rcases h3.status with e|e<;>rw[e]<;>rfl
      obtain⟨bt,bl,c6,cw⟩:=ca;rw[aa,hW];have ck:((H.map (woken P (G a.fr a.cs) g ((a.w.at A).setChan ch 0 #[] true s s S))).setIfInBounds i g)[0]? =some bl:=by
       rw[aF (by omega),bZ,h0];exact congrArg some c6
      refine Zw1 (q:=ConcN.upd q i n) (j:=i) (p:=p) (d:=A) hE.recv cf bk hG _ _ _ _ _ bt bl (aJ _) ck cw ?_ hS (by omega) (by simpa using J);have bz:=hL.apps (gs':=(H.map (woken P (G a.fr a.cs) g ((a.w.at A).setChan ch 0 #[] true s s S))).setIfInBounds i g) (u:=MemOp.ofEvents i (G a.fr a.cs).frame.fn (G a.fr a.cs).frame.place (es.push ⟨.obj ch,true,true⟩)) (fun Y h=>by obtain⟨e,_,rfl⟩:=Conc.mem_ofEvents h;exact .inr rfl) J V (by simp) (ac i g (.inr rfl) _ fun g hs=>Za7 hs);rw[aa]at bz;refine⟨fun k x aq U=>?_,bz.above⟩;by_cases hki:k=i
      ·subst hki;rw[bH (by simpa using J)]at U;obtain rfl:=Option.some.inj U;rw[ConcN.upd_same,Zg8 ⟨by simp,by simp⟩,Z.hearsJ];exact h3
      rw[ConcN.upd_ne q n hki];exact bz.old k x aq hki U
   
   obtain⟨g',es,k,c8,cz,I,cy,ba⟩:=hL.move hi (by omega) al hg ((sw a.w ch (.chan 0 #[] false s s S)).at A) ab;refine QJ.step (ak.trans I) ?_;have hn:∀Y∈MemOp.ofEvents i g.frame.fn g.frame.place es,Y.act.touch?=none:=fun Y aa=>by obtain⟨e,he,rfl⟩:=Conc.mem_ofEvents aa;exact touch_mute (cz e he)
   refine ih (nm+nc+ConcN.sumTo H.size (ConcN.upd q i k)) (by omega) _ ab _ _ A nm nc gm gc (by simp) ?_ hm ?_ hc bh cy (aj.appMute hi0 al X7 hn hp) (by simp;omega)
   ·rw[aF hi0,bZ,h0];exact congrArg some (ZfK hm (ai A))
   rw[aF al,bZ,hj];exact congrArg some (ZeP hc (ai A))
 exact cr _ H sl t q d nm nc gm gc (aJ _) h0 hm hj hc bh hL aj hp
end
end Conc1
end Go.Proofs.YtjgpiclllehgmaaGreat
