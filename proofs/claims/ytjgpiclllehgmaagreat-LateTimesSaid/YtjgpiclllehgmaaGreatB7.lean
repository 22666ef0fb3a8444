/- Lemmas. -/
import Derived.Test.YtjgpiclllehgmaaGreatB6
import Derived.Test.YtjgpiclllehgmaaGreatB5
import Derived.Test.YtjgpiclllehgmaaGreatB2
import Derived.Test.YtjgpiclllehgmaaGreatB0
set_option linter.all false
open Array renaming length_toList->cV,mem_toList_iff->cM,replicate->dJ
open Bool renaming not_eq_true->gB
open Go.Frame renaming enter->dM
open Go.Instr renaming loadAt->ec
open Int renaming le_refl->bT,toNat_natCast->aV
open List renaming any_append->fT,getD_eq_getElem?_getD->aA,getElem?_eq_getElem->aD,getElem_mem->bM,length_append->bf,length_cons->bF,length_map->bA,length_nil->cE,length_range->cO,length_singleton->fu,mem_cons->bG,mem_iff_getElem->eh,mem_singleton->aN,not_mem_nil->dS,range->aR,range'->eH
open Nat renaming le_refl->aJ,le_trans->cF,zero_le->aW
open Option.some renaming injEq->aC
open Prod.mk renaming injEq->aK
open Go.Result renaming andThen_ok->aH
open Go.Sem renaming run_bind->aP,run_pure->bC
open Go.Proofs.Tryz renaming prog->aB
namespace Go.Proofs.YtjgpiclllehgmaaGreat
namespace Vm
open Go Go.Conc Go.Proofs Conc1
def ZqQ (ch:Nat) (L:List Bool) (e:Ex) (s:List AV) (h:List Zh) (c:Cd):Prop:=match e with
 |.exit _=>False
 |_=>chk c (∃A,h= .gob (.chq ch fun _=>L)::A)
theorem ZhV {ch:Nat} {L:List Bool} {e:Ex} {s:List AV} {h:List Zh} {c:Cd} (H:ZqQ ch L e s h c):ZT c/\(∀id,e≠ .exit id)/\∃A,h= .gob (.chq ch fun _=>L)::A:=by
 cases e with
 |exit id=>exact H.elim
 |normal=>exact⟨(Z5 H).1,(fun _ h=>by cases h),(Z5 H).2⟩
 |ret=>exact⟨(Z5 H).1,(fun _ h=>by cases h),(Z5 H).2⟩
theorem Zin {P:Program} {T:TypeId} {dr:ChanDir} {B:TypeId} {w:World} {a:Addr} {v:Value} (G:P.underlying T=some (.chan dr B)) (hw:w.cell? a=some v):(ec T (.pointer (some a))).run P w= .ok v w:=by
 have A:(isAgg T).run P w= .ok false w:=by
  unfold isAgg;have:=Zf0 (w:=w) (es:= #[]) G;rw[Sem.runT_eq]at this;have h:(underlying T).run P w= .ok (.chan dr B) w:=congrArg Prod.fst this;rw[aP,h,aH];rfl
 simp only[ec,Instr.sureAddr,aP,bC,aH,loadVar,A,Bool.false_eq_true,if_false];simp[load,Sem.run,hw]
theorem ZqO {p:Unit->Program} {fid:FuncId} {fn:Func} {i0:Nat} {o0:Array Oper} {J:Code} {T:TypeId} {dr:ChanDir} {B:TypeId} {ts:Array TypeId} {L:List Bool} {ys:List AV} (hf:(p ()).funcs[fid]? =some fn) (hb:fn.body=some (.seq (.region i0 o0 false) J)) (bc:aR o0.size=[0,1])
  (a0:JE o0 0 (some 6) (.load T (.tmp 0))) (a1:JE o0 1 none (.defer {callee:=.builtin .close,args:= #[.tmp 6],argTypes:=ts})) (hU:(p ()).underlying T=some (.chan dr B)) (O:6<fn.ntmps)
  (H:∀A,HP false 1 p [.code J] (ZqQ A L) ((entry fn.ntmps (.iptr [.cch A] 0::ys)).set 6 (.cch A)) [.gob (.chq A fun _=>[])]):KC (p ()) fid (fun A=>.iptr [.cch A] 0::ys) L:=by
 refine⟨fun A R Z HH al ai ha cs=>?_⟩;obtain⟨bg,a9⟩:=ha;have ak:dM (p ()) fid Z .deferred=mkF ⟨fid,true,none,[]⟩ (Z++dJ (fn.ntmps-Z.size) undef) [] [.code (.seq (.region i0 o0 false) J)]:=by
  simp[dM,mkF,FB.kind,hf,hb]
 have aa:SL R (entry fn.ntmps (.iptr [.cch A] 0::ys)) (Z++dJ (fn.ntmps-Z.size) undef):=by
  refine⟨by simp[entry,<-bg];omega,fun i a V=>?_⟩;rw[entry,List.getElem?_append]at V;split at V
  ·rename_i bt;have:=a9 i a V;rw[Array.getD_eq_getD_getElem?]at this|-;rw[Array.getElem?_append_left (by omega)];exact this
  rw[List.getElem?_replicate]at V;split at V
  ·cases V;exact .undef _
  cases V
 generalize ht:Z++dJ (fn.ntmps-Z.size) undef=t at ak aa;have ac:∃a:Addr,t.getD 0 undef= .pointer (some a)/\R.w.cell? a=some (.chan (some A)):=by
  have h0:=aa.getD 0;have h0:VR R (.iptr [.cch A] 0) (t.getD 0 undef):=h0;generalize t.getD 0 undef=v at h0;cases h0 with
  |pure _ _ hp=>
   cases hp with
   |iptr _ _ b o us h1 h2 h3=>
    have e:=h1 0 _ rfl;have e2:=h2 0 _ rfl;refine⟨_,rfl,?_⟩;cases hu:us 0 with
    |chan c=>
     rw[hu]at e2 e;cases e2;exact e
    |_=>rw[hu]at e2;cases e2
 obtain⟨a,ac,ah⟩:=ac;have ba:6<t.size:=by
  have:=aa.1;rw[this];simp only[entry,bf,List.length_replicate];omega
 have bu:(⟨fid,true,none,[]⟩:FB).roundOf=none:=rfl;obtain⟨o,Y,bk,ar,hg⟩:=a1.ok;let I:=Z2 t (some 6) (.chan (some A));let D:=Zi0 ts o.type #[false] A;have S0:StepsC (p ()) (some A) (ZH (mkF ⟨fid,true,none,[]⟩ t [] [.code (.seq (.region i0 o0 false) J)]) cs R.w) (ZH (mkF ⟨fid,true,none,[]⟩ I [] [.inRegion o0 [1],.code J]) cs R.w):=by
  refine .head Zih (.head Zct ?_);rw[bc];refine .one (ZfO (nv:=.value _) (v:=.chan (some A)) (w':=R.w) a0 (fun _ h=>by cases h) (fun o Y=>?_) (fun o Y=>?_) (.inl rfl))
  ·unfold execOp;simp only[Y];exact Zg (fun _=>Ze3) fun _ _=>Zn
  have e:QH t (.tmp 0)= .pointer (some a):=ac;unfold execOp;simp only[Y,e,aP,Zin hU ah,aH,bC]
 have S1:One (p ()) (some A) (ZH (mkF ⟨fid,true,none,[]⟩ I [] [.inRegion o0 [1],.code J]) cs R.w) (ZH (mkF ⟨fid,true,none,[]⟩ I [D] [.inRegion o0 [],.code J]) cs R.w):=by
  refine Xc fun main w=>?_;have e6:QH I (.tmp 6)= .chan (some A):=Xv ba;have e:execOp (QH I) o=pure (.defer D):=by
   unfold execOp;simp only[bk,resolve,List.map_toArray,List.map_cons,List.map_nil,e6];rfl
  have au:(mkF ⟨fid,true,none,[]⟩ I [] [.inRegion o0 [1],.code J]).oper?=some o:=by simp[Frame.oper?,mkF,Y]
  have he:(mkF ⟨fid,true,none,[]⟩ I [] [.inRegion o0 [1],.code J]).eval=QH I:=Zcz _;have h2:stepG (p ()) main (G (mkF ⟨fid,true,none,[]⟩ I [] [.inRegion o0 [1],.code J]) cs) w=stepG.oper (p ()) true (mkF ⟨fid,true,none,[]⟩ I [] [.inRegion o0 [1],.code J]) cs none w:=by
   simp[stepG,stepG.exec,mkF,G,Y,Region.wanted,hg]
  rw[h2];unfold stepG.oper;simp only[au,he,e];unfold stepG.apply;have hk:(mkF ⟨fid,true,none,[]⟩ I [D] [.inRegion o0 [1],.code J]).finish undef=mkF ⟨fid,true,none,[]⟩ I [D] [.inRegion o0 [],.code J]:=by
   rw[Xq,Y];show mkF _ (Z2 I o.dst undef) _ _=_;rw[ar];rfl
  rw[<-hk];simp[GStep.after,G,mkF,seen_none,FB.kind]
 have S2:One (p ()) (some A) (ZH (mkF ⟨fid,true,none,[]⟩ I [D] [.inRegion o0 [],.code J]) cs R.w) (ZH (mkF ⟨fid,true,none,[D]⟩ I [D] ([.code J]++[])) cs R.w):=Y8;have ap:([.gob (.chq A fun _=>[])]:List Zh).length<=R.n0:=by rw[ai];exact aJ 1
 have ao:SL R ((entry fn.ntmps (.iptr [.cch A] 0::ys)).set 6 (.cch A)) I:=aa.set (.pure _ _ (.cch A)) 6;obtain⟨e,s',h',R',t',az,⟨c,hk⟩,V,hs,hd,_,hA⟩:=(H A).run (fun e s h c hk=>(ZhV hk).1) R [.gob (.chq A fun _=>[])] (by rw[ai];exact aJ 1) R I (Inv.refl HH ap) ao ⟨⟨fid,true,none,[D]⟩,fun _=>rfl⟩ [D] [] cs ⟨[],rfl,List.nodup_nil,fun r hr=>by cases hr⟩;obtain⟨hc,ae,h2,rfl⟩:=ZhV hk;rw[al]at hA;have aq:∃S,Steps (p ()) (some A) (ZH (mkF ⟨fid,true,none,[D]⟩ I [D] ([.code J]++[])) cs R.w) (ZH {mkF ⟨fid,true,none,[D]⟩ t' az S with mode:=.returning} cs R'.w):=by
  cases e with
  |exit id=>exact absurd rfl (ae id)
  |normal=>exact⟨[],Steps.trans hA (.one (ZpQ rfl))⟩
  |ret=>
   obtain⟨S,hA⟩:=hA;exact⟨.code .ret::S,Steps.trans hA (.one (ZpN rfl))⟩
 obtain⟨S,aw⟩:=aq;obtain⟨rs,rfl,bl,bp⟩:=hd;obtain⟨R2,U,bq,ab⟩:=Zc4 (P:=p ()) (b:=⟨fid,true,none,[D]⟩) (base:=[D]) (t:=t') (todo:=S) (cs:=cs) rs R' bl V bp;have am:R'.cx=some A:=V.le.cx.trans al;rw[am]at ab;obtain⟨ob,bh,_,hq,_,sN,rN,bo,rfl⟩:=U.hr.blk 0 _ rfl;have bm:(R2.α 0).b=(R.α 0).b:=by
  have:R2.α 0=R.α 0:=U.le.α 0 (by rw[<-HH.len];exact Nat.zero_lt_one);rw[this]
 refine⟨t',S,R2.w,sN,rN,bo,ts,o.type, #[false],?_,?_,fun b hb ae=>?_,U.ext.size,U.ext.os,U.ext.tape,U.ext.output⟩
 ·rw[ak];exact S0.trans (.head S1 (.head S2 (aw.trans ab)))
 ·rw[<-hq];exact bh
 refine U.ext.frame b hb fun id blk aj hp=>?_;cases id with
 |zero=>
  cases aj;have hp:(R.α 0).b=b:=hp;rw[<-bm,hq]at hp;exact ae hp.symm
 |succ id=>simp at aj
attribute [local irreducible] Dn
open Go Go.Proofs Sp
set_option maxRecDepth 100000
set_option maxHeartbeats 4000000
def ZcZ (t:Zb) (f r st:Int):Nat->List Bool
 |0=>[]
 |i+1=>ZcZ t f r st i++[Jr t f r st i]
theorem Zxc (t:Zb) (f r st:Int) (hw:Zx t) (Y:ZeN t f r st):KC aB 151 (fun A=>.iptr [.cch A] 0::[Yp t,.iptr [.int .i64 fun _=>f,.int .i64 fun _=>ZA (Sp.Zl (callsOf t) f) st] 0,.iptr [.int .i64 fun _=>r,.int .i64 fun _=>ZN (Sp.Zl (callsOf t) r) st] 0]) (ZcZ t f r st (manyT t)):=by
 obtain⟨nt,O⟩:=Zo;have I:=Zs4 t;have H:=fun B0 B1 B2 B3 B4 B5 stop=>Zs3 t hw B0 B1 B2 B3 B4 B5 stop;have aa:=fun x=> @ZaV t x _ _ Y.1;have V:=fun x=> @ZaV t x _ _ Y.2;have ab:∀i,Jr t f r st i=decide ((ZR t (Zk t i) f (ZA (Sp.Zl (callsOf t) f) st)).comes<=(ZR t (Zk t i) r (ZN (Sp.Zl (callsOf t) r) st)).goes):=fun _=>rfl;have Z:ZcZ t f r st 0=[]:=rfl;have S:∀i,ZcZ t f r st (i+1)=ZcZ t f r st i++[Jr t f r st i]:=fun _=>rfl;generalize ZcZ t f r st=U at*;generalize Jr t f r st=KB at*;generalize ZA (Sp.Zl (callsOf t) f) st=fo at*;generalize ZN (Sp.Zl (callsOf t) r) st=to at*;generalize ZR t=HH at*;generalize Zk t=G at*;generalize Qj t=J at*;refine ZqO (p:=fun _=>aB) (dr:=.both) (B:=4) Tryz.func151 (show Tryz.f151.body=_ from rfl) rfl ⟨_,rfl,rfl,rfl,rfl⟩ ⟨_,rfl,rfl,rfl,rfl⟩ (by kernel_rfl) (by decide) fun A=>?_;unfold Yp ZX at*;simp only[Za O,Zc,Zq]at*;refine ZdL false false [] [] false ?_;refine wS ?_;refine ZL (I) (by first|rfl|(simp only[Ze,Zd,Zf,Zc,Za O];rfl)) fun r ae hp=>?_;(try simp only[Ze,Zd,Zf,Zc,Za O]at hp);obtain⟨rfl,rfl⟩:=hp;refine wS ?_;refine Zf4 [0,2,3,8] [.tok 1 fun _=>0,.tok 1 fun _=>0,.tok 1 fun _=>0,.tok 1 fun _=>0] [(0,.gob (.chq A fun _=>U 0))] (fid:=135) (first:=[]) ?_ rfl ?_ ?_
 ·rw[Z];(refine To.of [(1,false),(1,false),(1,false),(1,false)] ?_;cbv;(try simp only[nc]);(repeat' (first|exact trivial|exact Zy.refl _|exact ZG.refl _|refine⟨?_,?_⟩|refine ZG.cells ?_|refine Zy.agg ?_|refine Zy.tup ?_));(all_goals (first|exact XQ|skip)))
 ·exact Yb
 refine SC.mono (H (fun i=>.gob (.chq A fun _=>U i)) (fun _=>_) (fun _=>_) (fun _=>_) (fun _=>_) (fun _=>_) (fun _=>false) ?_ ?_ ?_ ?_ ?_ ?_ ?_) ?_;iterate 6 exact fun i=>QD.of rfl
 ·intro i hi ah;have e1:(((J (G i)).lookup [f,fo]).getD []).headD 0=(HH (G i) f fo).comes:=by rw[aa];rfl
  have e2:(((J (G i)).lookup [r,to]).getD []).tail.tail.headD 0=(HH (G i) r to).goes:=by rw[V];rfl
  refine YC.less (Zc3 false false [] rfl rfl ?_);refine wS ?_;simp only[e1,e2,<-ab,<-S];refine⟨.bool fun _=>true,_,?_,rfl,rfl⟩;exact ZF
 intro v h hh;obtain⟨m,hm,rfl⟩:=hh;have ac:m=manyT t:=by
  rcases hm with h|⟨_,_,_,h,_⟩
  ·exact h.1
  cases h
 subst ac;refine wS ?_;exact⟨_,rfl⟩
theorem ZmF {o:Option TypeInfo} {n:Nat} {z:Option Value} (h:o.map (fun i=>(i.size,i.zero))=some (n,z)):∃i,o=some i/\i.size=n/\i.zero=z:=by
 cases o with
 |none=>cases h
 |some i=>
  have h:some (i.size,i.zero)=some (n,z):=h;simp only[aC,aK]at h;exact⟨i,rfl,h.1,h.2⟩
theorem ZgR (w v:Bool):∀(l:List Bool) (n:Int),cnt w (l++[v]) n=if v=w then IntKind.i64.wrap (cnt w l n+1)else cnt w l n
 |[],_=>rfl
 |x::l,n=>ZgR w v l _
theorem ZfH {x:Int} (h:0<=x/\x<1000000):IntKind.i64.wrap x=x:=ZbP x ⟨by omega,by omega⟩
theorem Zmw {ds:List ZP} (h:∀d∈ds,d.by_.length<=3):∀m,m<=ds.length->Yl ds m<=3^ m
 |0,_=>aJ _
 |m+1,hm=>by
  unfold Yl;rw[Nat.pow_succ];refine Nat.mul_le_mul (Zmw h m (by omega)) ?_;unfold lenAt;rw[aA,aD hm];exact h _ (bM hm)
theorem ZsC {t:Zb} (hw:Zx t):manyT t<=729:=by
 have h:=Zmw (fun d G=>(hw.d d G).2.1) t.delays.length (aJ _);have A:3^ t.delays.length<=3^ 6:=Nat.pow_le_pow_right (by omega) hw.dlen;exact cF h (cF A (by decide))
theorem ZgP (p:Nat->Bool):∀n,0<=XV p n/\XV p n<=n
 |0=>⟨bT _,bT _⟩
 |n+1=>by
  have:=ZgP p n;unfold XV;split<;>omega
theorem ZqM (t:Zb) (f r st:Int):∀n,n<=729->cnt true (ZcZ t f r st n) 0=XV (Jr t f r st) n/\cnt false (ZcZ t f r st n) 0=XV (fun i=> !Jr t f r st i) n
 |0,_=>⟨rfl,rfl⟩
 |n+1,h=>by
  have G:=ZqM t f r st n (by omega);have H:=ZgP (Jr t f r st) n;have I:=ZgP (fun i=> !Jr t f r st i) n;unfold ZcZ;rw[ZgR,ZgR,G.1,G.2,ZfH (by omega),ZfH (by omega)];have A:∀p,XV p (n+1)=if p n then XV p n+1 else XV p n:=fun _=>rfl
  rw[A,A];cases Jr t f r st n<;>exact⟨rfl,rfl⟩
theorem ZxI (t : Zb) (f r st : Int) (hw : Zx t) (S : ZeN t f r st) : SC (fun _ => aB) 97 [.iptr (ZX t) 0, .int .i64 fun _ => f, .int .i64 fun _ => r, .int .i64 fun _ => st] [.main] fun v h => v = .int .i64 (fun _ => Zgy t f r st) /\ h = [.main] := by
  obtain ⟨I, O⟩ := Zo;have h1 := S.1;have U := S.2;have aa := (JT hw.calls h1).2.2;have ab := (JT hw.calls U).2.2;unfold StopIn at h1 U;rw [Zau O] at h1 U aa ab;have Z := Zu9 (I (List Sp.Call) [] (callsOf t) f) st (by omega);have J := ZwG (I (List Sp.Call) [] (callsOf t) r) st (by omega);have ac := hw.calls.len;have Y := Zxc t f r st hw S;obtain ⟨hy, hn⟩ := ZqM t f r st (manyT t) (ZsC hw);have hV : Zgy t f r st = Zft (XV (Jr t f r st) (manyT t)) (XV (fun i => !Jr t f r st i) (manyT t)) := rfl;have G := ZxB (XV (Jr t f r st) (manyT t)) (XV (fun i => !Jr t f r st i) (manyT t));rw [<- hV] at G;rw [Zau O, Zau O] at Y;generalize Zgy t f r st = V at *;generalize XV (Jr t f r st) (manyT t) = CY at *;generalize XV (fun i => !Jr t f r st i) (manyT t) = CN at *;generalize ZcZ t f r st (manyT t) = KL at *;unfold Yp at Y;unfold ZX at *;simp only [Za O, Zc, Zq] at *;generalize ZA (I (List Sp.Call) [] (callsOf t) f) st = fo at *;generalize ZN (I (List Sp.Call) [] (callsOf t) r) st = to at *;refine SC.less (Zs0 false false [] [2] false 1 Tryz.func97 (body := Zj Tryz.f97) rfl (by decide +kernel) rfl ?_);refine vS ?_;repeat' first
    | (with_reducible refine Zjh.mk ?_ ?_)
    | (with_reducible refine Chk.mk (ZE) ?_)
    | (refine ZL Z (by first | rfl | (simp only [Ze, Zd, Zf, Zc, Za O]; rfl)) fun r H A => ?_
       obtain ⟨rfl, rfl⟩ := A
       refine vS ?_)
    | (refine ZL J (by first | rfl | (simp only [Ze, Zd, Zf, Zc, Za O]; rfl)) fun r H A => ?_
       obtain ⟨rfl, rfl⟩ := A
       refine vS ?_)
  all_goals
    refine ZsI (p := fun _ => aB) (dr := .both) (B := 4) ⟨rfl, rfl, rfl, rfl, rfl, rfl, rfl, rfl, rfl, ⟨_, rfl, rfl, rfl, rfl⟩, ⟨_, rfl, rfl, rfl, rfl⟩, ⟨_, rfl, rfl, rfl, rfl⟩, ⟨_, rfl, rfl, rfl, rfl⟩, ⟨_, rfl, rfl, rfl, rfl⟩, ⟨_, rfl, rfl, rfl, rfl⟩, ⟨_, rfl, rfl, rfl, rfl⟩, ⟨_, rfl, rfl, rfl, rfl⟩, ⟨_, rfl, rfl, rfl, rfl⟩, ⟨_, rfl, rfl, rfl, rfl⟩, ⟨_, rfl, rfl, rfl, rfl⟩, ⟨_, rfl, rfl, rfl, rfl⟩, ⟨_, rfl, rfl, rfl, rfl⟩, ⟨_, rfl, rfl, rfl, rfl⟩, ⟨_, rfl, rfl, rfl, rfl⟩, ⟨_, rfl, rfl, rfl, rfl⟩, ⟨_, rfl, rfl, rfl, rfl⟩, ⟨_, rfl, rfl, rfl, rfl⟩, ⟨_, rfl, rfl, rfl, rfl⟩⟩ (by kernel_rfl) (ZmF (by kernel_rfl)) ((ZmF (n := 1) (z := some (.bool false)) (by kernel_rfl)).imp fun i h => ⟨h.1, h.2.2⟩)
      Tryz.func151 rfl (by decide +kernel) rfl rfl rfl rfl rfl rfl Y ?_
    rw [hy, hn];refine ZdL false false [] [] false ?_;refine wS ?_;refine ZL (G) (by first | rfl | (simp only [Ze, Zd, Zf, Zc, Za O]; rfl)) fun r H A => ?_;(try simp only [Ze, Zd, Zf, Zc, Za O] at A);obtain ⟨rfl, rfl⟩ := A;refine wS ?_;refine ⟨_, _, ?_, rfl, rfl⟩;exact ZF
theorem PR.nilw {w:World} {ok:Nat->Nat->Nat->Prop} {s s':Nat} {m m':Unit->Int} {f H:(Unit->Int)->List AV} {v:Value} (h:PR w ok (.isl s m f .nil) v) (hm:m' ()=0):PR w ok (.isl s' m' H .none) v:=by
 cases h with
 |isl0 _ _ _ _ G A=>exact .isl0 _ _ _ _ hm rfl
 |islE _ _ _ _ a G A=>exact .islE _ _ _ _ a hm (.inl rfl)
 |isl _ _ _ _ b o len I U J S A=>rcases A with h|h<;>cases h
theorem ZwO (m:Int):SC (fun _=>aB) 69 [.int .i64 fun _=>m] [] fun v h=>v=Zf (Z9 m)/\h=[]:=by
 obtain⟨H,O⟩:=Zo;have I:=ZlW 0 0 60;have V:=ZlW 1 100 110;have Z:=ZlW 2 160 0;have U:=ZlW 1 0 120;have J:=ZlW 3 200 0;have Y:=ZlW 1 0 180;have S:=ZlW 3 260 0;refine SC.less (QN Tryz.func69 (body:=Zj Tryz.f69) rfl (by decide+kernel) ?_);refine wS ?_;refine ZqW (I) ?_;refine wS ?_;refine ZqW (V) ?_;refine wS ?_;refine ZqW (Z) ?_;refine wS ?_;refine ZqW (U) ?_;refine wS ?_;refine ZqW (J) ?_;refine wS ?_;refine ZqW (Y) ?_;refine wS ?_;refine ZqW (S) ?_;refine wS ?_;refine⟨Zf (Z9 m),[],?_,rfl,rfl⟩;unfold Zf;simp only[Za O,encTrain,encZone,Zq];(refine To.of [] ?_;cbv;(try simp only[nc]);(repeat' (first|exact trivial|exact Zy.refl _|exact ZG.refl _|refine⟨?_,?_⟩|refine ZG.cells ?_|refine Zy.agg ?_|refine Zy.tup ?_));(all_goals (first|exact XQ|skip)))
 ·refine ZiM O (fun z:Sp.Zone=>[.int .i64 fun _=>z.base,.isl 2 (fun _=>(z.chs.length:Int)) (fun e=>ZaC (H Chg default z.chs (e ()))) .none]) default [⟨0,[]⟩] _ ?_ fun i G=>?_
  ·rfl
  match i,G with
  |0,_=>exact XG.two fun w ok v h=>h.nilw rfl
 ·refine ZiM O (fun t:Sp.Train=>[.int .i64 fun _=>t.number,.int .i64 fun _=>t.days,.isl 4 (fun _=>(t.stops.length:Int)) (fun e=>QM (H Stop default t.stops (e ()))) .none]) default (Z9 m).book.old _ ?_ fun i G=>?_
  ·rfl
  match i,G with
  |0,_=>
   refine XG.three fun w ok v h=>h.wk rfl (fun j A=>?_) (.inl rfl);match j,A with
   |0,_=>(rw[O];rfl)
   |1,_=>(rw[O];rfl)
   |2,_=>(rw[O];rfl)
   |j+3,A=>exact absurd A (by show¬((j+3:Nat):Int)<3;omega)
  |1,_=>
   refine XG.three fun w ok v h=>h.wk rfl (fun j A=>?_) (.inl rfl);match j,A with
   |0,_=>(rw[O];rfl)
   |1,_=>(rw[O];rfl)
   |j+2,A=>exact absurd A (by show¬((j+2:Nat):Int)<2;omega)
  |2,_=>
   refine XG.three fun w ok v h=>h.wk rfl (fun j A=>?_) (.inl rfl);match j,A with
   |0,_=>(rw[O];rfl)
   |1,_=>(rw[O];rfl)
   |j+2,A=>exact absurd A (by show¬((j+2:Nat):Int)<2;omega)
 refine ZiM O (fun t:Sp.ZP=>[.int .i64 fun _=>t.run,.int .i64 fun _=>t.leg,.isl 1 (fun _=>(t.by_.length:Int)) (fun e=>Q9 (H Int 0 t.by_ (e ()))) .none]) default (Z9 m).delays _ ?_ fun i G=>?_
 ·rfl
 match i,G with
 |0,_=>
  refine XG.three fun w ok v h=>h.wk rfl (fun j A=>?_) (.inl rfl);match j,A with
  |0,_=>(rw[O];rfl)
  |1,_=>(rw[O];rfl)
  |2,_=>(rw[O];rfl)
  |j+3,A=>exact absurd A (by show¬((j+3:Nat):Int)<3;omega)
theorem Zvc (l:List Sp.Yc) (G:l.length<=100000):SC (fun _=>aB) 26 [lst 2 encSp default l,lst 2 encSp default l] [] fun v h=>v= .bool (fun _=>true)/\h=[]:=by
 obtain⟨H,O⟩:=Zo;refine QN Tryz.func26 (body:=Zj Tryz.f26) rfl (by decide+kernel) ?_;simp only[Za O];refine wS ?_;refine Br.isF (by simp) ?_;refine wS ?_;refine ZJ false false [] [0,1,5] [] (fun(i:Nat)=>[(5,.int .i64 fun _=>(i:Int))]) (fun _=>[]) (fun i=>i<=l.length) (fun i=>l.length-i+0) 0 (aW _) ?_ ?_
 ·exact ZF
 intro i I;refine wS ?_;refine⟨fun A=>?_,fun A=>?_⟩
 ·simp only[decide_eq_true_eq]at A;refine wS ?_;refine Br.isF (by simp) ?_;refine wS ?_;refine⟨i+1,by omega,by omega,?_⟩;exact ZF
 (cbv;(try simp only[nc]at*);(try refine Chk.mk (ZE) ?_))
 (try first|exact⟨rfl,trivial⟩|exact⟨trivial,trivial⟩)
theorem ZbU (m:Int):QC (Z9 m):=⟨⟨by show 1<=1000000;decide,by show 3<=1000000;decide,by show 0<=1000000;decide,fun z H=>by simp only[Z9,aN]at H;subst H;decide,fun t A=>by simp only[Z9,bG,dS,or_false]at A;rcases A with rfl|rfl|rfl<;>decide,fun t A=>by cases A⟩,by show 3<=1000000;decide,by show 1<=1000000;decide,by show 1<=1000000;decide,fun d G=>by simp only[Z9,aN]at G;subst G;decide⟩
theorem Zve:SC (fun _=>aB) 17 [] [.main] fun v h=>v= .bool (fun _=>true)/\h=[.main]:=by
 obtain⟨nt,O⟩:=Zo;have H:=ZwO 30;have A:=ZwO 15;have hw:∀t,Zr t=0->Zx t:=fun t h=>Yo h;have J:=ZwP (Z9 30) 1 (ZbU 30) (hw _);have Z:=ZxT (Z9 15) 0 (ZbU 15) ZxI;have k3:=ZxS (Z9 15) Zj3 (ZbU 15) (by decide) (hw _);have Y:=ZxU (Z9 30) 0 (ZbU 30);have S:=ZxV (Z9 15) ZnG 0 (ZbU 15) (by decide) (hw _);have ab:Qy (Z9 30) 1=0:=by
  unfold Qy;rw[if_neg (fun h=>h Zu0.2)];rfl
 rw[ab,if_pos rfl,if_pos rfl,Zqx]at J;rw[ZnJ]at Z;rw[ZlF]at k3;rw[Zqy.1]at Y;rw[ZsQ]at S;have kh:=ZwN;have ki:=ZxQ;have ks:=Zvc [⟨120,140⟩,⟨200,220⟩] (by decide);have kz:=c39 [0,1] [0,1] (by decide);have U:=Zvb 200 260;have V:=Zvb 120 140;have aa:=Zvb 200 220;generalize Zaa (Z9 30) 1=C at*;generalize Z9 30=ac at*;generalize Z9 15=ae at*;generalize Zj3=H1 at*;generalize ZnG=H2 at*;unfold Zf Yk encSp at*;simp only[Za O,Zc,Zq,Yi]at*;refine SC.less (QN Tryz.func17 (body:=Zj Tryz.f17) rfl (by decide+kernel) ?_);refine wS ?_;refine ZqW (H) ?_;refine wS ?_;refine ZqW (J) ?_;refine wS ?_;refine ZqW (A) ?_;refine wS ?_;refine cL1 [0] (Z) fun r I G=>?_;(try simp only[Ze,Zd,Zf,Zc,Za O]at G);obtain⟨rfl,rfl⟩:=G;refine wS ?_;refine ZqW (A) ?_;refine wS ?_;refine ZqW (kh) ?_;refine wS ?_;refine ZqW (k3) ?_;refine wS ?_;refine ZqW (H) ?_;refine wS ?_;refine ZqW (Y) ?_;refine wS ?_;refine ZqW (A) ?_;refine wS ?_;refine ZqW (ki) ?_;refine wS ?_;refine ZqW (S) ?_;refine vS ?_;refine Chk.mk (by simp only[nc,Xo,Xn,XA,Xm,Cn.p,beq_self_eq_true,cond_true,imp_self,and_true,true_and];(repeat' (first|apply And.intro|intro _))<;>first|rfl|trivial|exact Or.inl rfl|decide|decide+kernel|(simp;done)) ?_
 repeat (first
  |(with_reducible refine Br.isT rfl ?_;refine vS ?_)
  |(with_reducible refine Chk.mk (by simp only[nc,Xo,Xn,XA,Xm,Cn.p,beq_self_eq_true,cond_true,imp_self,and_true,true_and];(repeat' (first|apply And.intro|intro _))<;>first|rfl|trivial|exact Or.inl rfl|decide|decide+kernel|(simp;done)) ?_))
 refine ZqW (U) ?_;refine vS ?_
 repeat (first
  |(with_reducible refine Br.isT rfl ?_;refine vS ?_)
  |(with_reducible refine Chk.mk (by simp only[nc,Xo,Xn,XA,Xm,Cn.p,beq_self_eq_true,cond_true,imp_self,and_true,true_and];(repeat' (first|apply And.intro|intro _))<;>first|rfl|trivial|exact Or.inl rfl|decide|decide+kernel|(simp;done)) ?_))
 refine ZqW (V) ?_;refine vS ?_
 repeat (first
  |(with_reducible refine Br.isT rfl ?_;refine vS ?_)
  |(with_reducible refine Chk.mk (by simp only[nc,Xo,Xn,XA,Xm,Cn.p,beq_self_eq_true,cond_true,imp_self,and_true,true_and];(repeat' (first|apply And.intro|intro _))<;>first|rfl|trivial|exact Or.inl rfl|decide|decide+kernel|(simp;done)) ?_))
 refine ZqW (aa) ?_;refine vS ?_
 repeat (first
  |(with_reducible refine Br.isT rfl ?_;refine vS ?_)
  |(with_reducible refine Chk.mk (by simp only[nc,Xo,Xn,XA,Xm,Cn.p,beq_self_eq_true,cond_true,imp_self,and_true,true_and];(repeat' (first|apply And.intro|intro _))<;>first|rfl|trivial|exact Or.inl rfl|decide|decide+kernel|(simp;done)) ?_))
 refine JC ks (by(refine To.of [] ?_;cbv;(try simp only[nc]);(repeat' (first|exact trivial|exact Zy.refl _|exact ZG.refl _|refine⟨?_,?_⟩|refine ZG.cells ?_|refine Zy.agg ?_|refine Zy.tup ?_));(all_goals (first|exact XQ|skip)));all_goals exact lit_nt O encSp default _ _ rfl) (by first|rfl|(simp only[Ze,Zd,Zf,Zc,Za O];rfl)) fun r I G=>?_;obtain⟨rfl,rfl⟩:=G;refine vS ?_
 repeat (first
  |(with_reducible refine Br.isT rfl ?_;refine vS ?_)
  |(with_reducible refine Chk.mk (by simp only[nc,Xo,Xn,XA,Xm,Cn.p,beq_self_eq_true,cond_true,imp_self,and_true,true_and];(repeat' (first|apply And.intro|intro _))<;>first|rfl|trivial|exact Or.inl rfl|decide|decide+kernel|(simp;done)) ?_))
 refine JC (kz) (by(try simp only[Ze,Zd,Zf,Zc,Za O]);exact ZF) (by first|rfl|(simp only[Ze,Zd,Zf,Zc,Za O];rfl)) fun r I G=>?_;(try simp only[Ze,Zd,Zf,Zc,Za O]at G);obtain⟨rfl,rfl⟩:=G;refine vS ?_
 repeat (first
  |(with_reducible refine Br.isT rfl ?_;refine vS ?_)
  |(with_reducible refine Chk.mk (by simp only[nc,Xo,Xn,XA,Xm,Cn.p,beq_self_eq_true,cond_true,imp_self,and_true,true_and];(repeat' (first|apply And.intro|intro _))<;>first|rfl|trivial|exact Or.inl rfl|decide|decide+kernel|(simp;done)) ?_))
 refine⟨.bool fun _=>true,[.main],?_,rfl,rfl⟩;(refine To.of [] ?_;cbv;(try simp only[nc]);(repeat' (first|exact trivial|exact Zy.refl _|exact ZG.refl _|refine⟨?_,?_⟩|refine ZG.cells ?_|refine Zy.agg ?_|refine Zy.tup ?_));(all_goals (first|exact XQ|skip)));all_goals exact .bool rfl
end Vm
namespace Vm
open Sp
def QA (b:Xs) (j:Nat):Sp.Z4:=⟨(b.old.getD j default).number,0⟩
structure RL (b:Xs) (i:Nat) (runs:List Sp.Z4) (rows:List (List Sp.Call)):Prop where
 len:rows.length=runs.length
 le:runs.length<=i
 row:∀k,k<runs.length->∃j,j<i/\j<b.old.length/\runs.getD k default=QA b j/\QZ b (QA b j)=(rows.getD k [],true)
 pw:runs.Pairwise fun a c=>a≠c
 some:∀j,j<i->(QZ b (QA b j)).2=true->0<runs.length
theorem RL.nil {b:Xs}:RL b 0 [] []:=⟨rfl,aJ _,fun k h=>by simp at h,.nil,fun j h=>by omega⟩
theorem RL.skip {b:Xs} {i:Nat} {runs:List Sp.Z4} {A:List (List Sp.Call)} (h:RL b i runs A) (H:(QZ b (QA b i)).2=false):RL b (i+1) runs A:=
 ⟨h.len,by have:=h.le;omega,fun k I=>by
  obtain⟨j,U,J⟩:=h.row k I;exact⟨j,by omega,J⟩,h.pw,fun j S G=>by
  by_cases e:j=i
  ·subst e;rw[H]at G;cases G
  exact h.some j (by omega) G⟩
theorem Zep {α:Type} {d:α} {l:List α} {a:α} {k:Nat} (h:k<l.length):(l++[a]).getD k d=l.getD k d:=by rw[aA,List.getElem?_append_left h,<-aA]
theorem Zeq {α:Type} {d:α} {l:List α} {a:α}:(l++[a]).getD l.length d=a:=by simp[aA]
theorem RL.snoc {b:Xs} {n:Int} {i:Nat} {runs:List Sp.Z4} {G:List (List Sp.Call)} {C:List Sp.Call} (V:DL n b.old) (h:RL b i runs G) (hi:i<b.old.length) (I:QZ b (QA b i)=(C,true)):RL b (i+1) (runs++[QA b i]) (G++[C]):=by
 have S:=h.len;refine⟨by simp[S],by have:=h.le;simp;omega,fun k H=>?_,?_,fun j hj hs=>by simp⟩
 ·simp only[bf,bF,cE]at H;by_cases hk2:k<runs.length
  ·obtain⟨j,Z,J,A,h4⟩:=h.row k hk2;exact⟨j,by omega,J,by rw[Zep hk2];exact A,by rw[Zep (by omega)];exact h4⟩
  have Y:k=runs.length:=by omega
  subst Y;refine⟨i,by omega,hi,Zeq,?_⟩;rw[<-S,Zeq];exact I
 refine List.pairwise_append.2 ⟨h.pw,List.pairwise_singleton _ _,fun c I e U=>?_⟩;simp only[aN]at U;subst U;obtain⟨k,H,rfl⟩:=eh.1 I;obtain⟨j,Z,J,A,_⟩:=h.row k H;rw[aA,aD H]at A;have A:runs[k]=QA b j:=A;rw[A];intro e;have e:=congrArg Sp.Z4.number e;have e:(b.old.getD j default).number=(b.old.getD i default).number:=e;rw[Zfa V J,Zfa V hi]at e;omega
structure RJ (b:Xs) (runs:List Sp.Z4) (rows:List (List Sp.Call)):Prop where
 len:rows.length=runs.length
 pos:1<=runs.length/\runs.length<=4
 check:Yx b=0
 row:∀r∈rows,ZkI r
 calls:∀w d,callsOf ⟨b,runs,w,d⟩=rows
 err:∀w d,QQ ⟨b,runs,w,d⟩=0
 from_:∀k,k<runs.length->∃j,j<b.old.length/\runs.getD k default=QA b j
theorem ZeA {b:Xs} {d:Sp.Z4} {C:List Sp.Call} (h:QZ b d=(C,true)):Q8 (Run b d.number d.day).1=0/\(Run b d.number d.day).1=C/\(Run b d.number d.day).2=0:=by
 unfold QZ at h;split at h
 ·cases h
 rename_i A;simp only[aK,decide_eq_true_eq]at h;exact⟨by omega,h⟩
theorem RL.ok {z:Zone} {n:Int} {i:Nat} {old:List Train} {runs:List Sp.Z4} {G:List (List Sp.Call)} (hz:Zw z=0) (Z:DL n old) (hn:n=old.length) (hl:old.length<=4) (h:RL (Zs z old) i runs G) (hi:i<=4) (hp:0<runs.length):RJ (Zs z old) runs G:=by
 have hc:=ZiY hz Z hn hl;have ab:=h.le
 refine⟨h.len,by omega,hc,fun r hr=>?_,fun w d=>?_,fun w d=>?_,fun k A=>by
  obtain⟨j,S,H,h3,h4⟩:=h.row k A
  exact⟨j,H,h3⟩⟩
 ·obtain⟨k,A,rfl⟩:=eh.1 hr;obtain⟨j,S,H,h3,h4⟩:=h.row k (by rw[<-h.len];exact A);obtain⟨Y,J,I⟩:=ZeA h4;rw[aA,aD A]at J;have J:(Run (Zs z old) (QA (Zs z old) j).number (QA (Zs z old) j).day).1=G[k]:=J;rw[<-J];have e:=Zmn hc Z (j:=j) H;have e:Run (Zs z old) (QA (Zs z old) j).number (QA (Zs z old) j).day=_:=e;rw[e]at Y|-;obtain⟨st,_,_,ht⟩:=Z.all j H;exact ZpW ht Y
 ·refine List.ext_getElem (by show(List.map _ runs).length=_;rw[bA,h.len]) fun k S H=>?_;have A:k<runs.length:=by rw[<-h.len];exact H
  have e0:∀(f:Sp.Z4->List Sp.Call) (S:k<(runs.map f).length),(runs.map f)[k]'S=f runs[k]:=fun f S=>List.getElem_map _;refine(e0 _ S).trans ?_;obtain⟨j,Y,J,I,V⟩:=h.row k A;rw[aA,aD A]at I;have I:runs[k]=QA (Zs z old) j:=I;rw[aA,aD H]at V;have g5:=(ZeA V).2.1;rw[I];exact g5
 unfold QQ;show(if runs.length=0 then(7:Int)else if 4<runs.length then 6 else _)=0;rw[if_neg (by omega),if_neg (by omega)];refine Zbw fun k _ A=>?_;have A:k<runs.length:=by have A:k<0+runs.length:=A;omega
 obtain⟨j,Y,J,I,V⟩:=h.row k A;obtain⟨e1,e2,e3⟩:=ZeA V;rw[<-I]at e1 e2 e3;unfold Jy;show(if(Run (Zs z old) (runs.getD k default).number (runs.getD k default).day).2≠0 then _ else if Q8 (Run (Zs z old) (runs.getD k default).number (runs.getD k default).day).1≠0 then(5:Int)else if(runs.take k).any (fun x=>decide (x=runs.getD k default))then 4 else 0)=0;rw[if_neg (fun U=>U e3),if_neg (fun U=>U e1),if_neg];rw[gB,List.any_eq_false];intro x hx;obtain⟨q,hq,rfl⟩:=eh.1 hx;have aa:q<k:=by simp at hq;omega
 have:=Zp7 (d:=default) h.pw aa A;rw[aA,aD (show q<runs.length by omega)]at this;rw[List.getElem_take];simpa using this
structure Zq7 (t:Zb):Prop where
 begin:Zr t=0
 row:∀r∈callsOf t,ZkI r
 book:∃z old n,t.book=Zs z old/\Zw z=0/\DL n old
 from_:∀k,k<t.runs.length->∃j,j<t.book.old.length/\t.runs.getD k default=QA t.book j
theorem RL.one {n:Int} {old:List Train} (J:Yx (Zs ⟨0,[]⟩ old)=0) (H:DL n old) (A:0<old.length):QZ (Zs ⟨0,[]⟩ old) (QA (Zs ⟨0,[]⟩ old) 0)=((QZ (Zs ⟨0,[]⟩ old) (QA (Zs ⟨0,[]⟩ old) 0)).1,true):=by
 have e:Run (Zs ⟨0,[]⟩ old) (QA (Zs ⟨0,[]⟩ old) 0).number (QA (Zs ⟨0,[]⟩ old) 0).day=_:=Zmn J H (j:=0) A;obtain⟨st,_,_,S⟩:=H.all 0 A;have I:=Zk6 S;unfold QZ;rw[e];rw[if_neg (fun G=>G I)];rfl
open Go Go.Proofs Conc1
section
variable {P:Program} {G:Nat->Nat->Nat->Prop} {R:RC} {h:List Zh}
theorem ZsO (H:HR G R h) {E:Operand->AV} {ρ:Operand->Value} {t:TypeId} {n:Nat} {ps:Array (Nat×Operand)} {s:Nat} {m:Unit->Int} {f:(Unit->Int)->List AV} {tk:Tk} (hE:∀p∈ps.toList,VR R (E p.2) (ρ p.2)) (hv:Ya P E t n ps.toList=some (.isl s m f tk)):
  ∃u J,(Instr.buildSlice t n (ps.map fun(i,x)=>(i,ρ x))).run P R.w= .ok u J.w/\HR G J (h++[.gar s m f])/\Xd R h J (h++[.gar s m f])/\R.le J/\VR J (.gsl h.length m) u:=by
 unfold Ya at hv;split at hv;case h_2=>cases hv
 rename_i T hT;split at hv;case h_2=>cases hv
 rename_i e U eb hk;split at hv;case isFalse=>cases hv
 rename_i aa;simp only[Bool.and_eq_true]at aa;obtain⟨⟨ah,S⟩,V⟩:=aa;have S:=ZB S;have V:=QT V;obtain⟨j,hu,Y,hs,_⟩:=Jo hT hk;obtain⟨j',z,ac,hz,al,am,_⟩:=YH ah;rw[Y]at ac;cases ac;split at hv;case h_2=>
  unfold ZiN at hv;split at hv;case h_2=>cases hv
  split at hv;case isFalse=>cases hv
  cases hv
 rename_i A hr;unfold ZgB at hv;simp only[aC,AV.isl.injEq]at hv;obtain⟨rfl,rfl,rfl,_⟩:=hv;obtain⟨arr,a1,a2,a3,a4,a5⟩:=Zev (R:=R) (ρ:=ρ) ps.toList 0 A ((Array.range (n*U)).map fun k=>(if n*U=0 then #[]else z.cells)[k%(if n*U=0 then #[]else z.cells).size]!) hr (by simp[S]) hE;have ab:A.length=n:=by rw[a3,cV];rw[cV]at S;exact S
 have ai:arr.size=n*U:=by rw[a2];simp
 obtain⟨J,hw,H',hx,I,hm,ae,ak⟩:=H.garFresh U (fun _=>(A.length:Int)) (fun e=>A.getD (e ()).toNat (A.headD [])) n (by show(A.length:Int)=n;rw[ab]) arr e ai (fun J I i hi=>by
  have Z:A[i]? =some A[i]:=aD (by omega);have er:A.getD (i:Int).toNat (A.headD [])=A[i]:=by rw[aV,aA,Z];rfl
  show(A.getD (i:Int).toNat (A.headD [])).length=U/\∀j c,(A.getD (i:Int).toNat (A.headD []))[j]? =some c->_;rw[er];refine⟨(a5 i _ Z).1,fun j c Y=>?_⟩;have:=(a5 i _ Z).2 j c Y;rw[Nat.zero_add]at this
  exact this.mono I.ok I.keep I.keepM)
 refine⟨.slice (some ⟨R.w.heap.size,0,none⟩) n n,J,?_,H',hx,I,?_⟩
 ·have aj:(ps.map fun(i,x)=>(i,ρ x)).toList=ps.toList.map fun p=>(p.1,ρ p.2):=by simp
  unfold Instr.buildSlice;simp only[aP,Zu hu,aH,Z0 Y,hs,aj];rw[if_neg (by omega)];rw[hw];by_cases hns:n*U=0
  ·simp only[if_pos hns]at a1|-;simp only[aP,bC,aH];rw[a1];rfl
  simp only[if_neg hns]at a1|-;simp only[aP,bC,aH,zeroValue,Xh Y,hz];rw[a1];rfl
 rw[H.len];exact .gsl _ _ _ _ _ (by omega) (by rw[ae];exact bT _) (fun _=>ak.symm) ⟨by show(A.length:Int)=n;rw[ab],.inr ⟨_,_,rfl⟩⟩
end
def Zqu (T:Tb) (o:Oper) (E:Operand->AV) (h:List Zh):Option (AV×List Zh×Cd):=match o.op,o.guard with
 |.buildSlice t n ps,none=>(match Yj T (fun x=>strip (E x)) t n ps.toList with
  |some (.isl s m f _)=>some (.gsl h.length m,h++[.gar s m f],gdC E o.op.operands.toList)
  |_=>none)
 |_,_=>none
def Zff (T:Tb) (p:Unit->Program) (d:Nat) (ops:Array Oper):List Oper->List AV->List Zh->Cd->(List AV->List Zh->Cd->Prop)->Prop
 |[],s,h,c,K=>K s h c
 |o::r,s,h,c,K=>(match o.dst with
  |some e=>if ZD e d then(match Zqu T o (ev s) h with
   |some (v,h',c')=>Zff T p d ops r (putO s o.dst v) h' (c++c') K
   |none=>False)else Wop T p ops o (ev s) h c fun v h c=>Zff T p d ops r (putO s o.dst v) h c K
  |none=>Wop T p ops o (ev s) h c fun v h c=>Zff T p d ops r (putO s o.dst v) h c K)
section
variable {T:Tb} {p:Unit->Program} {R₀:RC} {h₀:List Zh}
theorem Zqt (hT:T.Of (p ())) {ops:Array Oper} {i:Nat} {o:Oper} (ho:ops[i]? =some o) {E:Operand->AV} {h h':List Zh} {v:AV} {c:Cd} (hv:Zqu T o E h=some (v,h',c)) (hc:ZT c):ZdZ (p ()) R₀ h₀ ops i o E h fun v' J=>v'=v/\J=h':=by
 unfold Zqu at hv;split at hv;case h_2=>cases hv
 rename_i t n ps A hg;split at hv;case h_2=>cases hv
 rename_i s m f tk hb;have G:=JD hT hb;simp only[aC,aK]at hv;obtain⟨rfl,rfl,rfl⟩:=hv;intro R I S Z b ds k cs aa;have U:∀x∈o.op.operands,VR R (strip (E x)) (QH I x):=fun x Y=>(Z x (List.mem_append_left _ (cM.2 Y))).strip (ZfC hc x (cM.2 Y))
 obtain⟨u,R',h1,h2,V,H,h5⟩:=ZsO (ρ:=QH I) S.hr (fun q hq=>U q.2 (by
  rw[A];simp only[Op.operands];rw[<-cM];simp only[Array.toList_map]
  exact List.mem_map.2 ⟨q,hq,rfl⟩)) G
 refine⟨_,_,R',u,⟨rfl,rfl⟩,S.step h2 V H,V,H,h5,.one (ZaH (nv:=.value u) ho (by simp[Region.wanted,hg]) (fun c e=>by rw[A]at e;cases e) ?_ ?_ (.inl rfl))⟩
 ·unfold execOp;simp only[A];exact Zg (fun _=>ZbI) fun _ _=>Zn
 unfold execOp;simp only[A];rw[aP,h1];rfl
theorem ZkD (hT:T.Of (p ())) {d:Nat} {ops:Array Oper} {K:List AV->List Zh->Cd->Prop} (hK:∀s h c,K s h c->ZT c):∀(l:List Oper) (j:Nat) (s:List AV) (h:List Zh) (c:Cd),(∀m,m<l.length->ops[j+m]? =l[m]?)->Zff T p d ops l s h c K->
  ZT c/\ZbD (p ()) R₀ h₀ ops (eH j l.length) s h fun s h=>∃c,K s h c
 |[],j,s,h,c,_,hW=>⟨hK _ _ _ hW,fun R t hi H b Y k cs=>⟨s,h,R,t,⟨_,hW⟩,hi,Xd.refl _ _,RC.le.refl _,H,.one Y8⟩⟩
 |o::r,j,s,h,c,hl,hW=>by
  have ho:ops[j]? =some o:=by simpa using hl 0 (by simp)
  have U:=fun s h c=>ZkD hT (d:=d) hK r (j+1) s h c (fun m hm=>by have:=hl (m+1) (by simpa using hm);rw[show j+1+m=j+(m+1) by omega];simpa using this);have S:∀(Q:AV->List Zh->Prop),ZdZ (p ()) R₀ h₀ ops j o (Vm.ev s) h Q->(∀v A,Q v A->∃Z,Zff T p d ops r (putO s o.dst v) A Z K)->ZbD (p ()) R₀ h₀ ops (eH j (o::r).length) s h fun s h=>∃c,K s h c:=fun Q h2 G R t hi H b Y k cs=>by
   obtain⟨v,A,R',u,hQ,a1,a2,a3,a4,a5⟩:=h2 R t hi (H.eok ops o) b Y k cs (eH (j+1) r.length);obtain⟨Z,V⟩:=G v A hQ;obtain⟨ac,I,aa,ab,b1,b2,b3,b4,b5,b6⟩:=(U _ _ _ V).2 R' _ a1 ((H.mono a3).putO a4 o.dst) b Y k cs;exact⟨ac,I,aa,ab,b1,b2,a2.trans b3,a3.trans b4,b5,a5.trans (Ys a3 b6)⟩
  have other:(Wop T p ops o (Vm.ev s) h c fun v h c=>Zff T p d ops r (putO s o.dst v) h c K)->ZT c/\ZbD (p ()) R₀ h₀ ops (eH j (o::r).length) s h fun s h=>∃c,K s h c:=fun hW=>by
   obtain⟨h1,h2⟩:=Zjd hT (R₀:=R₀) (h₀:=h₀) ho (fun v h c V=>(U _ _ _ V).1) hW;exact⟨h1,S _ h2 fun v A G=>G⟩
  unfold Zff at hW;split at hW
  ·split at hW
   ·split at hW;case h_2=>exact hW.elim
    rename_i v A Z hv;have J:=(U _ _ _ hW).1
    exact⟨(Z1 J).1,S _ (Zqt hT ho hv (Z1 J).2) fun v' I G=>by
     obtain⟨rfl,rfl⟩:=G
     exact⟨_,hW⟩⟩
   exact other hW
  exact other hW
theorem hpX {nb:Nat} {K:Ex->List AV->List Zh->Cd->Prop} {id:Nat} {ops:Array Oper} {k:List Item} {s:List AV} {h:List Zh} (hT:T.Of (p ())) (d:Nat) (hW:Zff T p d ops ops.toList s h [] fun s h c=>Chk c (HP false nb p k K s h)):HP false nb p (.code (.region id ops false)::k) K s h:=
 ⟨fun J A G I=>by
  obtain⟨_,U⟩:=ZkD (R₀:=A) (h₀:=G) hT (fun s h c (H:Chk c _)=>H.c) ops.toList 0 s h [] (fun m hm=>by simp) hW;have S:ZbD (p ()) A G ops (aR ops.size) s h fun s h=>∃c,Chk c (HP false nb p k K s h):=by
   rw[List.range_eq_range'];simpa using U
  exact CI.then (CI.region S fun s h H=>⟨rfl,H⟩) fun s h ⟨c,H⟩=>H.g.run J A G I⟩
end
end Vm
namespace Vm
attribute [local irreducible] Dn
open Go Go.Proofs Sp
set_option maxRecDepth 100000
set_option maxHeartbeats 8000000
theorem ZG.garE {n k s:Nat} {m m':Unit->Int} {f G:(Unit->Int)->List AV} (hm:m ()=m' ()) (hf:∀i:Nat,(i:Int)<m ()->XG (f fun _=>(i:Int)) (G fun _=>(i:Int))):ZG n k (.gar s m f) (.gar s m' G):=
 ⟨fun R id hN ⟨h1,h2⟩=>⟨h1.trans hm,by
  rcases h2 with⟨h3,U⟩|⟨b,o,len,J,arr,ty,a1,a2,a3,S,Y,H⟩
  ·exact .inl ⟨by omega,U⟩
  refine .inr ⟨b,o,len,J,arr,ty,by omega,a2,a3,S,Y,fun i I=>?_⟩;have A:=hf i (by omega);refine⟨by rw[A.1];exact(H i I).1,fun j c hj=>?_⟩;obtain⟨V,Z,g2⟩:=A.2 j c hj
  exact g2 _ _ _ ((H i I).2 j V Z)⟩,fun _ _ _=>Iff.rfl,fun _ _ _ _ _=>Iff.rfl,rfl⟩
theorem To.rsvC {s:List AV} {h:List Zh} {id:Nat} {cs:List AV} (S:h[id]? =some (.cells cs)):To s h s (h.set id (.cells (cs.map (Vm.rsv h)))):=fun G R t H hs=>by
 have J:∀ {j x},(h.set id (.cells (cs.map (Vm.rsv h))))[j]? =some x->(j=id/\x= .cells (cs.map (Vm.rsv h)))\/(j≠id/\h[j]? =some x):=fun {j x} A=>by
  rw[List.getElem?_set]at A;split at A
  ·rename_i e;split at A
   ·simp only[aC]at A;exact .inl ⟨e.symm,A.symm⟩
   cases A
  rename_i e;exact .inr ⟨fun e'=>e e'.symm,A⟩
 have ac:∀ {j},j≠id->(h.set id (.cells (cs.map (Vm.rsv h))))[j]? =h[j]? :=fun {j} e=>by rw[List.getElem?_set_ne (Ne.symm e)]
 have ai:=(List.getElem?_eq_some_iff.1 S).1;have ab:(h.set id (.cells (cs.map (Vm.rsv h))))[id]? =some (.cells (cs.map (Vm.rsv h))):=by rw[List.getElem?_set_self ai]
 have aa:∀ {j x b},(h.set id (.cells (cs.map (Vm.rsv h))))[j]? =some x->Zz R j x b->∃y,h[j]? =some y/\Zz R j y b:=fun {j x b} A I=>by
  rcases J A with⟨rfl,rfl⟩|⟨V,A⟩
  ·exact⟨_,S,I⟩
  exact⟨x,A,I⟩
 have ae:∀b o n,Zc2 R h b o n↔Zc2 R (h.set id (.cells (cs.map (Vm.rsv h)))) b o n:=fun b o n=>by
  constructor
  ·intro ha j x A;rcases J A with⟨rfl,rfl⟩|⟨V,A⟩
   ·exact(ha j _ S:¬Zz R j (.cells cs) b)
   exact ha j x A
  intro ha j x A;by_cases e:j=id
  ·subst e;rw[S]at A;cases A;exact(ha j _ ab:¬Zz R j (.cells (cs.map (Vm.rsv h))) b)
  exact ha j x (by rw[ac e];exact A)
 refine⟨R,rfl,⟨by rw[List.length_set];exact H.len,fun b o n=>by rw[<-ae];exact H.okd b o n,fun j x A=>?_,fun i j bi bj b ah U hj I Y=>?_,H.cl,H.fresh,fun j x b A Z I o n=>?_,H.n0m⟩,⟨rfl,rfl,rfl,rfl,aJ _,aJ _,fun _ _=>rfl,fun _ _ _ k=>k,fun _ _ _ _ _ _=>rfl,fun _ _ _=>rfl,fun j x b A I=>?_⟩,RC.le.refl _,hs⟩
 ·rcases J A with⟨rfl,rfl⟩|⟨V,A⟩
  ·obtain⟨arr,ty,h1,h2,h3⟩:=H.blk _ _ S;refine⟨arr,ty,h1,by rw[bA];exact h2,fun k c Z=>?_⟩;rw[List.getElem?_map,Option.map_eq_some_iff]at Z;obtain⟨c0,aj,rfl⟩:=Z
   have:=(SL.rsv (t:= #[arr.getD ((R.α j).o+k) undef]) H ⟨rfl,fun i a U=>by
    cases i with
    |zero=>
     have U:c0=a:=by simpa using U
     subst U;exact h3 k _ aj
    |succ i=>simp at U⟩ {tb with rs:=true} (s:=[c0])).2 0 (Vm.rsv h c0) rfl
   exact this
  exact H.blk j x A
 ·obtain⟨y,hy,I⟩:=aa U I;obtain⟨y',ak,Y⟩:=aa hj Y;exact H.dis i j y y' b ah hy ak I Y
 ·rcases J A with⟨rfl,rfl⟩|⟨V,A⟩
  ·cases Z
  exact H.tokG j x b A Z I o n
 obtain⟨y,hy,I⟩:=aa A I;exact .inr ⟨j,y,hy,I,.inl rfl⟩
theorem ZG.deadF {n k s:Nat} {m:Unit->Int} {f:(Unit->Int)->List AV}:ZG n k (.fro s m f) .dead:=⟨fun _ _ _ _=>trivial,fun _ _ _=>Iff.rfl,fun _ _ _ _ _=>Iff.rfl,rfl⟩
theorem PR.nilw' {w:World} {ok:Nat->Nat->Nat->Prop} {s s':Nat} {m m':Unit->Int} {f H:(Unit->Int)->List AV} {v:Value} (h:PR w ok (.isl s m f .nil) v) (hm:m' ()=0):PR w ok (.isl s' m' H .none) v:=by
 cases h with
 |isl0 _ _ _ _ G A=>exact .isl0 _ _ _ _ hm rfl
 |islE _ _ _ _ a G A=>exact .islE _ _ _ _ a hm (.inl rfl)
 |isl _ _ _ _ b o len I U J S A=>rcases A with h|h<;>cases h
theorem Zst {p A:Prop} {α S J G I:Type} {k:List Item} {K:Ex->List AV->List Zh->Cd->Prop} (st:α×S×J×G×I->List AV) (H:α×S×J×G×I->List Zh) (inv:α×S×J×G×I->Prop) (Y:p->(∀i,inv i->HP false 1 (fun _=>aB) k K (st i) (H i))->A) (V:¬p->(∀i,inv i->HP false 1 (fun _=>aB) k K (st i) (H i))->A)
  (U:∀a b c d e,inv (a,b,c,d,e)->HP false 1 (fun _=>aB) k K (st (a,b,c,d,e)) (H (a,b,c,d,e))):A:=by
 by_cases h:p
 ·exact Y h fun⟨a,b,c,d,e⟩ hi=>U a b c d e hi
 exact V h fun⟨a,b,c,d,e⟩ hi=>U a b c d e hi
theorem ZiK (kp rs:Bool) (cs:List Nat) {x:Code} {Q:Ex->List AV->List Zh->Prop} {s:List AV} {h:List Zh} {α G A:Type} (L:List Nat) (ex:List Zh) (ch:α×G×A->List (Nat×AV)) (H:α×G×A->List (Nat×Zh)) (inv:α×G×A->Prop) (I:α×G×A->Nat) (i:α×G×A)
  (hi:inv i) (J:To (Vm.keep L s) h (Y9 (Vm.keep L s) (ch i)) (Ym (h++ex) (H i)))
  (step:∀a b c,inv (a,b,c)->Dn (tbX kp rs cs) (fun _=>aB) (Zfq L (fun i=>Y9 (Vm.keep L s) (ch i)) (fun i=>Ym (h++ex) (H i)) inv I (a,b,c) (h++ex).length Q) 100 .none [.code x] (Y9 (Vm.keep L s) (ch (a,b,c))) (Ym (h++ex) (H (a,b,c))) []):LP false (fun _=>aB) x Q s h:=
 ZJ kp rs cs L ex ch H inv I i hi J fun⟨a,b,c⟩ h=>step a b c h
theorem ZwL {A:(α:Type)->α->List α->Int->α} (O:∀(α:Type) (d:α) (l:List α) (i:Int),A α d l i=l.getD i.toNat d) (z:Zone) (old:List Train) (n:Int) (H:Xe (Zs z old)) (G:(QZ (Zs z old) ⟨n,0⟩).2=false):SC (fun _=>aB) 75 [.agg [.gd (fun _=>decide ((1:Int)=1)) (.isl 2 (fun _=>1) (fun e=>encZone (A Zone default [z] (e ()))) .none),.isl 3 (fun _=>(old.length:Int)) (fun e=>encTrain (A Train default old (e ()))) .none,.isl 0 (fun _=>0) (fun _=>[]) .nil,.int .i64 fun _=>1,.int .i64 fun _=>0],.agg [.int .i64 fun _=>n,.int .i64 fun _=>0]] [] fun v h=>v= .tup [.undef,.bool fun _=>false]/\h=[]:=by
 have k:=ZwM (Zs z old) ⟨n,0⟩ H G;simp only[Zd,Zi,Zs,Za O]at k;refine SC.to ?_ k;(refine To.of [] ?_;cbv;(try simp only[nc]);(repeat' (first|exact trivial|exact Zy.refl _|exact ZG.refl _|refine⟨?_,?_⟩|refine ZG.cells ?_|refine Zy.agg ?_|refine Zy.tup ?_));(all_goals (first|exact XQ|skip)));all_goals exact .gd rfl (.none rfl fun _ _=>rfl)
theorem ZuU (kp rs:Bool) (cs:List Nat) {x:Code} {Q:Ex->List AV->List Zh->Prop} {s:List AV} {h:List Zh} {α H G A:Type} (L:List Nat) (ex:List Zh) (ch:α×H×G×A->List (Nat×AV)) (I:α×H×G×A->List (Nat×Zh)) (inv:α×H×G×A->Prop) (J:α×H×G×A->Nat) (i:α×H×G×A)
  (hi:inv i) (S:To (Vm.keep L s) h (Y9 (Vm.keep L s) (ch i)) (Ym (h++ex) (I i)))
  (step:∀a b c d,inv (a,b,c,d)->Dn (tbX kp rs cs) (fun _=>aB) (Zfq L (fun i=>Y9 (Vm.keep L s) (ch i)) (fun i=>Ym (h++ex) (I i)) inv J (a,b,c,d) (h++ex).length Q) 100 .none [.code x] (Y9 (Vm.keep L s) (ch (a,b,c,d))) (Ym (h++ex) (I (a,b,c,d))) []):LP false (fun _=>aB) x Q s h:=
 ZJ kp rs cs L ex ch I inv J i hi S fun⟨a,b,c,d⟩ h=>step a b c d h
structure ByL (b:List Int) (n:Int):Prop where
 rng:∀k,k<b.length->0<=b.getD k 0/\b.getD k 0<=240
 asc:∀k,k+1<b.length->b.getD k 0<b.getD (k+1) 0
 bd:0<=n/\n<=10+60*b.length
 last:∀k,k<b.length->b.getD k 0<n
theorem ByL.nil {n:Int} (h:0<=n/\n<=10):ByL [] n:=⟨fun k h=>by simp at h,fun k h=>by simp at h,by simp;omega,fun k h=>by simp at h⟩
theorem ByL.snoc {b:List Int} {n y:Int} (h:ByL b n) (S:b.length<=2) (U:1<=y/\y<=60):ByL (b++[n]) (n+y):=by
 have J:=h.bd;have G:∀k,k<b.length->(b++[n]).getD k 0=b.getD k 0:=fun k A=>Zep A;have H:(b++[n]).getD b.length 0=n:=Zeq;have I:(b++[n]).length=b.length+1:=by rw[bf,fu]
 refine⟨fun k A=>?_,fun k A=>?_,by rw[I];omega,fun k A=>?_⟩
 ·by_cases e:k<b.length
  ·rw[G k e];exact h.rng k e
  rw[show k=b.length by omega,H];omega
 ·rw[G k (by omega)];by_cases e:k+1<b.length
  ·rw[G _ e];exact h.asc k e
  rw[show k+1=b.length by omega,H];exact h.last k (by omega)
 by_cases e:k<b.length
 ·rw[G k e];have:=h.last k e;omega
 rw[show k=b.length by omega,H];omega
theorem Zn1 {α:Type} {p:α->Bool} {d:α} {l:List α} {k:Nat} (h:k<l.length):(l.take (k+1)).any p=((l.take k).any p||p (l.getD k d)):=by
 rw[List.take_add_one,fT,aD h,aA,aD h];simp
theorem Ztd (a b c d:Int):decide (a=b/\c=d)=(bif a==b then c==d else false):=by
 by_cases h:a=b
 ·subst h;simp;rfl
 simp[h]
theorem cL3 (l:List Nat) {f:FuncId} {xs J:List AV} {h I:List Zh} {A Q:AV->List Zh->Prop} (H:SC (fun _=>aB) f J I Q) (S:∀ r G,Q r G->A (ren (Y7 l h.length) 5 r) (back l h G)) (V:l.Nodup:=by decide) (U:∀ i∈l,i<h.length:=by simp) (Y:xs.map (Qs false l h 5)=J:=by first|rfl|(simp only[Ze,Zd,Zf,Zc,Zi,Zs,Za O];rfl)) (Z:sel false l h=I:=by first|rfl|(simp only[Ze,Zd,Zf,Zc,Zi,Zs,Za O];rfl)):SC (fun _=>aB) f xs h A:=ZS l H V U Y Z S
theorem ZxZ (s runs waits delays:Int) (hr:1<=runs/\runs<=4) (hw:0<=waits/\waits<=4) (hd:0<=delays/\delays<=6):SC (fun _=>aB) 19 [.ptr 0 0,.int .i64 fun _=>runs,.int .i64 fun _=>waits,.int .i64 fun _=>delays] [XR s] fun v h=>
  ∃(t:Zb) (s':Int),(Zq7 t/\(t.runs.length:Int)<=runs/\(t.waits.length:Int)<=waits/\(t.delays.length:Int)<=delays)/\v=Zf t/\h=[XR s']:=by
 obtain⟨G,O⟩:=Zo;obtain⟨N,hN⟩:∃N:Nat,(N:Int)=4*waits:=⟨(4*waits).toNat,by omega⟩;refine SC.less (Zs0 false false [] [1] false 1 Tryz.func19 (body:=Zj Tryz.f19) rfl (by decide+kernel) rfl ?_);refine wS ?_;refine hpX (T:=tbH false false [] [] false 1) (hTH false false [] [] false 1) 33 ?_;refine vS ?_;refine cL3 [0] (c22 s (-1) 1 (by omega) (by omega)) fun r I H=>?_;(try simp only[Ze,Zd,Zf,Zc,Zi,Zs,Za O]at H);obtain⟨x,s1,hx,rfl,rfl⟩:=H;refine wS ?_;refine Zbv [0,1,2,3,8,9] 4 rfl rfl (s₂:=mkS 312 [(0,.ptr 0 0),(1,.int .i64 fun _=>runs),(2,.int .i64 fun _=>waits),(3,.int .i64 fun _=>delays),(8,.ptr 1 0),(9,.ptr 3 0)]) (h₂:=[XR s1,.cells [.isl 0 (fun _=>0) (fun _=>[]) .nil,.isl 0 (fun _=>0) (fun _=>[]) .nil,.isl 0 (fun _=>0) (fun _=>[]) .nil,.int .i64 fun _=>0,.int .i64 fun _=>0,.isl 0 (fun _=>0) (fun _=>[]) .nil,.isl 0 (fun _=>0) (fun _=>[]) .nil,.isl 0 (fun _=>0) (fun _=>[]) .nil],.gar 2 (fun _=>1) (fun e=>encZone (G Zone default [⟨30*x,[]⟩] (e ()))),.cells [.gsl 2 fun _=>1,.isl 0 (fun _=>0) (fun _=>[]) .nil,.isl 0 (fun _=>0) (fun _=>[]) .nil,.int .i64 fun _=>1,.int .i64 fun _=>0,.isl 0 (fun _=>0) (fun _=>[]) .nil,.isl 0 (fun _=>0) (fun _=>[]) .nil,.isl 0 (fun _=>0) (fun _=>[]) .nil]]) ?_ ?_
 ·refine toR ?_;refine ZG.garE rfl fun i hi=>?_;match i,hi with
  |0,_=>(show XG [_,_] (encZone (G Zone default [⟨30*x,[]⟩] 0)));rw[O];exact XG.two fun w ok v h=>h.nilw' rfl
 refine ZdL false false [4] [19,21] false ?_;refine wS ?_;refine cL3 [0] (c37 s1 1 5 (by omega)) fun r I H=>?_;(try simp only[Ze,Zd,Zf,Zc,Zi,Zs,Za O]at H);obtain⟨bb,s2,rfl,rfl⟩:=H;refine wS ?_;refine ZnS false false [] 50 [0,1,2,3,8,9] (fun _=>[]) (fun(⟨s,z⟩:Int×Zone)=>[(0,XR s),(2,.gar 2 (fun _=>1) (fun e=>encZone (G Zone default [z] (e ())))),(3,.cells [.gsl 2 fun _=>1,.isl 0 (fun _=>0) (fun _=>[]) .nil,.isl 0 (fun _=>0) (fun _=>[]) .nil,.int .i64 fun _=>1,.int .i64 fun _=>0,.isl 0 (fun _=>0) (fun _=>[]) .nil,.isl 0 (fun _=>0) (fun _=>[]) .nil,.isl 0 (fun _=>0) (fun _=>[]) .nil])]) (fun⟨s,z⟩=>Zq4 1 z) (fun _ _ h=>h) (by decide) ?_ ?_
 ·refine wS ?_;refine⟨fun hb=>?_,fun hb=>?_⟩
  ·refine wS ?_;refine cL3 [0] (c29 s2 1 (by omega)) fun r I H=>?_;(try simp only[Ze,Zd,Zf,Zc,Zi,Zs,Za O]at H);obtain⟨z,s3,hz,rfl,rfl⟩:=H;refine wS ?_;refine⟨(s3,z),hz,?_⟩;refine toR ?_;refine ZG.garE rfl fun i hi=>?_;match i,hi with
   |0,_=>(simp only[O]);exact XG.two fun w ok v h=>h.wk rfl (fun j hj=>rfl) (.inl rfl)
  refine wS ?_;refine⟨(s2,⟨30*x,[]⟩),⟨by dsimp only;omega,.inr rfl,.nil,by simp,by simp⟩,?_⟩;exact ZF
 rintro⟨s,z⟩ hz;refine wS ?_;refine cL3 [0] (c22 s 1 runs (by omega) (by omega)) fun r I H=>?_;(try simp only[Ze,Zd,Zf,Zc,Zi,Zs,Za O]at H);obtain⟨n,s4,hn,rfl,rfl⟩:=H;refine wS ?_;obtain⟨n,rfl⟩:∃k:Nat,n=k:=⟨n.toNat,by omega⟩;refine ZJ false false [] [0,2,3,8,9,10] [.tok 3 fun _=>0] (fun(⟨i,s,old⟩:Nat×Int×List Train)=>[(10,.int .i64 fun _=>i)])
  (fun⟨i,s,old⟩=>[(0,XR s),(3,.cells [.gsl 2 fun _=>1,.isl 3 (fun _=>(old.length:Int)) (fun e=>encTrain (G Train default old (e ()))) (.own 4),.isl 0 (fun _=>0) (fun _=>[]) .nil,.int .i64 fun _=>1,.int .i64 fun _=>0,.isl 0 (fun _=>0) (fun _=>[]) .nil,.isl 0 (fun _=>0) (fun _=>[]) .nil,.isl 0 (fun _=>0) (fun _=>[]) .nil]),(4,.tok 3 fun _=>(old.length:Int))])
  (fun⟨i,s,old⟩=>i<=n/\old.length+i=n/\DL n old) (fun i=>i.1+0) (n,s4,[]) ⟨aJ _,by simp,⟨fun k hk=>by simp at hk⟩⟩ ?_ ?_
 ·(refine To.of [(3,false)] ?_;cbv;(try simp only[nc]);(repeat' (first|exact trivial|exact Zy.refl _|exact ZG.refl _|refine⟨?_,?_⟩|refine ZG.cells ?_|refine Zy.agg ?_|refine Zy.tup ?_));(all_goals (first|exact XQ|skip)))
 rintro⟨i,s,old⟩ ⟨hi,ck,hdl⟩;refine wS ?_;refine⟨fun hb=>?_,fun hb=>?_⟩
 ·simp only[decide_eq_true_eq]at hb;refine wS ?_;refine cL3 [0] (c22 s 3 5 (by omega) (by omega)) fun r I H=>?_;(try simp only[Ze,Zd,Zf,Zc,Zi,Zs,Za O]at H);obtain⟨st,s5,ae,rfl,rfl⟩:=H;refine wS ?_;obtain⟨st,rfl⟩:∃k:Nat,st=k:=⟨st.toNat,by omega⟩;refine cL3 [0] (ZxP s5 i st (by omega)) fun r I H=>?_;(try simp only[Ze,Zd,Zf,Zc,Zi,Zs,Za O]at H);obtain⟨t,s6,ht,rfl,rfl⟩:=H;refine wS ?_;obtain⟨j,rfl⟩:∃j,i=j+1:=⟨i-1,by omega⟩;refine⟨(j,s6,old++[t]),⟨by omega,by simp only[bf,bF,cE];omega,hdl.snoc (st:=st) (by omega) (by rw[show(n:Int)-old.length=((j+1:Nat):Int) by omega];exact ht)⟩,by show j+0<j+1+0;omega,?_⟩;(refine To.of [] ?_;cbv;(try simp only[nc]);(repeat' (first|exact trivial|exact Zy.refl _|exact ZG.refl _|refine⟨?_,?_⟩|refine ZG.cells ?_|refine Zy.agg ?_|refine Zy.tup ?_));(all_goals (first|exact XQ|skip)));all_goals trace_state
 simp only[decide_eq_false_iff_not]at hb;have ck:old.length=n:=by omega
 have az:(n:Int)=old.length:=by omega
 have ao:old.length<=4:=by omega
 have dy:(old.length:Int)<=runs:=by omega
 have bh:=Zoe hz (by decide);have dc:=ZiY bh hdl (by omega) (by omega);have hf:Xe (Zs z old):=by
  have hc:=ZcH dc;exact⟨by have:=hc.zlen;omega,by have:=hc.olen;omega,by have:=hc.nlen;omega,fun z hz=>by have:=(Zcn (hc.zones z hz)).2.2.1;omega,⟨fun t ht=>by have:=(hc.old t ht).len;omega,fun t ht=>by have:=(hc.new t ht).len;omega⟩⟩
 apply Zst (p:=∃j,j<old.length/\(QZ (Zs z old) (QA (Zs z old) j)).2=true) (fun(⟨s,z,old,rs,A⟩:Int×Zone×List Train×List Sp.Z4×List (List Sp.Call))=>mkS 312 [(0,.ptr 0 0),(2,.int .i64 fun _=>waits),(3,.int .i64 fun _=>delays),(8,.ptr 1 0),(9,.ptr 3 0),(11,.isl 1 (fun _=>(A.length:Int)) (fun e=>[.isl 3 (fun _=>((G (List Sp.Call) [] A (e ())).length:Int)) (fun e2=>XM (G Sp.Call default (G (List Sp.Call) [] A (e ())) (e2 ()))) .none]) .none)])
  (fun⟨s,z,old,rs,A⟩=>[XR s,.cells [.isl 0 (fun _=>0) (fun _=>[]) .nil,.isl 0 (fun _=>0) (fun _=>[]) .nil,.isl 0 (fun _=>0) (fun _=>[]) .nil,.int .i64 fun _=>0,.int .i64 fun _=>0,.isl 0 (fun _=>0) (fun _=>[]) .nil,.isl 0 (fun _=>0) (fun _=>[]) .nil,.isl 0 (fun _=>0) (fun _=>[]) .nil],.dead,.cells [.isl 2 (fun _=>1) (fun e=>encZone (G Zone default [z] (e ()))) .none,.isl 3 (fun _=>(old.length:Int)) (fun e=>encTrain (G Train default old (e ()))) .none,.isl 0 (fun _=>0) (fun _=>[]) .nil,.int .i64 fun _=>1,.int .i64 fun _=>0,.isl 2 (fun _=>(rs.length:Int)) (fun e=>Zi (G Sp.Z4 default rs (e ()))) .none,.isl 0 (fun _=>0) (fun _=>[]) .nil,.isl 0 (fun _=>0) (fun _=>[]) .nil]])
  (fun⟨s,z,old,rs,A⟩=>RJ (Zs z old) rs A/\(rs.length:Int)<=runs/\Zw z=0/\∃n,DL n old)
 ·intro cj M;refine wS ?_;refine ZJ false false [] [0,2,3,8,9,11,12] [.tok 1 fun _=>0,.tok 2 fun _=>0] (fun(⟨i,runs,A⟩:Nat×List Sp.Z4×List (List Sp.Call))=>[(11,.isl 1 (fun _=>(A.length:Int)) (fun e=>Zc (G (List Sp.Call) [] A (e ()))) (.own 5)),(12,.int .i64 fun _=>i)])
   (fun⟨i,runs,A⟩=>[(2,.dead),(3,.cells [.isl 2 (fun _=>1) (fun e=>encZone (G Zone default [z] (e ()))) .none,.isl 3 (fun _=>(old.length:Int)) (fun e=>encTrain (G Train default old (e ()))) .none,.isl 0 (fun _=>0) (fun _=>[]) .nil,.int .i64 fun _=>1,.int .i64 fun _=>0,.isl 2 (fun _=>(runs.length:Int)) (fun e=>Zi (G Sp.Z4 default runs (e ()))) (.own 6),.isl 0 (fun _=>0) (fun _=>[]) .nil,.isl 0 (fun _=>0) (fun _=>[]) .nil]),(5,.tok 1 fun _=>(A.length:Int)),(6,.tok 2 fun _=>(runs.length:Int))])
   (fun⟨i,runs,A⟩=>i<=old.length/\RL (Zs z old) i runs A) (fun i=>old.length-i.1+0) (0,[],[]) ⟨aW _,.nil⟩ ?_ ?_
  ·refine(To.froze (id:=2) rfl).trans ((To.rsvC (id:=3) rfl).trans ?_);(refine To.of [(1,false),(2,false)] ?_;cbv;(try simp only[nc]);(repeat' (first|exact trivial|exact Zy.refl _|exact ZG.refl _|refine⟨?_,?_⟩|refine ZG.cells ?_|refine Zy.agg ?_|refine Zy.tup ?_));(all_goals (first|exact XQ|skip)))
   ·exact .deadF
   exact .none rfl fun _ _=>rfl
  rintro⟨i,runs,A⟩ ⟨hi,Z⟩;refine wS ?_;refine⟨fun hb=>?_,fun hb=>?_⟩
  ·simp only[decide_eq_true_eq]at hb;have ab:QA (Zs z old) i=⟨(G Train default old i).number,0⟩:=by unfold QA Zs;rw[O];rfl
   have hE:QZ (Zs z old) (QA (Zs z old) i)=QZ ⟨[z],old,[],1,0⟩ ⟨(G Train default old i).number,0⟩:=by rw[ab];rfl
   have k:=Zva ⟨[z],old,[],1,0⟩ ⟨(G Train default old i).number,0⟩ hf;generalize QZ ⟨[z],old,[],1,0⟩ ⟨(G Train default old i).number,0⟩=E at hE k;refine wS ?_;refine JC (k) (by(try simp only[Ze,Zd,Zf,Zc,Zi,Zs,Za O]);exact ZF) (by first|rfl|(simp only[Ze,Zd,Zf,Zc,Zi,Zs,Za O];rfl)) fun r I H=>?_;(try simp only[Ze,Zd,Zf,Zc,Zi,Zs,Za O]at H);obtain⟨rfl,rfl⟩:=H;refine wS ?_;refine⟨fun h9=>?_,fun h9=>?_⟩
   ·have bq:=Z.len;have b9:=Z.le;refine wS ?_
    refine⟨(i+1,runs++[⟨(G Train default old i).number,0⟩],A++[E.1]),⟨by omega,by
     have:=Z.snoc hdl (by show i<old.length;omega) (C:=E.1) (by rw[hE,<-h9]);rw[ab]at this
     exact this⟩,by show old.length-(i+1)+0<old.length-i+0;omega,?_⟩
    refine toR ?_;exact .snoc O rfl (by simp) (by unfold Zc;rw[Za O];rfl)
   refine wS ?_;refine⟨(i+1,runs,A),⟨by omega,Z.skip (by rw[hE,<-h9])⟩,by show old.length-(i+1)+0<old.length-i+0;omega,?_⟩;exact ZF
  simp only[decide_eq_false_iff_not]at hb;have cn:0<runs.length:=by
   obtain⟨j,dz,al⟩:=cj;exact Z.some j (by omega) al
  refine wS ?_;refine Br.isF (by simp only[beq_eq_false_iff_ne];omega) ?_;refine wS ?_;have cy:i=old.length:=by omega
  subst cy;have b9:=Z.le;refine Zbv [0,2,3,8,9,11] 4 rfl rfl ?_ (M (s,z,old,runs,A) ⟨Z.ok bh hdl az ao ao cn,by show(runs.length:Int)<=_;omega,bh,_,hdl⟩);refine toR ?_;exact .none rfl fun i hi=>by simp only[Zc,Za O]
 ·intro c9 M;refine wS ?_;refine ZJ false false [] [0,2,3,8,9,11,12] [] (fun(i:Nat)=>[(12,.int .i64 fun _=>i)]) (fun _=>[]) (fun i=>i<=old.length) (fun i=>old.length-i+0) 0 (aW _) ?_ ?_
  ·exact ZF
  intro i hi;have hi:i<=old.length:=hi;refine wS ?_;refine⟨fun hb=>?_,fun hb=>?_⟩
  ·simp only[decide_eq_true_eq]at hb;have ab:QA (Zs z old) i=⟨(G Train default old i).number,0⟩:=by unfold QA Zs;rw[O];rfl
   have hE:(QZ (Zs z old) ⟨(G Train default old i).number,0⟩).2=false:=by
    rw[<-ab,<-gB];exact fun h=>c9 ⟨i,by omega,h⟩
   refine wS ?_;refine SC.lend0 (ZwL O z old _ hf hE) rfl fun r I H=>?_;obtain⟨rfl,rfl⟩:=H;refine⟨rfl,rfl,?_⟩;refine wS ?_;refine Br.isF rfl ?_;refine wS ?_;refine⟨i+1,by show i+1<=_;omega,by show old.length-(i+1)+0<old.length-i+0;omega,?_⟩;exact ZF
  simp only[decide_eq_false_iff_not]at hb;refine wS ?_;refine Br.isT rfl ?_;refine wS ?_;have ce:=ZiY (z:=⟨0,[]⟩) rfl hdl az ao;have dj:Xe (Zs ⟨0,[]⟩ old):=⟨by simp[Zs],hf.old,hf.new,fun z hz=>by simp[Zs]at hz;subst hz;simp,hf.stops⟩;have ah:=RL.one ce hdl (by omega);have ab:QA (Zs ⟨0,[]⟩ old) 0=⟨(G Train default old 0).number,0⟩:=by unfold QA Zs;rw[O];rfl
  have Z:=RL.snoc (C:=(QZ (Zs ⟨0,[]⟩ old) (QA (Zs ⟨0,[]⟩ old) 0)).1) hdl RL.nil (by show 0<old.length;omega) ah;have V:=Z.ok (z:=⟨0,[]⟩) rfl hdl az ao (by omega) (by simp);have k:=Zva (Zs ⟨0,[]⟩ old) (QA (Zs ⟨0,[]⟩ old) 0) dj;rw[ab]at k V ah;rw[show(QZ (Zs ⟨0,[]⟩ old) ⟨(G Train default old 0).number,0⟩).2=true by rw[ah]]at k;generalize (QZ (Zs ⟨0,[]⟩ old) ⟨(G Train default old 0).number,0⟩).1=C at V k;refine Zbv [0,2,3,8,9] 4 rfl rfl (s₂:=mkS 312 [(0,.ptr 0 0),(2,.int .i64 fun _=>waits),(3,.int .i64 fun _=>delays),(8,.ptr 1 0),(9,.ptr 3 0)]) (h₂:=[XR s,.cells [.isl 0 (fun _=>0) (fun _=>[]) .nil,.isl 0 (fun _=>0) (fun _=>[]) .nil,.isl 0 (fun _=>0) (fun _=>[]) .nil,.int .i64 fun _=>0,.int .i64 fun _=>0,.isl 0 (fun _=>0) (fun _=>[]) .nil,.isl 0 (fun _=>0) (fun _=>[]) .nil,.isl 0 (fun _=>0) (fun _=>[]) .nil],.dead,.cells [.isl 2 (fun _=>1) (fun e=>encZone (G Zone default [⟨0,[]⟩] (e ()))) .none,.isl 3 (fun _=>(old.length:Int)) (fun e=>encTrain (G Train default old (e ()))) .none,.isl 0 (fun _=>0) (fun _=>[]) .nil,.int .i64 fun _=>1,.int .i64 fun _=>0,.isl 2 (fun _=>1) (fun e=>Zi (G Sp.Z4 default [⟨(G Train default old 0).number,0⟩] (e ()))) .none,.isl 0 (fun _=>0) (fun _=>[]) .nil,.isl 0 (fun _=>0) (fun _=>[]) .nil]]) ((To.froze (id:=2) rfl).trans ((To.rsvC (id:=3) rfl).trans ?_)) ?_
  ·(refine To.of [] ?_;cbv;(try simp only[nc]);(repeat' (first|exact trivial|exact Zy.refl _|exact ZG.refl _|refine⟨?_,?_⟩|refine ZG.cells ?_|refine Zy.agg ?_|refine Zy.tup ?_));(all_goals (first|exact XQ|skip)))
   ·exact .deadF
   ·refine .gd rfl (.elems rfl fun i hi=>?_);match i,hi with
    |0,_=>(simp only[O]);exact XG.two fun w ok v h=>h.wk rfl (fun j hj=>by have hj:(j:Int)<0:=hj;omega) (.inl rfl)
   refine .none rfl fun i hi=>?_;match i,hi with
   |0,_=>(simp only[O]);rfl
  refine ZdL false false [] [21] false ?_;simp only[Zd,Zi,Zs,Za O]at k;refine wS ?_;have e0:G Sp.Z4 default [⟨(G Train default old 0).number,0⟩] 0=⟨(G Train default old 0).number,0⟩:=by rw[O];rfl
  refine JC k (by((refine To.of [] ?_;cbv;(try simp only[nc]);(repeat' (first|exact trivial|exact Zy.refl _|exact ZG.refl _|refine⟨?_,?_⟩|refine ZG.cells ?_|refine Zy.agg ?_|refine Zy.tup ?_));(all_goals (first|exact XQ|skip)));all_goals exact .int (by simp only[e0]))) rfl fun r I H=>?_;obtain⟨rfl,rfl⟩:=H;refine wS ?_;refine Zbv [0,2,3,8,9,11] 4 rfl rfl ?_ (M (s,⟨0,[]⟩,old,[⟨(G Train default old 0).number,0⟩],[C]) ⟨V,by show((1:Nat):Int)<=_;omega,rfl,_,hdl⟩);refine toR ?_;refine .none rfl fun i hi=>?_;match i,hi with
  |0,_=>(simp only[O]);rfl
 intro s z old rs A hj;have V:=hj.1;have dn:=hj.2.1;have ar:(∃z' aw n,Zs z old=Zs z' aw/\Zw z'=0/\DL n aw)/\∀k,k<rs.length->∃j,j<old.length/\rs.getD k default=QA (Zs z old) j:=⟨⟨z,old,hj.2.2.2.choose,rfl,hj.2.2.1,hj.2.2.2.choose_spec⟩,V.from_⟩;have dp:=V.pos;have bq:=V.len;clear hj;have aj:∀f:Int,0<=f->f<A.length->ZkI (G (List Sp.Call) [] A f):=fun f h1 h2=>by rw[O];exact V.row _ (ZsB (by omega))
 refine ZdL false false [] [] false ?_;refine wS ?_;refine ZiK false false [] [0,2,3,8,9,11,18] [.tok 4 fun _=>0] (fun(⟨i,s,S⟩:Nat×Int×List Sp.QV)=>[(18,.int .i64 fun _=>i)])
  (fun⟨i,s,S⟩=>[(0,XR s),(3,.cells [.isl 2 (fun _=>1) (fun e=>encZone (G Zone default [z] (e ()))) .none,.isl 3 (fun _=>(old.length:Int)) (fun e=>encTrain (G Train default old (e ()))) .none,.isl 0 (fun _=>0) (fun _=>[]) .nil,.int .i64 fun _=>1,.int .i64 fun _=>0,.isl 2 (fun _=>(rs.length:Int)) (fun e=>Zi (G Sp.Z4 default rs (e ()))) .none,.isl 4 (fun _=>(S.length:Int)) (fun e=>Qk (G Sp.QV default S (e ()))) (.own 4),.isl 0 (fun _=>0) (fun _=>[]) .nil]),(4,.tok 4 fun _=>(S.length:Int))])
  (fun⟨i,s,S⟩=>i<=N/\LOk (Qd A) S/\(S.length:Int)<=waits) (fun i=>i.1+0) (N,s,[]) ⟨aJ _,.nil,by simp;omega⟩ ?_ ?_
 ·(refine To.of [(4,false)] ?_;cbv;(try simp only[nc]);(repeat' (first|exact trivial|exact Zy.refl _|exact ZG.refl _|refine⟨?_,?_⟩|refine ZG.cells ?_|refine Zy.agg ?_|refine Zy.tup ?_));(all_goals (first|exact XQ|skip)))
  exact .int hN.symm
 intro i s S hq;have hi:i<=N:=hq.1;have bu:LOk (Qd A) S:=hq.2.1;have bx:(S.length:Int)<=waits:=hq.2.2;clear hq;refine wS ?_;refine⟨fun hb=>?_,fun hb=>?_⟩
 ·have cr:0<i/\(S.length:Int)<waits:=by
   by_cases h0:(0:Int)<i<;>simp[h0]at hb<;>omega
  refine wS ?_;refine cL3 [0] (c17 s ((A.length:Int)-1) (by omega)) fun r I H=>?_;(try simp only[Ze,Zd,Zf,Zc,Zi,Zs,Za O]at H);obtain⟨U,s5,dm,rfl,rfl⟩:=H;refine wS ?_;refine cL3 [0] (c17 s5 ((A.length:Int)-1) (by omega)) fun r I H=>?_;(try simp only[Ze,Zd,Zf,Zc,Zi,Zs,Za O]at H);obtain⟨tr,s6,cz,rfl,rfl⟩:=H;refine wS ?_;have db:=aj U (by omega) (by omega);have ci:=aj tr (by omega) (by omega);have dh:=db.len;have du:=ci.len;refine cL3 [0] (c17 s6 20 (by omega)) fun r I H=>?_;(try simp only[Ze,Zd,Zf,Zc,Zi,Zs,Za O]at H);obtain⟨m1,s7,dt,rfl,rfl⟩:=H;refine wS ?_;refine cL3 [0] (c17 s7 60 (by omega)) fun r I H=>?_;(try simp only[Ze,Zd,Zf,Zc,Zi,Zs,Za O]at H);obtain⟨m2,s8,d9,rfl,rfl⟩:=H;refine wS ?_;refine cL3 [0] (Zkr s8 [0,m1,m2] (by simp)) fun r I H=>?_;(try simp only[Ze,Zd,Zf,Zc,Zi,Zs,Za O]at H);obtain⟨mi,s9,a9,rfl,rfl⟩:=H;have a9:0<=mi/\mi<=60:=by simp at a9;omega
  refine wS ?_;refine⟨?_,?_⟩;all_goals
   (try refine wS ?_)
   refine cL3 [0] (c22 s9 1 (((G (List Sp.Call) [] A U).length:Int)-1) (by omega) (by omega)) fun r I H=>?_;(try simp only[Ze,Zd,Zf,Zc,Zi,Zs,Za O]at H);obtain⟨x,s10,hx,rfl,rfl⟩:=H;refine wS ?_;refine ZiK false false [] [0,2,3,8,9,11,18,19,20,21] [] (fun(⟨j,S,u⟩:Nat×List Sp.QV×Unit)=>[(21,.int .i64 fun _=>j)])
    (fun⟨j,S,u⟩=>[(3,.cells [.isl 2 (fun _=>1) (fun e=>encZone (G Zone default [z] (e ()))) .none,.isl 3 (fun _=>(old.length:Int)) (fun e=>encTrain (G Train default old (e ()))) .none,.isl 0 (fun _=>0) (fun _=>[]) .nil,.int .i64 fun _=>1,.int .i64 fun _=>0,.isl 2 (fun _=>(rs.length:Int)) (fun e=>Zi (G Sp.Z4 default rs (e ()))) .none,.isl 4 (fun _=>(S.length:Int)) (fun e=>Qk (G Sp.QV default S (e ()))) (.own 4),.isl 0 (fun _=>0) (fun _=>[]) .nil]),(4,.tok 4 fun _=>(S.length:Int))])
    (fun⟨j,S,u⟩=>LOk (Qd A) S/\(S.length:Int)<=waits/\((S.length:Int)<waits\/(S.any fun q=>decide (q.feeder=U/\q.train=tr/\q.station=(G Sp.Call default (G (List Sp.Call) [] A U) x).station))=true)) (fun q=>(G (List Sp.Call) [] A tr).length-q.1+0) (0,S,()) ⟨bu,bx,.inl cr.2⟩ ?_ ?_
   ·exact ZF
   intro j Y u ap;have ac:LOk (Qd A) Y:=ap.1;have ak:(Y.length:Int)<=waits:=ap.2.1;have ai:=ap.2.2;clear ap;refine wS ?_;refine⟨fun bl=>?_,fun bl=>?_⟩
   ·have al:(j:Int)<((G (List Sp.Call) [] A tr).length:Int)-1/\U≠tr:=by
     by_cases h0:(j:Int)<((G (List Sp.Call) [] A tr).length:Int)-1<;>simp[h0]at bl<;>exact⟨h0,bl⟩
    refine wS ?_;generalize aa:(bif (G Sp.Call default (G (List Sp.Call) [] A tr) (j:Int)).station==(G Sp.Call default (G (List Sp.Call) [] A U) x).station then decide ((G Sp.Call default (G (List Sp.Call) [] A U) x).arrive<=(G Sp.Call default (G (List Sp.Call) [] A tr) (j:Int)).depart)else false)=c7;refine⟨fun h7=>?_,fun h7=>?_⟩
    ·subst h7;have h8:(G Sp.Call default (G (List Sp.Call) [] A tr) (j:Int)).station=(G Sp.Call default (G (List Sp.Call) [] A U) x).station/\(G Sp.Call default (G (List Sp.Call) [] A U) x).arrive<=(G Sp.Call default (G (List Sp.Call) [] A tr) (j:Int)).depart:=by
      by_cases h0:(G Sp.Call default (G (List Sp.Call) [] A tr) (j:Int)).station=(G Sp.Call default (G (List Sp.Call) [] A U) x).station
      ·simp only[h0,beq_self_eq_true,cond_true,decide_eq_true_eq]at aa;exact⟨h0,aa⟩
      have h1:((G Sp.Call default (G (List Sp.Call) [] A tr) (j:Int)).station==(G Sp.Call default (G (List Sp.Call) [] A U) x).station)=false:=by simpa using h0
      rw[h1]at aa;cases aa
     clear aa;have k:=ZxO Y ⟨U,tr,(G Sp.Call default (G (List Sp.Call) [] A U) x).station,mi⟩ (by omega);dsimp only at k;generalize hE:(Y.any fun q=>decide (q.feeder=U/\q.train=tr/\q.station=(G Sp.Call default (G (List Sp.Call) [] A U) x).station))=E at k;simp only[Za O]at k;refine wS ?_;refine JC k (by((refine To.of [] ?_;cbv;(try simp only[nc]);(repeat' (first|exact trivial|exact Zy.refl _|exact ZG.refl _|refine⟨?_,?_⟩|refine ZG.cells ?_|refine Zy.agg ?_|refine Zy.tup ?_));(all_goals (first|exact XQ|skip)));all_goals exact .none rfl fun _ _=>rfl)) rfl fun r I H=>?_;obtain⟨rfl,rfl⟩:=H;refine wS ?_;refine⟨fun h9=>?_,fun h9=>?_⟩
     ·have h9:E=false:=by
       cases E
       ·rfl
       cases h9
      have dw:(Y.length:Int)<waits:=by
       rcases ai with h|h
       ·exact h
       rw[hE,h9]at h;cases h
      have c6:1<=x.toNat/\x.toNat<(Sp.Zl A U).length:=by have h1:=hx;have h2:=dh;simp only[O]at h1 h2;unfold Sp.Zl;omega
      have dg:j+1<(Sp.Zl A tr).length:=by have:=al.1;simp only[O]at this;unfold Sp.Zl;omega
      have di:Qd A ⟨U,tr,(G Sp.Call default (G (List Sp.Call) [] A U) x).station,mi⟩ Y=0:=Zrp (w:=⟨U,tr,(G Sp.Call default (G (List Sp.Call) [] A U) x).station,mi⟩) V.row (i:=x.toNat) (k:=j) ⟨dm.1,by dsimp only;omega⟩ ⟨cz.1,by dsimp only;omega⟩ al.2 c6 dg (by simp only[O];rfl) (by have:=h8.1;simp only[O,aV]at this|-;exact this) (by have:=h8.2;simp only[O,aV]at this|-;exact this) a9 (by dsimp only;rw[hE,h9]);have cf:=ac.snoc di;have cu:((Y++[(⟨U,tr,(G Sp.Call default (G (List Sp.Call) [] A U) x).station,mi⟩:Sp.QV)]).length:Int)<=waits:=by rw[bf,fu];omega
      have da:((Y++[(⟨U,tr,(G Sp.Call default (G (List Sp.Call) [] A U) x).station,mi⟩:Sp.QV)]).any fun q=>decide (q.feeder=U/\q.train=tr/\q.station=(G Sp.Call default (G (List Sp.Call) [] A U) x).station))=true:=by rw[fT];simp
      refine wS ?_;refine⟨(j+1,Y++[⟨U,tr,(G Sp.Call default (G (List Sp.Call) [] A U) x).station,mi⟩],()),⟨cf,cu,.inr da⟩,by show(G (List Sp.Call) [] A tr).length-(j+1)+0<(G (List Sp.Call) [] A tr).length-j+0;omega,?_⟩;exact ZF
     refine wS ?_;refine⟨(j+1,Y,()),⟨ac,ak,ai⟩,by show(G (List Sp.Call) [] A tr).length-(j+1)+0<(G (List Sp.Call) [] A tr).length-j+0;omega,?_⟩;exact ZF
    subst h7;clear aa;refine wS ?_;refine Br.isF rfl ?_;refine wS ?_;refine⟨(j+1,Y,()),⟨ac,ak,ai⟩,by show(G (List Sp.Call) [] A tr).length-(j+1)+0<(G (List Sp.Call) [] A tr).length-j+0;omega,?_⟩;exact ZF
   refine wS ?_;obtain⟨k,rfl⟩:∃k,i=k+1:=⟨i-1,by omega⟩;refine⟨(k,s10,Y),⟨by omega,ac,ak⟩,by show k+0<k+1+0;omega,?_⟩;exact ZF
 refine wS ?_;obtain⟨D,hD⟩:∃D:Nat,(D:Int)=delays:=⟨delays.toNat,by omega⟩;refine ZiK false false [] [0,8,9,11,23] [.tok 3 fun _=>0] (fun(⟨i,s,J⟩:Nat×Int×List Sp.ZP)=>[(23,.int .i64 fun _=>i)])
  (fun⟨i,s,J⟩=>[(0,XR s),(3,.cells [.isl 2 (fun _=>1) (fun e=>encZone (G Zone default [z] (e ()))) .none,.isl 3 (fun _=>(old.length:Int)) (fun e=>encTrain (G Train default old (e ()))) .none,.isl 0 (fun _=>0) (fun _=>[]) .nil,.int .i64 fun _=>1,.int .i64 fun _=>0,.isl 2 (fun _=>(rs.length:Int)) (fun e=>Zi (G Sp.Z4 default rs (e ()))) .none,.isl 4 (fun _=>(S.length:Int)) (fun e=>Qk (G Sp.QV default S (e ()))) (.own 4),.isl 3 (fun _=>(J.length:Int)) (fun e=>Zq (G Sp.ZP default J (e ()))) (.own 5)]),(5,.tok 3 fun _=>(J.length:Int))])
  (fun⟨i,s,J⟩=>i<=D/\LOk (Qm A) J/\J.length+i<=D) (fun i=>i.1+0) (D,s,[]) ⟨aJ _,.nil,by simp⟩ ?_ ?_
 ·(refine To.of [(3,false)] ?_;cbv;(try simp only[nc]);(repeat' (first|exact trivial|exact Zy.refl _|exact ZG.refl _|refine⟨?_,?_⟩|refine ZG.cells ?_|refine Zy.agg ?_|refine Zy.tup ?_));(all_goals (first|exact XQ|skip)))
  exact .int hD.symm
 intro i s J hq;have d6:i<=D:=hq.1;have au:LOk (Qm A) J:=hq.2.1;have dq:J.length+i<=D:=hq.2.2;clear hq;refine wS ?_;refine⟨fun bt=>?_,fun bt=>?_⟩
 ·simp only[decide_eq_true_eq]at bt;refine wS ?_;refine cL3 [0] (c17 s ((A.length:Int)-1) (by omega)) fun r I H=>?_;(try simp only[Ze,Zd,Zf,Zc,Zi,Zs,Za O]at H);obtain⟨r,s5,c8,rfl,rfl⟩:=H;have cq:=aj r (by omega) (by omega);have Z:=cq.len;refine wS ?_;refine cL3 [0] (c17 s5 (((G (List Sp.Call) [] A r).length:Int)-2) (by omega)) fun r I H=>?_;(try simp only[Ze,Zd,Zf,Zc,Zi,Zs,Za O]at H);obtain⟨lg,s6,bw,rfl,rfl⟩:=H;refine wS ?_;refine cL3 [0] (c17 s6 10 (by omega)) fun r I H=>?_;(try simp only[Ze,Zd,Zf,Zc,Zi,Zs,Za O]at H);obtain⟨n0,s7,dv,rfl,rfl⟩:=H;refine wS ?_;refine cL3 [0] (Zkr s7 [0,0,n0] (by simp)) fun r I H=>?_;(try simp only[Ze,Zd,Zf,Zc,Zi,Zs,Za O]at H);obtain⟨nn,s8,bo,rfl,rfl⟩:=H;have bo:0<=nn/\nn<=10:=by simp at bo;omega
  refine wS ?_;refine cL3 [0] (c22 s8 1 3 (by omega) (by omega)) fun r I H=>?_;(try simp only[Ze,Zd,Zf,Zc,Zi,Zs,Za O]at H);obtain⟨kk,s9,d8,rfl,rfl⟩:=H;refine wS ?_;obtain⟨kk,rfl⟩:∃q:Nat,kk=q:=⟨kk.toNat,by omega⟩;refine ZuU false false [] [0,8,9,11,23,24,25,26] [.tok 1 fun _=>0] (fun(⟨k,n,s,b⟩:Nat×Int×Int×List Int)=>[(25,.int .i64 fun _=>n),(26,.int .i64 fun _=>k)])
   (fun⟨k,n,s,b⟩=>[(0,XR s),(6,.cells [.int .i64 fun _=>r,.int .i64 fun _=>lg,.isl 1 (fun _=>(b.length:Int)) (fun e=>Q9 (G Int 0 b (e ()))) (.own 7)]),(7,.tok 1 fun _=>(b.length:Int))])
   (fun⟨k,n,s,b⟩=>b.length+k=kk/\ByL b n) (fun q=>q.1+0) (kk,nn,s9,[]) ⟨by simp,.nil bo⟩ ?_ ?_
  ·(refine To.of [(1,false)] ?_;cbv;(try simp only[nc]);(repeat' (first|exact trivial|exact Zy.refl _|exact ZG.refl _|refine⟨?_,?_⟩|refine ZG.cells ?_|refine Zy.agg ?_|refine Zy.tup ?_));(all_goals (first|exact XQ|skip)))
  intro k n s b ba;have ar:b.length+k=kk:=ba.1;have am:ByL b n:=ba.2;clear ba;refine wS ?_;refine⟨fun bm=>?_,fun bm=>?_⟩
  ·simp only[decide_eq_true_eq]at bm;have ea:=am.bd;refine wS ?_;refine cL3 [0] (c22 s 1 60 (by omega) (by omega)) fun r I H=>?_;(try simp only[Ze,Zd,Zf,Zc,Zi,Zs,Za O]at H);obtain⟨y,s10,hy,rfl,rfl⟩:=H;refine wS ?_;refine cL3 [0] (Zkr s10 [5,10,20,y] (by simp)) fun r I H=>?_;(try simp only[Ze,Zd,Zf,Zc,Zi,Zs,Za O]at H);obtain⟨y2,dk,bk,rfl,rfl⟩:=H;have bk:1<=y2/\y2<=60:=by simp at bk;omega
   refine wS ?_;obtain⟨k,rfl⟩:∃q,k=q+1:=⟨k-1,by omega⟩;refine⟨(k,n+y2,dk,b++[n]),⟨by simp only[bf,bF,cE];omega,am.snoc (by omega) bk⟩,by show k+0<k+1+0;omega,?_⟩;exact ZF
  simp only[decide_eq_false_iff_not]at bm;refine wS ?_;have ar:b.length=kk:=by omega
  refine ZiK false false [] [0,8,9,11,23,24,27,28] [] (fun(⟨k,M,u⟩:Nat×Bool×Unit)=>[(27,.bool fun _=>M),(28,.int .i64 fun _=>k)])
   (fun⟨k,M,u⟩=>[(6,.cells [.int .i64 fun _=>r,.int .i64 fun _=>lg,.isl 1 (fun _=>(b.length:Int)) (fun e=>Q9 (G Int 0 b (e ()))) .none])])
   (fun⟨k,M,u⟩=>k<=J.length/\M=(J.take k).any fun q=>decide (q.run=r/\q.leg=lg)) (fun q=>J.length-q.1+0) (0,false,()) ⟨aW _,rfl⟩ ?_ ?_
  ·(refine To.of [] ?_;cbv;(try simp only[nc]);(repeat' (first|exact trivial|exact Zy.refl _|exact ZG.refl _|refine⟨?_,?_⟩|refine ZG.cells ?_|refine Zy.agg ?_|refine Zy.tup ?_));(all_goals (first|exact XQ|skip)))
   all_goals exact .none rfl fun _ _=>rfl
  intro k M u bc;have d7:k<=J.length:=bc.1;have hM:M=(J.take k).any fun q=>decide (q.run=r/\q.leg=lg):=bc.2;clear bc;refine wS ?_;refine⟨fun bg=>?_,fun bg=>?_⟩
  ·simp only[decide_eq_true_eq]at bg;have ae:=Zn1 (p:=fun q:Sp.ZP=>decide (q.run=r/\q.leg=lg)) (d:=default) (l:=J) (k:=k) (by omega);have bz:decide ((J.getD k default).run=r/\(J.getD k default).leg=lg)=(bif (J.getD k default).run==r then(J.getD k default).leg==lg else false):=Ztd _ _ _ _;have cw:J.getD k default=G Sp.ZP default J (k:Int):=by rw[O];rfl
   rw[cw]at bz ae;rw[<-hM]at ae;cases M
   ·refine wS ?_;refine⟨(k+1,(bif (G Sp.ZP default J (k:Int)).run==r then(G Sp.ZP default J (k:Int)).leg==lg else false),()),⟨by omega,by rw[ae];exact bz.symm⟩,by show J.length-(k+1)+0<J.length-k+0;omega,?_⟩;exact ZF
   refine wS ?_;refine⟨(k+1,true,()),⟨by omega,by rw[ae];rfl⟩,by show J.length-(k+1)+0<J.length-k+0;omega,?_⟩;exact ZF
  simp only[decide_eq_false_iff_not]at bg;have hM:M=J.any fun q=>decide (q.run=r/\q.leg=lg):=by rw[hM,List.take_of_length_le (by omega)]
  refine wS ?_;obtain⟨i,rfl⟩:∃q,i=q+1:=⟨i-1,by omega⟩;refine⟨fun aq=>?_,fun aq=>?_⟩
  ·have aq:M=false:=by
    cases M
    ·rfl
    cases aq
   rw[aq]at hM;have cg:Qm A ⟨r,lg,b⟩ J=0:=ZqG (d:=⟨r,lg,b⟩) ⟨c8.1,by dsimp only;omega⟩ ⟨bw.1,by have h1:=bw.2;have h2:=Z;simp only[O]at h1 h2;unfold Sp.Zl;dsimp only;omega⟩ ⟨by dsimp only;omega,by dsimp only;omega⟩ am.rng am.asc hM.symm;have bp:=au.snoc cg;have ca:(J++[(⟨r,lg,b⟩:Sp.ZP)]).length+i<=D:=by rw[bf,fu];omega
   refine wS ?_;refine⟨(i,s,J++[⟨r,lg,b⟩]),⟨by omega,bp,ca⟩,by show i+0<i+1+0;omega,?_⟩;refine toR ?_;exact .snoc O rfl (by simp) (by unfold Zq;rw[Za O];rfl)
  refine wS ?_;refine⟨(i,s,J),⟨by omega,au,by show J.length+i<=D;omega⟩,by show i+0<i+1+0;omega,?_⟩;exact ZF
 refine wS ?_;have ct:Zr ⟨Zs z old,rs,S,J⟩=0:=ZqY V.check (V.err S J) (by show S.length<=4;omega) (by rw[V.calls];exact bu) (by show J.length<=6;omega) (by rw[V.calls];exact au);refine⟨Zf ⟨Zs z old,rs,S,J⟩,[XR s],?_,⟨Zs z old,rs,S,J⟩,s,⟨⟨ct,by rw[V.calls];exact V.row,ar.1,ar.2⟩,dn,bx,by show(J.length:Int)<=delays;omega⟩,rfl,rfl⟩;unfold Zf Zs;simp only[Za O];(refine To.of [] ?_;cbv;(try simp only[nc]);(repeat' (first|exact trivial|exact Zy.refl _|exact ZG.refl _|refine⟨?_,?_⟩|refine ZG.cells ?_|refine Zy.agg ?_|refine Zy.tup ?_));(all_goals (first|exact XQ|skip)));all_goals exact .none rfl fun _ _=>rfl
end Vm
namespace Vm
open Go Go.Proofs Sp
set_option maxRecDepth 100000
set_option maxHeartbeats 1600000
set_option maxHeartbeats 8000000
theorem ZrH {t:Zb} (h:Zr t=0):QC t:=by
 have hw:=Yo h;obtain⟨J,V,U,h4,Y,Z⟩:=Zfc h;have A:=ZcH J;have hr:=hw.calls.len;have S:(callsOf t).length=t.runs.length:=by unfold callsOf;rw[bA]
 exact⟨⟨by have:=A.zlen;omega,by have:=A.olen;omega,by have:=A.nlen;omega,fun z H=>by have:=(Zcn (A.zones z H)).2.2.1;omega,⟨fun t G=>by have:=(A.old t G).len;omega,fun t G=>by have:=(A.new t G).len;omega⟩⟩,by omega,by omega,by omega,fun d I=>by have:=(hw.d d I).2.1;omega⟩
attribute [local irreducible] Dn
def Zex (A:(α:Type)->α->List α->Int->α) (x:Zb):List AV:=[.isl 2 (fun _=>(x.book.zones.length:Int)) (fun e=>encZone (A Zone default x.book.zones (e ()))) .none,.isl 3 (fun _=>(x.book.old.length:Int)) (fun e=>encTrain (A Train default x.book.old (e ()))) .none,.isl 3 (fun _=>(x.book.new.length:Int)) (fun e=>encTrain (A Train default x.book.new (e ()))) .none,.int .i64 fun _=>x.book.night,.int .i64 fun _=>x.book.last,
 .isl 2 (fun _=>(x.runs.length:Int)) (fun e=>Zi (A Sp.Z4 default x.runs (e ()))) .none,.isl 4 (fun _=>(x.waits.length:Int)) (fun e=>Qk (A Sp.QV default x.waits (e ()))) .none,.isl 3 (fun _=>(x.delays.length:Int)) (fun e=>Zq (A Sp.ZP default x.delays (e ()))) .none]
theorem Znv {G:Prop} {α:Type} {k:List Item} {K:Ex->List AV->List Zh->Cd->Prop} (st:α->List AV) (A:(∀i,HP false 1 (fun _=>aB) k K (st i) [.main])->G) (H:∀i,HP false 1 (fun _=>aB) k K (st i) [.main]):G:=A H
theorem ZpV {A:(α:Type)->α->List α->Int->α} (O:∀(α:Type) (d:α) (l:List α) (i:Int),A α d l i=l.getD i.toNat d) (m:Zb) (H:Sp.QV) {N:Unit->Int} (J:N ()=(m.waits.length:Int)+1) {g:(Unit->Int)->List AV} (I:g (fun _=>0)=Qk H):
  XG ((Zex A m).set 6 (.isl 4 N (ZV (fun _=>(m.waits.length:Int)) (fun e=>Qk (A Sp.QV default m.waits (e ()))) g) .none)) (Zex A ⟨m.book,m.runs,m.waits++[H],m.delays⟩):=⟨rfl,fun j c G=>by
 match j with
 |0|1|2|3|4|5|7=>cases G;exact⟨_,rfl,fun _ _ _ h=>h⟩
 |6=>cases G;exact⟨_,rfl,Zmi O rfl J I⟩
 |j+8=>cases G⟩
theorem Znf {A:(α:Type)->α->List α->Int->α} (O:∀(α:Type) (d:α) (l:List α) (i:Int),A α d l i=l.getD i.toNat d) (m:Zb) (H:Sp.ZP) {N:Unit->Int} (J:N ()=(m.delays.length:Int)+1) {g:(Unit->Int)->List AV} (I:g (fun _=>0)=Zq H):
  XG ((Zex A m).set 7 (.isl 3 N (ZV (fun _=>(m.delays.length:Int)) (fun e=>Zq (A Sp.ZP default m.delays (e ()))) g) .none)) (Zex A ⟨m.book,m.runs,m.waits,m.delays++[H]⟩):=⟨rfl,fun j c G=>by
 match j with
 |0|1|2|3|4|5|6=>cases G;exact⟨_,rfl,fun _ _ _ h=>h⟩
 |7=>cases G;exact⟨_,rfl,Zmi O rfl J I⟩
 |j+8=>cases G⟩
theorem ZrI (t:Zb) (r:Int):(if Qy t r=0 then Zaa t r else []).length<=100000/\(if Qy t r=0 then Zcc t r else []).length<=100000:=by
 by_cases h:Qy t r=0
 ·rw[if_pos h,if_pos h];unfold Qy at h;split at h
  ·exact absurd h (by assumption)
  rename_i A;have A:Zr t=0:=Decidable.not_not.1 A;split at h
  ·cases h
  rename_i G;have I:=QE (by simpa using G)
  have H:=(Yo A).calls.row (Sp.Zl (callsOf t) r) (by
   unfold Sp.Zl;rw[aA,aD (by rw[show(callsOf t).length=t.runs.length by unfold callsOf;rw[bA]];omega)]
   exact bM _)
  unfold Zaa Zcc;rw[bA,cO,bA,cO];omega
 rw[if_neg h,if_neg h];exact⟨aW _,aW _⟩
theorem Zx2 (t:Zb) (run:Int) (wt:Sp.QV) (dl:Sp.ZP) (l:List Int) (h0:Zq8 t) (h1:I64 run) (h2:True) (h3:(dl.by_.length:Int)<=9223372036854775807) (h4:(l.length:Int)<=9223372036854775807):
  SC (fun _=>aB) 3 [Zf t,.int .i64 fun _=>run,.agg (Qk wt),.agg (Zq dl),lst 1 Q9 0 l] [.main] fun r _=>r= .bool fun _=>true:=by
 obtain⟨J,O⟩:=Zo;have ae:=Zx0 t h0;refine Zs0 false false [] [8] false 1 Tryz.func3 (body:=Zj Tryz.f3) rfl (by decide+kernel) rfl ?_;unfold Zf at*;simp only[Za O]at*;refine wS ?_;refine ZL (ae) (by first|rfl|(simp only[Ze,Zd,Zf,Zc,Za O];rfl)) fun r H A=>?_;(try simp only[Ze,Zd,Zf,Zc,Za O]at A);obtain⟨b,rfl,hb,rfl⟩:=A;cases b with
 |true=>
  refine wS ?_;refine Br.isT rfl ?_;refine wS ?_;refine cL1 [0] (Zve) fun r H A=>?_;(try simp only[Ze,Zd,Zf,Zc,Za O]at A);obtain⟨rfl,rfl⟩:=A;(cbv;(try simp only[nc]at*);(try refine Chk.mk (ZE) ?_));(try first|exact⟨rfl,trivial⟩|exact⟨trivial,trivial⟩)
 |false=>
  have ab:=hb rfl;refine wS ?_;refine⟨fun hb=>?_,fun hb=>?_⟩
  ·refine wS ?_;refine cL1 [0] (Zve) fun r H A=>?_;(try simp only[Ze,Zd,Zf,Zc,Za O]at A);obtain⟨rfl,rfl⟩:=A;(cbv;(try simp only[nc]at*);(try refine Chk.mk (ZE) ?_));(try first|exact⟨rfl,trivial⟩|exact⟨trivial,trivial⟩)
  have hb:=of_decide_eq_false hb;refine wS ?_;refine ZL (c14 l h4) (by first|rfl|(simp only[Ze,Zd,Zf,Zc,Za O];rfl)) fun r H A=>?_;(try simp only[Ze,Zd,Zf,Zc,Za O]at A);obtain⟨s,rfl,rfl⟩:=A;refine wS ?_;refine cL1 [4] (ZxZ s 4 3 2 (by omega) (by omega) (by omega)) fun r H A=>?_;(try simp only[Ze,Zd,Zf,Zc,Za O]at A);obtain⟨m,s',hm,rfl,rfl⟩:=A;have he:=hm.1.begin;have ao:=hm.2.1;have ai:=hm.2.2.1;have am:=hm.2.2.2;have G:=ZrH he;have U:=Zum m G;unfold Zf Zmc at U;simp only[Za O,YE O]at U;obtain⟨V,Z⟩:∃V:List Zb,V=[t,m,⟨m.book,m.runs,m.waits++[wt],m.delays⟩,⟨m.book,m.runs,m.waits,m.delays++[dl]⟩,m]:=⟨_,rfl⟩;apply Znv (fun r:Int×Int×Int=>mkS 150 [(15,.isl 8 (fun _=>(V.length:Int)) (fun e=>Zex J (J Zb default V (e ()))) .none),(16,.isl 1 (fun _=>5) (fun e=>Q9 (J Int 0 [run,r.1,r.2.1,r.2.2,run] (e ()))) .none)])
  ·intro MM;refine wS ?_;repeat' (first|refine Zjh.mk ?_ ?_|refine Chk.mk (ZE) ?_|(refine ZL U (by first|rfl|(simp only[Ze,Zd,Zf,Zc,Za O];rfl)) fun r H A=>?_;obtain⟨rfl,rfl⟩:=A;refine vS ?_))
   all_goals
    refine cL1 [4] (c17 s' ((m.runs.length:Int)-1) (by omega)) fun r H A=>?_;(try simp only[Ze,Zd,Zf,Zc,Za O]at A);obtain⟨r1,s1,al,rfl,rfl⟩:=A;refine wS ?_;refine cL1 [4] (c17 s1 ((m.runs.length:Int)-1) (by omega)) fun r H A=>?_;(try simp only[Ze,Zd,Zf,Zc,Za O]at A);obtain⟨r2,s2,ak,rfl,rfl⟩:=A;refine wS ?_;refine cL1 [4] (c17 s2 ((m.runs.length:Int)-1) (by omega)) fun r H A=>?_;(try simp only[Ze,Zd,Zf,Zc,Za O]at A);obtain⟨r3,s3,ap,rfl,rfl⟩:=A;refine wS ?_;refine Zbv [15,16] 1 rfl rfl ?_ (MM (r1,r2,r3));refine ZoM ?_ ?_
    ·subst Z;refine ZiM O (Zex J) default _ _ rfl fun i hi=>?_;match i,hi with
     |0,_=>exact .refl _
     |1,_=>exact .refl _
     |2,_=>exact ZpV O m wt rfl rfl
     |3,_=>exact Znf O m dl rfl rfl
     |4,_=>exact .refl _
     |i+5,hi=>exact absurd hi (by show¬i+5<5;omega)
    exact lit_nt O Q9 0 [run,r1,r2,r3,run] _ rfl
  intro r;have ah:V.length=5:=by rw[Z];rfl
  have ac:∀x∈V,QC x:=by
   have h1:QC ⟨m.book,m.runs,m.waits++[wt],m.delays⟩:=⟨G.book,G.runs,by show(m.waits++[wt]).length<=1000000;rw[bf];show m.waits.length+1<=1000000;omega,G.delays,G.bys⟩;have h2:QC ⟨m.book,m.runs,m.waits,m.delays++[dl]⟩:=⟨G.book,G.runs,G.waits,by show(m.delays++[dl]).length<=1000000;rw[bf];show m.delays.length+1<=1000000;omega,fun d hd=>(List.mem_append.1 hd).elim (G.bys d) fun hd=>by rw[aN.1 hd];omega⟩;intro x S;rw[Z]at S;simp only[bG,dS,or_false]at S;rcases S with rfl|rfl|rfl|rfl|rfl
   ·exact ab.fit
   ·exact G
   ·exact h1
   ·exact h2
   exact G
  generalize aj: [run,r.1,r.2.1,r.2.2,run]=Y;clear Z G he hm ab hb U;refine ZdL false false [] [] false ?_;refine wS ?_;refine ZJ false false [] [15,16,17] [] (fun(i:Nat)=>[(17,.int .i64 fun _=>(i:Int))]) (fun _=>[]) (fun i=>i<=5) (fun i=>5-i+0) 0 (aW _) ?_ ?_
  ·exact ZF
  intro i hi;have hi:i<=5:=hi;refine wS ?_;refine⟨fun aa=>?_,fun aa=>?_⟩
  ·have aa:=of_decide_eq_true aa;have S:=ac _ (Qu (d:=default) O (l:=V) (i:=i) (by omega));refine vS ?_;generalize I:J Zb default V (i:Int)=x at*;have kc:=Zum x S;have k1:=ZwP x (J Int 0 Y (i:Int)) S fun h=>Yo h;have k2:=ZxY x (J Int 0 Y (i:Int)) S;have k3:=ZxX x S;have k4:=Zvd x S;have k5:=ZxW x S;have hl:=ZrI x (J Int 0 Y (i:Int));generalize (if Qy x (J Int 0 Y (i:Int))=0 then Zaa x (J Int 0 Y (i:Int))else [])=A1 at*;generalize (if Qy x (J Int 0 Y (i:Int))=0 then Zcc x (J Int 0 Y (i:Int))else [])=A2 at*;have s1:=Zvc A1 hl.1;have s2:=Zvc A2 hl.2;generalize Qy x (J Int 0 Y (i:Int))=te at*;generalize Zr x=be at*;clear ac;unfold Zf Zmc at kc;unfold Zf at k1 k2 k3 k4 k5;simp only[Za O,YE O]at kc k1 k2 k3 k4 k5 s1 s2;refine Chk.mk (ZE) ?_;refine ZqW (kc) ?_;refine vS ?_;try simp only[I]
   try refine Chk.mk (ZE) ?_
   refine JC k1 (by
    (refine To.of [] ?_;cbv;(try simp only[nc]);(repeat' (first|exact trivial|exact Zy.refl _|exact ZG.refl _|refine⟨?_,?_⟩|refine ZG.cells ?_|refine Zy.agg ?_|refine Zy.tup ?_));(all_goals (first|exact XQ|skip)))
    ·exact .none rfl fun _ _=>rfl
    ·exact .none rfl fun _ _=>rfl
    exact .none rfl fun _ _=>rfl) (by first|rfl|(simp only[Ze,Zd,Zf,Zc,Za O];rfl)) fun v H A=>?_
   obtain⟨rfl,rfl⟩:=A;refine vS ?_;try simp only[I]
   try refine Chk.mk (ZE) ?_
   refine ZqW (k2) ?_;refine vS ?_;try simp only[I]
   try refine Chk.mk (ZE) ?_
   refine JC k3 (by
    (refine To.of [] ?_;cbv;(try simp only[nc]);(repeat' (first|exact trivial|exact Zy.refl _|exact ZG.refl _|refine⟨?_,?_⟩|refine ZG.cells ?_|refine Zy.agg ?_|refine Zy.tup ?_));(all_goals (first|exact XQ|skip)))
    ·exact .none rfl fun _ _=>rfl
    ·exact .none rfl fun _ _=>rfl
    exact .none rfl fun _ _=>rfl) (by first|rfl|(simp only[Ze,Zd,Zf,Zc,Za O];rfl)) fun v H A=>?_
   obtain⟨rfl,rfl⟩:=A;refine vS ?_;try simp only[I]
   try refine Chk.mk (ZE) ?_
   refine ZqW (k4) ?_;refine vS ?_;try simp only[I]
   try refine Chk.mk (ZE) ?_
   refine Br.isT (by simp) ?_;refine vS ?_;try simp only[I]
   try refine Chk.mk (ZE) ?_
   refine ZqW (s1) ?_;refine vS ?_;try simp only[I]
   try refine Chk.mk (ZE) ?_
   refine Br.isT (by simp) ?_;refine vS ?_;try simp only[I]
   try refine Chk.mk (ZE) ?_
   refine ZqW (s2) ?_;refine vS ?_;try simp only[I]
   try refine Chk.mk (ZE) ?_
   refine Br.isT (by simp) ?_;refine vS ?_;try simp only[I]
   try refine Chk.mk (ZE) ?_
   refine JC k5 (by
    (refine To.of [] ?_;cbv;(try simp only[nc]);(repeat' (first|exact trivial|exact Zy.refl _|exact ZG.refl _|refine⟨?_,?_⟩|refine ZG.cells ?_|refine Zy.agg ?_|refine Zy.tup ?_));(all_goals (first|exact XQ|skip)))
    ·exact .none rfl fun _ _=>rfl
    ·exact .none rfl fun _ _=>rfl
    exact .none rfl fun _ _=>rfl) (by first|rfl|(simp only[Ze,Zd,Zf,Zc,Za O];rfl)) fun v H A=>?_
   obtain⟨rfl,rfl⟩:=A;refine vS ?_;try simp only[I]
   try refine Chk.mk (ZE) ?_
   refine Br.isF (by simp) ?_;refine vS ?_;try simp only[I]
   try refine Chk.mk (ZE) ?_
   refine⟨i+1,by show i+1<=5;omega,by show 5-(i+1)+0<5-i+0;omega,?_⟩;exact ZF
  refine wS ?_;refine cL1 [0] (Zve) fun r H A=>?_;(try simp only[Ze,Zd,Zf,Zc,Za O]at A);obtain⟨rfl,rfl⟩:=A;(cbv;(try simp only[nc]at*);(try refine Chk.mk (ZE) ?_));(try first|exact⟨rfl,trivial⟩|exact⟨trivial,trivial⟩)
end Vm
end Go.Proofs.YtjgpiclllehgmaaGreat
