/- How kept takes its goroutine's answers: what its frame comes to (E), step by step. -/
import Derived.Test.YtjgpiclllehgmaaGreatB5
import Derived.Test.YtjgpiclllehgmaaGreatB3
import Derived.Test.YtjgpiclllehgmaaGreatB4
import Derived.Test.YtjgpiclllehgmaaGreatB1
import Derived.Test.YtjgpiclllehgmaaGreatB2
set_option linter.all false
namespace Go.Proofs.YtjgpiclllehgmaaGreat.Vm
open Go Go.Conc Go.Proofs Go.Proofs.YtjgpiclllehgmaaGreat.Conc1
structure Za8 (T I I':TypeId) (fid:FuncId) (o2 o3 o4 o5 o6 o7 o8 o9 o10:Array Oper):Prop where
 s2:List.range o2.size=[0,1,2]
 s3:List.range o3.size=[0,1]
 s4:List.range o4.size=[0,1]
 s5:List.range o5.size=[0]
 s6:List.range o6.size=[0,1]
 s7:List.range o7.size=[0,1]
 s8:List.range o8.size=[0]
 s9:List.range o9.size=[0,1,2]
 s10:List.range o10.size=[0,1,2]
 a20:Jk o2 0 (some 37) (.makeChan T (.const (.int .i64 0)))
 a21:Jk o2 1 (some 11) (.alloc T)
 a22:Jk o2 2 none (.store T (.tmp 11) (.tmp 37))
 a30:Jk o3 0 (some 38) (.makeFunc (.func fid) #[] #[.tmp 11,.tmp 4,.tmp 9,.tmp 10])
 a31:Jk o3 1 none (.go {callee:=.value (.tmp 38),args:= #[],argTypes:= #[]})
 a40:Jk o4 0 (some 12) (.assign (.const (.int .i64 0)))
 a41:Jk o4 1 (some 13) (.assign (.const (.int .i64 0)))
 a50:Jk o5 0 (some 39) (.load T (.tmp 11))
 a60:Jk o6 0 (some 40) (.recv T (.tmp 39) true)
 a61:Jk o6 1 (some 41) (.extract (.tmp 40) 1)
 a70:Jk o7 0 (some 42) (.extract (.tmp 40) 0)
 a71:Jk o7 1 (some 14) (.assign (.tmp 42))
 a80:Jk o8 0 (some 43) (.move (.tmp 14))
 a90:Jk o9 0 (some 44) (.move (.tmp 12))
 a91:Jk o9 1 (some 45) (.binOp .add I (.tmp 44) (.const (.int .i64 1)) I')
 a92:Jk o9 2 (some 12) (.assign (.tmp 45))
 a100:Jk o10 0 (some 46) (.move (.tmp 13))
 a101:Jk o10 1 (some 47) (.binOp .add I (.tmp 46) (.const (.int .i64 1)) I')
 a102:Jk o10 2 (some 13) (.assign (.tmp 47))
def Zia:Value→Value
 |.int .i64 n=>.int .i64 (IntKind.i64.wrap (n+1))
 |v=>v
def st0 (ch:Nat) (t:Array Value):Array Value:=Z1 (Z1 (Z1 t (some 12) (.int .i64 0)) (some 13) (.int .i64 0)) (some 39) (.chan (some ch))
def Zet (t:Array Value) (v:Bool):Array Value:=Z1 (Z1 (Z1 (Z1 (Z1 t (some 40) (.tuple #[.bool v,.bool true])) (some 41) (.bool true)) (some 42) (.bool v)) (some 14) (.bool v)) (some 43) (.bool v)
def stp (t:Array Value) (v:Bool):Array Value:=match v with
 |true=>Z1 (Z1 (Z1 (Zet t v) (some 44) (t.getD 12 undef)) (some 45) (Zia (t.getD 12 undef))) (some 12) (Zia (t.getD 12 undef))
 |false=>Z1 (Z1 (Z1 (Zet t v) (some 46) (t.getD 13 undef)) (some 47) (Zia (t.getD 13 undef))) (some 13) (Zia (t.getD 13 undef))
def cnt (w:Bool):List Bool→Int→Int
 |[],n=>n
 |v::l,n=>cnt w l (if v=w then IntKind.i64.wrap (n+1)else n)
theorem Z5 {t:Array Value} {d:Option Tmp} {v:Value}:(Z1 t d v).size=t.size:=by cases d<;>simp[Z1]
theorem Ym {t:Array Value} {d:Nat} {v:Value} (h:d<t.size):(Z1 t (some d) v).getD d undef=v:=by
 simp[Z1,Array.getD_eq_getD_getElem?,h]
theorem QM {t:Array Value} {d i:Nat} {v:Value} (h:d≠i):(Z1 t (some d) v).getD i undef=t.getD i undef:=by
 simp[Z1,Array.getD_eq_getD_getElem?,Array.getElem?_setIfInBounds_ne h]
theorem Xi {t:Array Value} {d:Nat} {v:Value} (h:d<t.size):QA (Z1 t (some d) v) (.tmp d)=v:=Ym h
theorem Yu {t:Array Value} {d i:Nat} {v:Value} (h:d≠i):QA (Z1 t (some d) v) (.tmp i)=QA t (.tmp i):=QM h
structure Zgs (t0 t:Array Value) (ch cell:Nat) (y n:Int):Prop where
 size:t.size=t0.size
 c11:t.getD 11 undef= .pointer (some ⟨cell,0,none⟩)
 c39:t.getD 39 undef= .chan (some ch)
 c12:t.getD 12 undef= .int .i64 y
 c13:t.getD 13 undef= .int .i64 n
theorem Zgs.step {t0 t:Array Value} {ch cell:Nat} {y n:Int} (h:Zgs t0 t ch cell y n) (hs:47<t0.size) (v:Bool):Zgs t0 (stp t v) ch cell (if v=true then IntKind.i64.wrap (y+1)else y) (if v=false then IntKind.i64.wrap (n+1)else n):=by
 have hsz:=h.size
 cases v
 ·refine⟨?_,?_,?_,?_,?_⟩
  ·simp only[stp,Zet,Z5];exact hsz
  ·simp only[stp,Zet]
   repeat rw[QM (by decide)]
   exact h.c11
  ·simp only[stp,Zet]
   repeat rw[QM (by decide)]
   exact h.c39
  ·simp only[stp,Zet]
   repeat rw[QM (by decide)]
   exact h.c12
  ·simp only[stp]
   rw[Ym (by simp only[Zet,Z5];omega),h.c13]
   rfl
 ·refine⟨?_,?_,?_,?_,?_⟩
  ·simp only[stp,Zet,Z5];exact hsz
  ·simp only[stp,Zet]
   repeat rw[QM (by decide)]
   exact h.c11
  ·simp only[stp,Zet]
   repeat rw[QM (by decide)]
   exact h.c39
  ·simp only[stp]
   rw[Ym (by simp only[Zet,Z5];omega),h.c12]
   rfl
  ·simp only[stp,Zet]
   repeat rw[QM (by decide)]
   exact h.c13
theorem Zgs.fold {t0:Array Value} {ch cell:Nat} (hs:47<t0.size):∀(L:List Bool) {t:Array Value} {y n:Int},Zgs t0 t ch cell y n→Zgs t0 (L.foldl stp t) ch cell (cnt true L y) (cnt false L n)
 |[],_,_,_,h=>h
 |v::L,_,_,_,h=>by
  have:=Zgs.fold hs L (h.step hs v)
  exact this
section
variable {P:Program} {ch cell:Nat} {b:FB} {ds:List Deferred} {k:List Item} {cs:List Frame}
variable {T I I':TypeId} {fid:FuncId} {o2 o3 o4 o5 o6 o7 o8 o9 o10:Array Oper}
theorem Zfa {T:TypeId} {d:TypeDesc} {w:World} {es:Array Event} (h:P.underlying T=some d):(underlying T).runT P w es=(.ok d w,es):=by
 unfold underlying
 show(Sem.bind program _).runT P w es=_
 rw[Sem.runT_bind',show program.runT P w es=(.ok P w,es)from rfl]
 simp only[h]
 rfl
theorem Zdk {T:TypeId} {i:TypeInfo} {w:World} {es:Array Event} (h:P.info? T=some i):(typeInfo T).runT P w es=(.ok i w,es):=by
 unfold typeInfo
 show(Sem.bind program _).runT P w es=_
 rw[Sem.runT_bind',show program.runT P w es=(.ok P w,es)from rfl]
 simp only[h]
 rfl
theorem Ze9 {T:TypeId} {i:TypeInfo} {v:Value} {w:World} {es:Array Event} (h:P.info? T=some i) (hv:i.zero=some v):(zeroValue T).runT P w es=(.ok v w,es):=by
 unfold zeroValue
 show(Sem.bind (typeInfo T) _).runT P w es=_
 rw[Sem.runT_bind',Zdk h]
 simp only[hv]
 rfl
theorem ZdK {t:Array Value} {x:Operand} {v:Value} (h:QA t x=v):∀o:Oper,o.op= .move x→execOp (QA t) o=pure (.value v):=fun o ho=>by
 unfold execOp
 simp only[ho,h]
theorem Y9 {t:Array Value} {x:Operand} {v:Value} (h:QA t x=v):∀o:Oper,o.op= .assign x→execOp (QA t) o=pure (.value v):=fun o ho=>by
 unfold execOp
 simp only[ho,h]
theorem Js {t:Array Value} {x:Operand} {vs:Array Value} {i:Nat} {v:Value} (h:QA t x= .tuple vs) (hv:vs[i]? =some v):∀o:Oper,o.op= .extract x i→execOp (QA t) o=pure (.value v):=fun o ho=>by
 unfold execOp
 simp only[ho,h,Instr.extract,hv]
 rfl
theorem Zi9 {t:Array Value} {x:Operand} {n:Int} (h:QA t x= .int .i64 n):∀o:Oper,o.op= .binOp .add I x (.const (.int .i64 1)) I'→execOp (QA t) o=pure (.value (Zia (.int .i64 n))):=fun o ho=>by
 unfold execOp
 simp only[ho,h]
 rfl
def lpB (i6 i7 i8 i9 i10 b0 b1:Nat) (o6 o7 o8 o9 o10:Array Oper):Code:=
 .seq (.region i6 o6 false) (.seq (.cond (.tmp 41) .skip (.exit b0)) (.block b1 (.seq (.region i7 o7 false) (.seq (.region i8 o8 false) (.cond (.tmp 43) (.region i9 o9 false) (.region i10 o10 false))))))
def atR (i6 i7 i8 i9 i10 b0 b1:Nat) (o6 o7 o8 o9 o10:Array Oper) (k:List Item) (r:List Nat):List Item:=
 .inRegion o6 r:: .code (.seq (.cond (.tmp 41) .skip (.exit b0)) (.block b1 (.seq (.region i7 o7 false) (.seq (.region i8 o8 false) (.cond (.tmp 43) (.region i9 o9 false) (.region i10 o10 false)))))):: .inLoop (lpB i6 i7 i8 i9 i10 b0 b1 o6 o7 o8 o9 o10):: .inBlock b0::k
theorem Zkp {i4 i5 i6 i7 i8 i9 i10 b0 b1:Nat} {x11:Code} (H:Za8 T I I' fid o2 o3 o4 o5 o6 o7 o8 o9 o10) {dr:ChanDir} {B:TypeId} (hU:P.underlying T=some (.chan dr B)) {t:Array Value} (h11:QA t (.tmp 11)= .pointer (some ⟨cell,0,none⟩)):
  ZdX P ch cell 15 (mkF b t ds (.inRegion o3 []:: .code (.seq (.region i4 o4 false) (.seq (.seq (.region i5 o5 false) (.block b0 (.loop (lpB i6 i7 i8 i9 i10 b0 b1 o6 o7 o8 o9 o10)))) x11))::k),cs) (mkF b (st0 ch t) ds (atR i6 i7 i8 i9 i10 b0 b1 o6 o7 o8 o9 o10 (.code x11::k) [0,1]),cs):=by
 refine .succ Xs (.succ Jr (.succ (Xw H.s4) (.succ (Jf H.a40 (fun _ h=>by cases h) (Y9 rfl)) (.succ (Jf H.a41 (fun _ h=>by cases h) (Y9 rfl)) (.succ Xs ?_)))))
 refine .succ Jr (.succ Jr (.succ (Xw H.s5) (.succ (ZoN H.a50 hU ?_) (.succ Xs ?_))))
 ·rw[Yu (by decide),Yu (by decide)]
  exact h11
 exact .succ ZgN (.succ ZoM (.succ Jr (.succ (Xw H.s6) (.zero _))))
theorem Zmf {i6 i7 i8 i9 i10 b0 b1:Nat} (H:Za8 T I I' fid o2 o3 o4 o5 o6 o7 o8 o9 o10) {t0 t:Array Value} {y n:Int} (hs:47<t0.size) (h:Zgs t0 t ch cell y n) (v:Bool):
  ZdX P ch cell 25 (mkF b (Z1 t (some 40) (.tuple #[.bool v,.bool true])) ds (atR i6 i7 i8 i9 i10 b0 b1 o6 o7 o8 o9 o10 k [1]),cs) (mkF b (stp t v) ds (atR i6 i7 i8 i9 i10 b0 b1 o6 o7 o8 o9 o10 k [0,1]),cs):=by
 have hsz:=h.size
 have e40:QA (Z1 t (some 40) (.tuple #[.bool v,.bool true])) (.tmp 40)= .tuple #[.bool v,.bool true]:=Xi (by omega)
 refine .succ (Jf H.a61 (fun _ h=>by cases h) (Js (v:=.bool true) e40 rfl)) (.succ Xs (.succ Jr (.succ (ZiU (v:=true) (Xi (by simp only[Z5];omega))) ?_)))
 refine .succ ZoL (.succ ZgN (.succ Jr (.succ (Xw H.s7) ?_)))
 refine .succ (Jf H.a70 (fun _ h=>by cases h) (Js (v:=.bool v) ((Yu (by decide)).trans e40) rfl)) ?_
 refine .succ (Jf H.a71 (fun _ h=>by cases h) (Y9 (Xi (by simp only[Z5];omega)))) (.succ Xs (.succ Jr (.succ (Xw H.s8) ?_)))
 refine .succ (Jf H.a80 (fun _ h=>by cases h) (ZdK (Xi (by simp only[Z5];omega)))) (.succ Xs (.succ (ZiU (v:=v) (Xi (by simp only[Z5];omega))) ?_))
 cases v
 ·refine .succ (Xw H.s10) (.succ (Jf H.a100 (fun _ h=>by cases h) (ZdK (v:=t.getD 13 undef) ?_)) ?_)
  ·rw[Yu (by decide),Yu (by decide),Yu (by decide),Yu (by decide),Yu (by decide)]
   rfl
  have e:Zia (.int .i64 n)=Zia (t.getD 13 undef):=by rw[h.c13]
  refine .succ (Jf H.a101 (fun _ h=>by cases h) (Zi9 (n:=n) ((Xi (by simp only[Z5];omega)).trans h.c13))) ?_
  rw[e]
  exact .succ (Jf H.a102 (fun _ h=>by cases h) (Y9 (Xi (by simp only[Z5];omega)))) (.succ Xs (.succ Zeh (.succ Zfz (.succ Jr (.succ (Xw H.s6) (.zero _))))))
 ·refine .succ (Xw H.s9) (.succ (Jf H.a90 (fun _ h=>by cases h) (ZdK (v:=t.getD 12 undef) ?_)) ?_)
  ·rw[Yu (by decide),Yu (by decide),Yu (by decide),Yu (by decide),Yu (by decide)]
   rfl
  have e:Zia (.int .i64 y)=Zia (t.getD 12 undef):=by rw[h.c12]
  refine .succ (Jf H.a91 (fun _ h=>by cases h) (Zi9 (n:=y) ((Xi (by simp only[Z5];omega)).trans h.c12))) ?_
  rw[e]
  exact .succ (Jf H.a92 (fun _ h=>by cases h) (Y9 (Xi (by simp only[Z5];omega)))) (.succ Xs (.succ Zeh (.succ Zfz (.succ Jr (.succ (Xw H.s6) (.zero _))))))
def ZoW (i6 i7 i8 i9 i10 b0 b1:Nat) (o6 o7 o8 o9 o10:Array Oper) (b:FB) (ds:List Deferred) (k:List Item) (cs:List Frame) (t:Array Value):RP:=fun L=>(mkF b (L.foldl stp t) ds (atR i6 i7 i8 i9 i10 b0 b1 o6 o7 o8 o9 o10 k [0,1]),cs)
theorem ZhS {t:Array Value} (hs:47<t.size) (h11:t.getD 11 undef= .pointer (some ⟨cell,0,none⟩)) (L:List Bool):Zgs t (L.foldl stp (st0 ch t)) ch cell (cnt true L 0) (cnt false L 0):=by
 have h0:Zgs t (st0 ch t) ch cell 0 0:=by
  refine⟨?_,?_,?_,?_,?_⟩
  ·simp only[st0,Z5]
  ·simp only[st0]
   rw[QM (by decide),QM (by decide),QM (by decide)]
   exact h11
  ·exact Ym (by simp only[Z5];omega)
  ·simp only[st0]
   rw[QM (by decide),QM (by decide)]
   exact Ym (by omega)
  ·simp only[st0]
   rw[QM (by decide)]
   exact Ym (by simp only[Z5];omega)
 exact h0.fold hs L
theorem Zmh {i4 i5 i6 i7 i8 i9 i10 b0 b1:Nat} {x11:Code} (H:Za8 T I I' fid o2 o3 o4 o5 o6 o7 o8 o9 o10) {dr:ChanDir} {B:TypeId} (hU:P.underlying T=some (.chan dr B)) (hB:∃i,P.info? B=some i∧i.zero=some (.bool false)) {t:Array Value} (hs:47<t.size)
  (h11:t.getD 11 undef= .pointer (some ⟨cell,0,none⟩)) (h37:t.getD 37 undef= .chan (some ch)) {fr:Frame} {cfr:Frame} (hfr:fr=mkF b t ds (.inRegion o3 [1]:: .code (.seq (.region i4 o4 false) (.seq (.seq (.region i5 o5 false) (.block b0 (.loop (lpB i6 i7 i8 i9 i10 b0 b1 o6 o7 o8 o9 o10)))) x11))::k))
  (hgo:ZmJ P fr cs (mkF b t ds (.inRegion o3 []:: .code (.seq (.region i4 o4 false) (.seq (.seq (.region i5 o5 false) (.block b0 (.loop (lpB i6 i7 i8 i9 i10 b0 b1 o6 o7 o8 o9 o10)))) x11))::k)) cfr):
  kf P fr cs=some (ch,cell,ZoW i6 i7 i8 i9 i10 b0 b1 o6 o7 o8 o9 o10 b ds (.code x11::k) cs (st0 ch t))∧ZpK P ch cell (ZoW i6 i7 i8 i9 i10 b0 b1 o6 o7 o8 o9 o10 b ds (.code x11::k) cs (st0 ch t)) (mkF b t ds (.inRegion o3 []:: .code (.seq (.region i4 o4 false) (.seq (.seq (.region i5 o5 false) (.block b0 (.loop (lpB i6 i7 i8 i9 i10 b0 b1 o6 o7 o8 o9 o10)))) x11))::k),cs):=by
 have gd:∀i v,i<t.size→t.getD i undef=v→t[i]? =some v:=fun i v h e=>by
  rw[Array.getD_eq_getD_getElem?,Array.getElem?_eq_getElem h]at e
  rw[Array.getElem?_eq_getElem h]
  exact congrArg some e
 have hL:=ZhS (ch:=ch) hs h11
 subst hfr
 refine Zug (gd 37 _ (by omega) h37) (gd 11 _ (by omega) h11) hgo ⟨15,by decide,Zkp H hU h11⟩ (fun L w hw=>⟨#[],?_,fun e he=>by simp at he⟩) fun L v=>⟨25,by decide,?_⟩
 ·obtain⟨o,ho,hop,hd,hg⟩:=H.a60.ok
  obtain⟨i,hi,hz⟩:=hB
  show stepG P true (G (mkF b (L.foldl stp (st0 ch t)) ds (.inRegion o6 [0,1]::_)) cs) w=_
  rw[Zcv ho (by simp[Region.wanted,hg]) (fun c=>by rw[hop];intro h;cases h)]
  have hr:(execOp (QA (L.foldl stp (st0 ch t))) o).runT P w #[]=(.ok (.comm #[rcase ch (.bool false)] true (.recv true)) w, #[]):=by
   unfold execOp
   simp only[hop,show QA (L.foldl stp (st0 ch t)) (.tmp 39)= .chan (some ch)from(hL L).c39]
   show(Sem.bind (underlying T) _).runT P w #[]=_
   rw[Sem.runT_bind',Zfa hU]
   show(Sem.bind (zeroValue B) _).runT P w #[]=_
   rw[Sem.runT_bind',Ze9 hi hz]
   rfl
  unfold stepG.apply
  simp only[if_true,hr]
  have hk:=b.not_early
  simp[GStep.after,G,mkF,seen_none,hk]
  exact⟨rfl,rfl⟩
 ·have:=Zmf (P:=P) (b:=b) (ds:=ds) (k:=.code x11::k) (cs:=cs) (i6:=i6) (i7:=i7) (i8:=i8) (i9:=i9) (i10:=i10) (b0:=b0) (b1:=b1) H hs (hL L) v
  unfold ZoW
  rw[List.foldl_append]
  obtain⟨o,ho,hop,hd,hg⟩:=H.a60.ok
  have e:got (mkF b (L.foldl stp (st0 ch t)) ds (atR i6 i7 i8 i9 i10 b0 b1 o6 o7 o8 o9 o10 (.code x11::k) [0,1]),cs) v true=(mkF b (Z1 (L.foldl stp (st0 ch t)) (some 40) (.tuple #[.bool v,.bool true])) ds (atR i6 i7 i8 i9 i10 b0 b1 o6 o7 o8 o9 o10 (.code x11::k) [1]),cs):=by
   unfold got atR
   rw[Xd,ho]
   show(mkF b (Z1 _ o.dst _) ds _,cs)=_
   rw[hd]
  rw[e]
  exact this
end
end Go.Proofs.YtjgpiclllehgmaaGreat.Vm
namespace Go.Proofs.YtjgpiclllehgmaaGreat.Vm
open Go Go.Conc Go.Proofs Go.Proofs.YtjgpiclllehgmaaGreat.Conc1
section
variable {P:Program} {b:FB} {ds:List Deferred} {k:List Item} {cs:List Frame} {t:Array Value}
theorem ZeX {cx:Option Nat} {ops:Array Oper} {i:Nat} {rest:List Nat} {d:Option Tmp} {op:Op} {v:Value} {nv:Next} {w w':World} (H:Jk ops i d op) (hd:∀c,op≠ .defer c) (hm:∀o:Oper,o.op=op→Zw P (fun _=>False) (execOp (QA t) o))
  (hr:∀o:Oper,o.op=op→(execOp (QA t) o).run P w= .ok nv w') (hnv:nv= .value v∨(nv= .skip∧v=undef)):
  One P cx (ZE (mkF b t ds (.inRegion ops (i::rest)::k)) cs w) (ZE (mkF b (Z1 t d v) ds (.inRegion ops rest::k)) cs w'):=by
 obtain⟨o,ho,hop,hdst,hg⟩:=H.ok
 rw[←hdst]
 exact Zae ho (by simp[Region.wanted,hg]) (fun c=>by rw[hop];exact hd c) (hm o hop) (hr o hop) hnv
theorem Zir {ops:Array Oper} {rest:List Nat} {i d:Nat} {T:TypeId} {dr:ChanDir} {B:TypeId} {w:World} (H:Jk ops i (some d) (.makeChan T (.const (.int .i64 0)))) (hU:P.underlying T=some (.chan dr B)) (hB:∃i,P.info? B=some i):
  One P none (ZE (mkF b t ds (.inRegion ops (i::rest)::k)) cs w) (ZE (mkF b (Z1 t (some d) (.chan (some w.heap.size))) ds (.inRegion ops rest::k)) cs {w with heap:=w.heap.push (.chan 0 #[] false 0 0 false)}):=by
 obtain⟨o,ho,hop,hdst,hg⟩:=H.ok
 obtain⟨iB,hi⟩:=hB
 have hr:∀w:World,(execOp (QA t) o).runT P w #[]=(.ok (.value (.chan (some w.heap.size))) {w with heap:=w.heap.push (.chan 0 #[] false 0 0 false)}, #[]):=fun w=>by
  have e:execOp (QA t) o=(Instr.makeChan T (.int .i64 0)>>=fun x=>pure (.value x)):=by
   unfold execOp
   simp only[hop]
   rfl
  rw[e]
  unfold Instr.makeChan
  show(Sem.bind (Sem.bind (underlying T) _) _).runT P w #[]=_
  rw[Sem.runT_bind',Sem.runT_bind',Zfa hU]
  dsimp only
  rw[show∀f:TypeInfo→Sem Value,(typeInfo B>>=f)=Sem.bind (typeInfo B) f from fun _=>rfl,Sem.runT_bind',Zdk hi]
  dsimp only
  rw[if_neg (by simp[IntKind.max];decide)]
  rfl
 refine StepsC.main ?_
 refine .one (.head (.own ⟨Nat,Sem.new (.chan 0 #[] false 0 0 false) Sem.pure,fun n=>(mkF b (Z1 t (some d) (.chan (some n))) ds (.inRegion ops rest::k),cs),w.heap.size, #[],fun main w w' x es h=>?_,rfl,rfl,fun e he=>by simp at he⟩) (.refl _))
 have h:((.ok w.heap.size {w with heap:=w.heap.push (.chan 0 #[] false 0 0 false)}:Result Nat),(#[]:Array Event))=(.ok x w',es):=h
 simp only[Prod.mk.injEq,Result.ok.injEq]at h
 obtain⟨⟨rfl,rfl⟩,rfl⟩:=h
 have:=ZdT (P:=P) (b:=b) (ds:=ds) (k:=k) (cs:=cs) (rest:=rest) ho hg (fun c=>by rw[hop];intro h;cases h) (hr w) main
 rw[hdst]at this
 exact this
theorem Zlf {α:Type} {A:Array α} {x y:α} {j:Nat} (h:j≠A.size):(A.push x)[j]? =(A.push y)[j]? :=by
 rw[Array.getElem?_push,Array.getElem?_push,if_neg h,if_neg h]
theorem VR.setCx {R:RC} {a:AV} {v:Value} (c:Option Nat) (h:VR R a v):VR {R with cx:=c} a v:=by
 induction h with
 |pure a v h=>exact .pure a v h
 |undef v=>exact .undef v
 |ptr id off h=>exact .ptr (R:={R with cx:=c}) id off h
 |own s n f id v h hp hn he=>exact .own s n f id v h hp hn he
 |nn s n f v hp hv=>exact .nn s n f v hp hv
 |aptr id s e off i h he=>exact .aptr (R:={R with cx:=c}) id s e off i h he
 |msl id s lo n c i len cap h hlo hn hc hle=>exact .msl (R:={R with cx:=_}) id s lo n c i len cap h hlo hn hc hle
 |gsl id n a l c h hn he hl=>exact .gsl id n a l c h hn he hl
 |gptr id s n e off a h hn he=>exact .gptr id s n e off a h hn he
 |lit s cs b o us hs h1 h2 h3 ih=>exact .lit s cs b o us hs h1 ih h3
 |map id h=>exact .map (R:={R with cx:=c}) id h
 |mit id h h0=>exact .mit (R:={R with cx:=c}) id h h0
 |fn f xs bs us vs ha hb h1 h2 ih1 ih2=>exact .fn f xs bs us vs ha hb ih1 ih2
 |yld id h=>exact .yld (R:={R with cx:=c}) id h
 |agg cs us ha h ih=>exact .agg cs us ha ih
 |tup cs us ha h ih=>exact .tup cs us ha ih
 |gd g a v h ih=>exact .gd g a v ih
 |ob g b v h1 h2=>exact .ob g b v h1 h2
structure KC (P:Program) (fid:FuncId) (xs:Nat→List AV) (L:List Bool):Prop where
 run:∀(ch:Nat) (R:RC) (vs:Array Value),HR (fun _ _ _=>True) R [.gob (.chq ch fun _=>[])]→R.cx=some ch→R.n0=1→XY R (xs ch) vs→∀cs,∃t todo w' s r tm ts ty c,
  StepsC P (some ch) ⟨Frame.enter P fid vs .deferred,cs,R.w⟩ ⟨{mkF ⟨fid,true,none,[]⟩ t [Zh2 ts ty c ch] todo with mode:=.returning},cs,w'⟩∧w'.heap[ch]? =some (.chan 0 (L.map Value.bool).toArray false s r tm)∧
  (∀b,b<R.w.heap.size→b≠ch→w'.heap[b]? =R.w.heap[b]?)∧R.w.heap.size≤w'.heap.size∧w'.os=R.w.os∧w'.tape=R.w.tape∧w'.output=R.w.output
def wCh (w:World) (v:Value) (T:TypeId) (f:Nat×Nat):World:={w with heap:=(w.heap.push (.chan 0 #[] false 0 0 false)).push (.cells #[v] T f)}
theorem ZjO {w:World} {v:Value} {T:TypeId} {f:Nat×Nat} {b:Nat} (h:b<w.heap.size):(wCh w v T f).heap[b]? =w.heap[b]? :=by
 show((w.heap.push _).push _)[b]? =_
 rw[Array.getElem?_push,if_neg (by simp;omega),Array.getElem?_push,if_neg (by omega)]
theorem ZmX {w:World} {v:Value} {T:TypeId} {f:Nat×Nat}:(wCh w v T f).heap[w.heap.size]? =some (.chan 0 #[] false 0 0 false):=by
 show((w.heap.push _).push _)[w.heap.size]? =_
 rw[Array.getElem?_push,if_neg (by simp),Array.getElem?_push,if_pos rfl]
theorem ZcI {w:World} {v:Value} {T:TypeId} {f:Nat×Nat}:(wCh w v T f).heap[w.heap.size+1]? =some (.cells #[v] T f):=by
 show((w.heap.push _).push _)[w.heap.size+1]? =_
 rw[Array.getElem?_push,if_pos (by simp)]
theorem Zbl {w:World} {v:Value} {T:TypeId} {f:Nat×Nat}:(wCh w v T f).heap.size=w.heap.size+2:=by
 show((w.heap.push _).push _).size=_
 simp
theorem Zdj {w:World} {v:Value} {T:TypeId} {f:Nat×Nat}:(wCh w v T f).cell? ⟨w.heap.size+1,0,none⟩=some v:=by
 unfold World.cell?
 rw[ZcI]
 rfl
theorem Zjk {w w':World} {b:Nat} (h:w'.heap[b]? =w.heap[b]?) (i:Nat):w'.cell? ⟨b,i,none⟩=w.cell? ⟨b,i,none⟩:=by
 unfold World.cell?
 simp only[h]
end
theorem Zpp {G:Nat→Nat→Nat→Prop} {R:RC} {h:List Zi} (H:HR G R h) (T:TypeId):∃R₃:RC,R₃.w=wCh R.w (.chan (some R.w.heap.size)) T (0,1)∧R₃.cx=some R.w.heap.size∧R₃.n0=1∧HR (fun _ _ _=>True) R₃ [.gob (.chq R.w.heap.size fun _=>[])]∧
  (∀k a v,VR R a v→VR R₃ (Qx true [] h k a) v)∧VR R₃ (.iptr [.cch R.w.heap.size] 0) (.pointer (some ⟨R.w.heap.size+1,0,none⟩)):=by
 obtain⟨R₂,acx,a0,a1,a2,a3,a4,a5,a6,a7,a8⟩:=H.sel (fz:=true) (ι:=[]) (fun _ _ _=>True) (fun _ _ _ _=>trivial) (fun _ _ _ _ _ _ _ _=>trivial) (fun _ _ _ _=>trivial) (fun _ _ _ _ _ _ _ _ _=>trivial) List.nodup_nil (fun i hi=>by cases hi) (fun _ _ _ _ _ _ _ _ _=>trivial) 0 (Nat.zero_le _) (fun _=>Nat.zero_le _)
 let n:=R.w.heap.size
 let R₃:RC:={R₂ with w:=wCh R.w (.chan (some n)) T (0,1),cx:=some n,m:=1,n0:=1,α:=fun _=>⟨n,0⟩,ok:=fun b _ _=>b<n+2∧b≠n}
 have hs:R₃.w.heap.size=n+2:=Zbl
 have hle:({R₂ with cx:=some n}:RC).le R₃:=by
  refine⟨by show R₂.m≤1;rw[a2];exact Nat.zero_le _,fun id hi=>?_,fun id hi=>?_,fun id hi=>?_,fun b o m hk=>?_,fun b o m hk j hj=>?_,fun b hk es clk e=>?_,rfl⟩
  ·have hi:id<R₂.m:=hi
   rw[a2]at hi
   exact absurd hi (Nat.not_lt_zero _)
  ·have hi:id<R₂.m:=hi
   rw[a2]at hi
   exact absurd hi (Nat.not_lt_zero _)
  ·have hi:id<R₂.m:=hi
   rw[a2]at hi
   exact absurd hi (Nat.not_lt_zero _)
  ·have:=((a6.okd b o m).1 hk).1
   rw[a1]at this
   exact⟨by show b<R.w.heap.size+2;omega,by show b≠R.w.heap.size;omega⟩
  ·have:=((a6.okd b o m).1 hk).1
   rw[a1]at this
   show(wCh R.w _ T (0,1)).cell? _=R₂.w.cell? _
   rw[a1]
   exact Zjk (ZjO this) _
  ·have:=((a6.okd b 0 1).1 hk).1
   rw[a1]at this
   show(wCh R.w _ T (0,1)).heap[b]? =_
   rw[ZjO this,←a1]
   exact e
 refine⟨R₃,rfl,rfl,rfl,⟨rfl,fun b o m=>?_,fun id blk hi=>?_,fun i j bi bj b hij hi hj=>?_,fun _ _ _ _ _ _ _ _=>trivial,fun _ _ _ _=>trivial,fun _ _ _ _ _ _ _ _=>trivial,Nat.le_refl 1⟩,fun k a v hv=>((a8 k a v hv).setCx (some n)).mono hle,.pure _ _ (.iptr _ _ _ _ (fun _=>.chan (some n)) (fun j c hj=>?_) (fun j c hj=>?_) ?_)⟩
 ·rw[hs]
  refine⟨fun hk=>⟨hk.1,trivial,fun id blk hi=>?_⟩,fun hk=>⟨hk.1,fun e=>?_⟩⟩
  ·cases id with
   |zero=>
    cases hi
    show¬n=b
    exact fun e=>hk.2 e.symm
   |succ id=>simp at hi
  ·exact hk.2.2 0 _ rfl (show n=b from e.symm)
 ·cases id with
  |zero=>
   cases hi
   exact⟨.chan 0 #[] false 0 0 false,ZmX,rfl,rfl,rfl,0,0,false,rfl⟩
  |succ id=>simp at hi
 ·cases i with
  |zero=>
   cases j with
   |zero=>exact absurd rfl hij
   |succ j=>simp at hj
  |succ i=>simp at hi
 ·cases j with
  |zero=>
   cases hj
   exact Zdj
  |succ j=>simp at hj
 ·cases j with
  |zero=>
   cases hj
   exact .cch n
  |succ j=>simp at hj
 ·exact⟨by show n+1<n+2;omega,by show n+1≠n;omega⟩
section
variable {P:Program} {b:FB} {ds:List Deferred} {k:List Item} {cs:List Frame} {t:Array Value}
variable {T I I':TypeId} {fid:FuncId} {o2 o3 o4 o5 o6 o7 o8 o9 o10:Array Oper}
theorem Zmg {i2 i3:Nat} {X:Code} (HO:Za8 T I I' fid o2 o3 o4 o5 o6 o7 o8 o9 o10) {dr:ChanDir} {B:TypeId} (hU:P.underlying T=some (.chan dr B)) (hT:∃i,P.info? T=some i∧i.size=1∧i.zero=some (.chan none)) (hB:∃i,P.info? B=some i) (hsz:t.size=51) (w:World):
  Steps P none (ZE (mkF b t ds (.code (.region i2 o2 false):: .code (.seq (.region i3 o3 false) X)::k)) cs w)
   (ZE (mkF b (Z1 (Z1 (Z1 t (some 37) (.chan (some w.heap.size))) (some 11) (.pointer (some ⟨w.heap.size+1,0,none⟩))) (some 38) (.func (.func fid) #[] #[.pointer (some ⟨w.heap.size+1,0,none⟩),t.getD 4 undef,t.getD 9 undef,t.getD 10 undef])) ds (.inRegion o3 [1]:: .code X::k)) cs (wCh w (.chan (some w.heap.size)) T (0,0))):=by
 obtain⟨iT,hi,hs,hz⟩:=hT
 refine .head ZbW ?_
 rw[HO.s2]
 refine .head (Zir HO.a20 hU hB) ?_
 refine .head (ZeX (nv:=.value (.pointer (some ⟨w.heap.size+1,0,none⟩))) (w':=wCh w (.chan none) T (0,0)) HO.a21 (fun _ h=>by cases h) (fun o ho=>?_) (fun o ho=>?_) (.inl rfl)) ?_
 ·unfold execOp
  simp only[ho]
  exact Zg (fun _=>Zft) fun _ _=>Zp
 ·have hzr:(zeroValue T).run P {w with heap:=w.heap.push (.chan 0 #[] false 0 0 false)}= .ok (.chan none) {w with heap:=w.heap.push (.chan 0 #[] false 0 0 false)}:=by
   have:=Ze9 (w:={w with heap:=w.heap.push (.chan 0 #[] false 0 0 false)}) (es:= #[]) hi hz
   rw[Sem.runT_eq]at this
   exact congrArg Prod.fst this
  unfold execOp
  simp only[ho]
  simp only[Instr.alloc,Sem.run_bind,hzr,Result.andThen_ok,newVar,newRow,newObj,Value.cells]
  simp[Sem.run,wCh]
 refine .head (ZeX (nv:=.skip) (v:=undef) (w':=wCh w (.chan (some w.heap.size)) T (0,0)) HO.a22 (fun _ h=>by cases h) (fun o ho=>?_) (fun o ho=>?_) (.inr ⟨rfl,rfl⟩)) ?_
 ·unfold execOp
  simp only[ho]
  exact Zg (fun _=>ZcW) fun _ _=>Zp
 ·have e1:QA (Z1 (Z1 t (some 37) (.chan (some w.heap.size))) (some 11) (.pointer (some ⟨w.heap.size+1,0,none⟩))) (.tmp 11)= .pointer (some ⟨w.heap.size+1,0,none⟩):=Xi (by simp only[Z5];omega)
  have e2:QA (Z1 (Z1 t (some 37) (.chan (some w.heap.size))) (some 11) (.pointer (some ⟨w.heap.size+1,0,none⟩))) (.tmp 37)= .chan (some w.heap.size):=(Yu (by decide)).trans (Xi (by omega))
  unfold execOp
  simp only[ho,e1,e2]
  have hsr:(sizeOf T).run P (wCh w (.chan none) T (0,0))= .ok 1 (wCh w (.chan none) T (0,0)):=by
   have:=Zdk (w:=wCh w (.chan none) T (0,0)) (es:= #[]) hi
   rw[Sem.runT_eq]at this
   have h:=congrArg Prod.fst this
   unfold sizeOf
   have h:(typeInfo T).run P (wCh w (.chan none) T (0,0))= .ok iT (wCh w (.chan none) T (0,0)):=h
   rw[Sem.run_bind,h,Result.andThen_ok,hs]
   rfl
  simp only[Instr.storeAt,Instr.sureAddr,Sem.run_bind,Sem.run_pure,Result.andThen_ok,storeVar,hsr]
  rw[if_neg (by simp[Value.cells])]
  have hc:(wCh w (.chan none) T (0,0)).cell? (Addr.add ⟨w.heap.size+1,0,none⟩ 0)=some (.chan none):=Zdj
  have hfz:(wCh w (.chan none) T (0,0)).frozen? (Addr.add ⟨w.heap.size+1,0,none⟩ 0)=false:=by
   unfold World.frozen?
   rw[show(Addr.add ⟨w.heap.size+1,0,none⟩ 0).block=w.heap.size+1 from rfl,ZcI]
   simp
  have hset:(wCh w (.chan none) T (0,0)).setCell (Addr.add ⟨w.heap.size+1,0,none⟩ 0) (.chan (some w.heap.size))=wCh w (.chan (some w.heap.size)) T (0,0):=by
   unfold World.setCell wCh
   simp only[World.mk.injEq,and_true]
   apply Array.ext_getElem?
   intro j
   show(((w.heap.push _).push _).modify (w.heap.size+1) _)[j]? =_
   rw[Array.getElem?_modify]
   by_cases hj:w.heap.size+1=j
   ·subst hj
    rw[if_pos rfl,Array.getElem?_push,if_pos (by simp),Array.getElem?_push,if_pos (by simp)]
    rfl
   ·rw[if_neg hj]
    exact Zlf (by simpa using Ne.symm hj)
  simp[Value.cells,storeCells,store,Sem.run_bind,Sem.run,hc,hfz,hset]
 refine .head YM (.head Zhn (.head ZbW ?_))
 rw[HO.s3]
 refine .head (ZeX (nv:=.value _) (v:=.func (.func fid) #[] #[.pointer (some ⟨w.heap.size+1,0,none⟩),t.getD 4 undef,t.getD 9 undef,t.getD 10 undef]) (w':=wCh w (.chan (some w.heap.size)) T (0,0)) HO.a30 (fun _ h=>by cases h) (fun o ho=>?_) (fun o ho=>?_) (.inl rfl)) (.refl _)
 ·unfold execOp
  simp only[ho]
  trivial
 ·have e1:(QA (Z1 (Z1 t (some 37) (.chan (some w.heap.size))) (some 11) (.pointer (some ⟨w.heap.size+1,0,none⟩)))) (.tmp 11)= .pointer (some ⟨w.heap.size+1,0,none⟩):=Xi (by simp only[Z5];omega)
  have e2:(QA (Z1 (Z1 t (some 37) (.chan (some w.heap.size))) (some 11) (.pointer (some ⟨w.heap.size+1,0,none⟩)))) (.tmp 4)=t.getD 4 undef:=(Yu (by decide)).trans (Yu (by decide))
  have e3:(QA (Z1 (Z1 t (some 37) (.chan (some w.heap.size))) (some 11) (.pointer (some ⟨w.heap.size+1,0,none⟩)))) (.tmp 9)=t.getD 9 undef:=(Yu (by decide)).trans (Yu (by decide))
  have e4:(QA (Z1 (Z1 t (some 37) (.chan (some w.heap.size))) (some 11) (.pointer (some ⟨w.heap.size+1,0,none⟩)))) (.tmp 10)=t.getD 10 undef:=(Yu (by decide)).trans (Yu (by decide))
  unfold execOp
  have e0:∀u:Array Value,Z1 u none undef=u:=fun _=>rfl
  simp only[ho,Instr.makeFunc,List.map_toArray,List.map_cons,List.map_nil,e0,e1,e2,e3,e4]
  rfl
theorem Zkq {fn:Func} {body:Code} (hf:P.funcs[fid]? =some fn) (hb:fn.body=some body) (hn:(fn.name== "runtime.NumGoroutine")=false) (vs:Array Value) (main:Bool) (w:World):
  stepG P main (G (Zak P.funcs.size [{target:=.fn (.func fid) vs,args:= #[]}]) []) w= .go (G (Frame.enter P fid vs .deferred) [Zak P.funcs.size []]) w:=by
 have hr:(invoke (.fn (.func fid) vs) #[]).run P w= .ok (.enter fid vs) w:=by
  have hn:¬fn.name= "runtime.NumGoroutine" :=by simpa using hn
  simp[invoke,callFunc,Sem.run_bind,program,Sem.run,hf,hb,hn]
 have he:(invoke (.fn (.func fid) vs) #[]).events P w #[]= #[]:=by
  have hn:¬fn.name= "runtime.NumGoroutine" :=by simpa using hn
  unfold invoke callFunc Sem.events
  simp only
  show((Sem.bind program _).runT P w #[]).2=_
  rw[Sem.runT_bind',show program.runT P w #[]=(.ok P w, #[])from rfl]
  simp only[hf,hb]
  simp[hn]
 simp[G,stepG,unwind,Zak,callDeferred,hr,he,GStep.after,seen_none]
theorem Zq6 {vs:Array Value} {X:Code} (HO:Za8 T I I' fid o2 o3 o4 o5 o6 o7 o8 o9 o10) (h38:QA t (.tmp 38)= .func (.func fid) #[] vs):
  ZmJ P (mkF b t ds (.inRegion o3 [1]:: .code X::k)) cs (mkF b t ds (.inRegion o3 []:: .code X::k)) (Zak P.funcs.size [{target:=.fn (.func fid) vs,args:= #[]}]):=by
 obtain⟨o,ho,hop,hd,hg⟩:=HO.a31.ok
 intro w
 refine⟨#[],?_,fun e he=>by simp at he⟩
 have hf:(mkF b t ds (.inRegion o3 [1]:: .code X::k)).finish undef=mkF b t ds (.inRegion o3 []:: .code X::k):=by
  rw[Xd,ho]
  show mkF b (Z1 t o.dst undef) ds _=_
  rw[hd]
  rfl
 have e:execOp (QA t) o=pure (.spawn {target:=.fn (.func fid) vs,args:= #[]}):=by
  unfold execOp
  simp only[hop,resolve,h38,Deferred.ofValue]
  simp
 rw[Zcv ho (by simp[Region.wanted,hg]) (fun c=>by rw[hop];intro h;cases h),e,←hf]
 unfold stepG.apply
 have hk:=b.not_early
 simp[GStep.after,G,mkF,seen_none,hk,Zak]
end
section
variable {P:Program} {T I I':TypeId} {fid:FuncId} {o2 o3 o4 o5 o6 o7 o8 o9 o10:Array Oper}
theorem ZoV {b:FB} {ds:List Deferred} {k:List Item} {cs:List Frame} {t:Array Value} {w:World} {i6 i7 i8 i9 i10 b0 b1:Nat} (HO:Za8 T I I' fid o2 o3 o4 o5 o6 o7 o8 o9 o10) (hsz:t.size=51):
  Steps P none (ZE (got (mkF b t ds (atR i6 i7 i8 i9 i10 b0 b1 o6 o7 o8 o9 o10 k [0,1]),cs) false false).1 (got (mkF b t ds (atR i6 i7 i8 i9 i10 b0 b1 o6 o7 o8 o9 o10 k [0,1]),cs) false false).2 w)
   (ZE (mkF b (Z1 (Z1 t (some 40) (.tuple #[.bool false,.bool false])) (some 41) (.bool false)) ds k) cs w):=by
 obtain⟨o,ho,hop,hd,hg⟩:=HO.a60.ok
 have e:got (mkF b t ds (atR i6 i7 i8 i9 i10 b0 b1 o6 o7 o8 o9 o10 k [0,1]),cs) false false=(mkF b (Z1 t (some 40) (.tuple #[.bool false,.bool false])) ds (atR i6 i7 i8 i9 i10 b0 b1 o6 o7 o8 o9 o10 k [1]),cs):=by
  unfold got atR
  rw[Xd,ho]
  show(mkF b (Z1 _ o.dst _) ds _,cs)=_
  rw[hd]
 rw[e]
 have e40:QA (Z1 t (some 40) (.tuple #[.bool false,.bool false])) (.tmp 40)= .tuple #[.bool false,.bool false]:=Xi (by omega)
 unfold atR
 refine .head (ZeX (nv:=.value _) (v:=.bool false) (w':=w) HO.a61 (fun _ h=>by cases h) (fun o ho=>?_) (fun o ho=>?_) (.inl rfl)) ?_
 ·rw[Js e40 rfl o ho]
  trivial
 ·rw[Js (v:=.bool false) e40 rfl o ho]
  rfl
 refine .head YM (.head Zhn (.head (Zk6 (v:=false) ?_) (.head (Zk5 ?_) (.refl _))))
 ·rw[Zb1]
  exact Xi (by simp only[Z5];omega)
 ·simp[exitTo]
theorem Zua {R:RC} {t:Array Value} {y n:Int} (hsz:t.size=51) (h12:t.getD 12 undef= .int .i64 y) (h13:t.getD 13 undef= .int .i64 n):SL R (mkS 51 [(12,.int .i64 fun _=>y),(13,.int .i64 fun _=>n)]) t:=by
 refine⟨by rw[hsz];rfl,fun i a hi=>?_⟩
 by_cases e13:i=13
 ·subst e13
  have hi:some (AV.int .i64 fun _=>n)=some a:=hi
  cases hi
  rw[h13]
  exact .pure _ _ (.int _ _)
 by_cases e12:i=12
 ·subst e12
  have hi:some (AV.int .i64 fun _=>y)=some a:=hi
  cases hi
  rw[h12]
  exact .pure _ _ (.int _ _)
 have hi:(((List.replicate 51 AV.undef).set 12 (.int .i64 fun _=>y)).set 13 (.int .i64 fun _=>n))[i]? =some a:=hi
 rw[List.getElem?_set_ne (Ne.symm e13),List.getElem?_set_ne (Ne.symm e12),List.getElem?_replicate]at hi
 split at hi
 ·cases hi
  exact .undef _
 ·cases hi
theorem Zq5 {p:Unit→Program} {nb:Nat} {K:Ex→List AV→List Zi→Cd→Prop} {s:List AV} {h:List Zi} {i2 i3 i4 i5 i6 i7 i8 i9 i10 b0 b1:Nat} {x11:Code} (HO:Za8 T I I' fid o2 o3 o4 o5 o6 o7 o8 o9 o10) {dr:ChanDir} {B:TypeId}
  (hU:(p ()).underlying T=some (.chan dr B)) (hT:∃i,(p ()).info? T=some i∧i.size=1∧i.zero=some (.chan none)) (hB:∃i,(p ()).info? B=some i∧i.zero=some (.bool false))
  {fn:Func} {body:Code} (hf:(p ()).funcs[fid]? =some fn) (hb:fn.body=some body) (hn:(fn.name== "runtime.NumGoroutine")=false) (hr:fn.results= #[]) (hlen:s.length=51) (hmain:h[0]? =some .main)
  {x4 x9 x10:AV} (h4:Qx true [] h 5 (s.getD 4 .undef)=x4) (h9:Qx true [] h 5 (s.getD 9 .undef)=x9) (h10:Qx true [] h 5 (s.getD 10 .undef)=x10) {L:List Bool} (child:KC (p ()) fid (fun ch=>[.iptr [.cch ch] 0,x4,x9,x10]) L)
  (rest:HP false nb p [.code x11] K (mkS 51 [(12,.int .i64 fun _=>cnt true L 0),(13,.int .i64 fun _=>cnt false L 0)]) h):
  HP false nb p [.code (.region i2 o2 false),.code (.seq (.region i3 o3 false) (.seq (.region i4 o4 false) (.seq (.seq (.region i5 o5 false) (.block b0 (.loop (lpB i6 i7 i8 i9 i10 b0 b1 o6 o7 o8 o9 o10)))) x11)))] K s h:=by
 refine⟨fun hK R₀ h₀ hnb R t hi hs b ds k cs hd=>?_⟩
 have hcx:R.cx=none:=hi.hr.blk 0 .main hmain
 have hsz:t.size=51:=hs.1.trans hlen
 have S1:=Zmg (P:=p ()) (b:=b.1) (ds:=ds) (k:=k) (cs:=cs) (t:=t) (i2:=i2) (i3:=i3) (X:=.seq (.region i4 o4 false) (.seq (.seq (.region i5 o5 false) (.block b0 (.loop (lpB i6 i7 i8 i9 i10 b0 b1 o6 o7 o8 o9 o10)))) x11)) HO hU hT (hB.imp fun _ h=>h.1) hsz R.w
 generalize hvs:(#[.pointer (some ⟨R.w.heap.size+1,0,none⟩),t.getD 4 undef,t.getD 9 undef,t.getD 10 undef]:Array Value)=vs at S1
 generalize ht3:Z1 (Z1 (Z1 t (some 37) (.chan (some R.w.heap.size))) (some 11) (.pointer (some ⟨R.w.heap.size+1,0,none⟩))) (some 38) (.func (.func fid) #[] vs)=t3 at S1
 have hsz3:t3.size=51:=by rw[←ht3];simp only[Z5];exact hsz
 have h38:QA t3 (.tmp 38)= .func (.func fid) #[] vs:=by rw[←ht3];exact Xi (by simp only[Z5];omega)
 have h11:t3.getD 11 undef= .pointer (some ⟨R.w.heap.size+1,0,none⟩):=by rw[←ht3];exact(QM (by decide)).trans (Ym (by simp only[Z5];omega))
 have h37:t3.getD 37 undef= .chan (some R.w.heap.size):=by rw[←ht3];exact(QM (by decide)).trans ((QM (by decide)).trans (Ym (by omega)))
 have hgo:=Zq6 (P:=p ()) (b:=b.1) (ds:=ds) (k:=k) (cs:=cs) (X:=.seq (.region i4 o4 false) (.seq (.seq (.region i5 o5 false) (.block b0 (.loop (lpB i6 i7 i8 i9 i10 b0 b1 o6 o7 o8 o9 o10)))) x11)) HO h38
 obtain⟨hkf,hE⟩:=Zmh (P:=p ()) (ch:=R.w.heap.size) (cell:=R.w.heap.size+1) (b:=b.1) (ds:=ds) (k:=k) (cs:=cs) HO hU hB (t:=t3) (by omega) h11 h37 rfl hgo
 obtain⟨R₃,r1,r2,r3,r4,r5,r6⟩:=Zpp hi.hr T
 have hrow:XY R₃ [.iptr [.cch R.w.heap.size] 0,x4,x9,x10] vs:=by
  subst hvs
  refine⟨rfl,fun j c hj=>?_⟩
  match j,hj with
  |0,hj=>cases hj;exact r6
  |1,hj=>
   cases hj
   rw[←h4]
   exact r5 5 _ _ (hs.getD 4)
  |2,hj=>
   cases hj
   rw[←h9]
   exact r5 5 _ _ (hs.getD 9)
  |3,hj=>
   cases hj
   rw[←h10]
   exact r5 5 _ _ (hs.getD 10)
  |j+4,hj=>simp at hj
 obtain⟨tc,todo,wc,sc,rc,tmc,ts,ty,c,g1,g2,g3,g4,g5,g6,g7⟩:=child.run R.w.heap.size R₃ vs r4 r2 r3 hrow [Zak (p ()).funcs.size []]
 rw[r1]at g1 g3 g4 g5 g6 g7
 have hFz:Fz (R.w.heap.size+1) (wCh R.w (.chan (some R.w.heap.size)) T (0,1)) (wCh R.w (.chan (some R.w.heap.size)) T (0,0)):=by
  refine⟨rfl,rfl,rfl,rfl,by rw[Zbl,Zbl],fun j hj=>?_,_,T,(0,0),ZcI,ZcI⟩
  exact Zlf (by simpa using hj)
 obtain⟨w',hw',S2⟩:=Zo0 (P:=p ()) hkf hgo hE ZmX Zdj (by omega) (fun main w=>Zkq hf hb hn vs main w) hFz g1 g2 (Zpu hf hr)
 have S3:=ZoV (P:=p ()) (b:=b.1) (ds:=ds) (k:=.code x11::k) (cs:=cs) (t:=L.foldl stp (st0 R.w.heap.size t3)) (w:=w'.setChan R.w.heap.size 0 #[] true sc sc tmc) (i6:=i6) (i7:=i7) (i8:=i8) (i9:=i9) (i10:=i10) (b0:=b0) (b1:=b1) HO ((ZhS (by omega) h11 L).size.trans hsz3)
 have hst:=ZhS (ch:=R.w.heap.size) (cell:=R.w.heap.size+1) (t:=t3) (by omega) h11 L
 generalize htz:Z1 (Z1 (L.foldl stp (st0 R.w.heap.size t3)) (some 40) (.tuple #[.bool false,.bool false])) (some 41) (.bool false)=tz at S3
 have hszz:tz.size=51:=by rw[←htz];simp only[Z5];exact hst.size.trans hsz3
 have hz12:tz.getD 12 undef= .int .i64 (cnt true L 0):=by rw[←htz];exact(QM (by decide)).trans ((QM (by decide)).trans hst.c12)
 have hz13:tz.getD 13 undef= .int .i64 (cnt false L 0):=by rw[←htz];exact(QM (by decide)).trans ((QM (by decide)).trans hst.c13)
 generalize hwz:w'.setChan R.w.heap.size 0 #[] true sc sc tmc=wz at S2 S3
 have hheap:∀b,b<R.w.heap.size→wz.heap[b]? =R.w.heap[b]? :=fun b hb=>by
  rw[←hwz]
  show(w'.heap.setIfInBounds R.w.heap.size _)[b]? =_
  rw[Array.getElem?_setIfInBounds_ne (by omega),hw'.ne b (by omega)]
  exact(g3 b (by rw[Zbl];omega) (by omega)).trans (ZjO hb)
 have hsize:R.w.heap.size≤wz.heap.size:=by
  rw[←hwz]
  show _≤(w'.heap.setIfInBounds R.w.heap.size _).size
  rw[Array.size_setIfInBounds,hw'.size]
  rw[Zbl]at g4
  exact Nat.le_trans (by omega) g4
 have hos:wz.os=R.w.os:=by rw[←hwz];exact hw'.os.trans g5
 have htape:wz.tape=R.w.tape:=by rw[←hwz];exact hw'.tape.trans g6
 have hout:wz.output=R.w.output:=by rw[←hwz];exact hw'.output.trans g7
 let R':RC:={R with w:=wz,ok:=fun b o n=>b<wz.heap.size∧Gof R₀ h₀ b o n∧Zga R h b o n}
 have hok:∀b o n,R.ok b o n→R'.ok b o n:=fun b o n k=>by
  obtain⟨h1,h2,h3⟩:=(hi.hr.okd _ _ _).1 k
  exact⟨by omega,h2,h3⟩
 have hkeep:∀b o n,R.ok b o n→∀j,j<n→R'.w.cell? ⟨b,o+j,none⟩=R.w.cell? ⟨b,o+j,none⟩:=fun b o n k j hj=>Zjk (hheap b ((hi.hr.okd _ _ _).1 k).1) _
 have hle:R.le R':=⟨Nat.le_refl _,fun _ _=>rfl,fun _ _=>⟨Int.le_refl _,fun _=>rfl⟩,fun _ _=>.refl _,hok,hkeep,fun b k es clk e=>(hheap b ((hi.hr.okd _ _ _).1 k).1).trans e,rfl⟩
 have hH:HR (Gof R₀ h₀) R' h:=⟨hi.hr.len,fun _ _ _=>Iff.rfl,fun id blk hid=>(hi.hr.blk id blk hid).mono hle rfl rfl rfl rfl fun b hp=>hheap b (hi.hr.phys_lt hid hp),hi.hr.dis,hi.hr.cl,fun b o n hb=>hi.hr.fresh b o n (Nat.le_trans hsize hb),hi.hr.tokG,hi.hr.n0m⟩
 have hx:Xh R h R' h:=⟨rfl,hos,htape,hout,hsize,Nat.le_refl _,fun _ _=>rfl,hok,hkeep,fun b hb _=>hheap b hb,fun id blk b hid hp=>.inr ⟨id,blk,hid,hp,.inl rfl⟩⟩
 have hi':JP R₀ h₀ R' h:=hi.step hH hx hle
 obtain⟨e,s',h',R'',t',ds',a1,a2,a5,a6,a7,a8⟩:=rest.run hK R₀ h₀ hnb R' tz hi' (Zua hszz hz12 hz13) b ds k cs (hd.ext hi.hr hx)
 refine⟨e,s',h',R'',t',ds',a1,a2,a5,a6,a7,?_⟩
 have hcx':R'.cx=none:=hcx
 rw[hcx']at a8
 rw[hcx]
 exact Arr.of_steps (Steps.trans S1 (Steps.trans S2 S3)) a8
end
end Go.Proofs.YtjgpiclllehgmaaGreat.Vm
namespace Go.Proofs.YtjgpiclllehgmaaGreat.Vm
open Go Go.Conc Go.Proofs Go.Proofs.YtjgpiclllehgmaaGreat.Conc1
def Zpq (ch:Nat) (L:List Bool) (e:Ex) (s:List AV) (h:List Zi) (c:Cd):Prop:=match e with
 |.exit _=>False
 |_=>chk c (∃h2,h= .gob (.chq ch fun _=>L)::h2)
theorem Zg1 {ch:Nat} {L:List Bool} {e:Ex} {s:List AV} {h:List Zi} {c:Cd} (H:Zpq ch L e s h c):ZT c∧(∀id,e≠ .exit id)∧∃h2,h= .gob (.chq ch fun _=>L)::h2:=by
 cases e with
 |exit id=>exact H.elim
 |normal=>exact⟨(Z3 H).1,(fun _ h=>by cases h),(Z3 H).2⟩
 |ret=>exact⟨(Z3 H).1,(fun _ h=>by cases h),(Z3 H).2⟩
theorem Zht {P:Program} {T:TypeId} {dr:ChanDir} {B:TypeId} {w:World} {a:Addr} {v:Value} (hU:P.underlying T=some (.chan dr B)) (hw:w.cell? a=some v):(Instr.loadAt T (.pointer (some a))).run P w= .ok v w:=by
 have h1:(isAgg T).run P w= .ok false w:=by
  unfold isAgg
  have:=Zfa (w:=w) (es:= #[]) hU
  rw[Sem.runT_eq]at this
  have h:(underlying T).run P w= .ok (.chan dr B) w:=congrArg Prod.fst this
  rw[Sem.run_bind,h,Result.andThen_ok]
  rfl
 simp only[Instr.loadAt,Instr.sureAddr,Sem.run_bind,Sem.run_pure,Result.andThen_ok,loadVar,h1,Bool.false_eq_true,if_false]
 simp[load,Sem.run,hw]
theorem Zpo {p:Unit→Program} {fid:FuncId} {fn:Func} {i0:Nat} {o0:Array Oper} {x1:Code} {T:TypeId} {dr:ChanDir} {B:TypeId} {ts:Array TypeId} {L:List Bool} {ys:List AV} (hf:(p ()).funcs[fid]? =some fn) (hb:fn.body=some (.seq (.region i0 o0 false) x1)) (hs0:List.range o0.size=[0,1])
  (a0:Jk o0 0 (some 6) (.load T (.tmp 0))) (a1:Jk o0 1 none (.defer {callee:=.builtin .close,args:= #[.tmp 6],argTypes:=ts})) (hU:(p ()).underlying T=some (.chan dr B)) (hnt:6<fn.ntmps)
  (H:∀ch,HP false 1 p [.code x1] (Zpq ch L) ((entry fn.ntmps (.iptr [.cch ch] 0::ys)).set 6 (.cch ch)) [.gob (.chq ch fun _=>[])]):KC (p ()) fid (fun ch=>.iptr [.cch ch] 0::ys) L:=by
 refine⟨fun ch R vs HH hcx hn0 ha cs=>?_⟩
 obtain⟨ha1,ha2⟩:=ha
 have hfr:Frame.enter (p ()) fid vs .deferred=mkF ⟨fid,true,none,[]⟩ (vs++Array.replicate (fn.ntmps-vs.size) undef) [] [.code (.seq (.region i0 o0 false) x1)]:=by
  simp[Frame.enter,mkF,FB.kind,hf,hb]
 have hsl:SL R (entry fn.ntmps (.iptr [.cch ch] 0::ys)) (vs++Array.replicate (fn.ntmps-vs.size) undef):=by
  refine⟨by simp[entry,←ha1];omega,fun i a hi=>?_⟩
  rw[entry,List.getElem?_append]at hi
  split at hi
  ·rename_i hlt
   have:=ha2 i a hi
   rw[Array.getD_eq_getD_getElem?]at this⊢
   rw[Array.getElem?_append_left (by omega)]
   exact this
  ·rw[List.getElem?_replicate]at hi
   split at hi
   ·cases hi
    exact .undef _
   ·cases hi
 generalize ht:vs++Array.replicate (fn.ntmps-vs.size) undef=t at hfr hsl
 have hv0:∃a:Addr,t.getD 0 undef= .pointer (some a)∧R.w.cell? a=some (.chan (some ch)):=by
  have h0:=hsl.getD 0
  have h0:VR R (.iptr [.cch ch] 0) (t.getD 0 undef):=h0
  generalize t.getD 0 undef=v at h0
  cases h0 with
  |pure _ _ hp=>
   cases hp with
   |iptr _ _ b o us h1 h2 h3=>
    have e:=h1 0 _ rfl
    have e2:=h2 0 _ rfl
    refine⟨_,rfl,?_⟩
    cases hu:us 0 with
    |chan c=>
     rw[hu]at e2 e
     cases e2
     exact e
    |_=>rw[hu]at e2;cases e2
 obtain⟨a,hv0,hcell⟩:=hv0
 have hsz:6<t.size:=by
  have:=hsl.1
  rw[this]
  simp only[entry,List.length_append,List.length_replicate]
  omega
 have hno:(⟨fid,true,none,[]⟩:FB).roundOf=none:=rfl
 obtain⟨o,ho,hop,hdst,hg⟩:=a1.ok
 let t1:=Z1 t (some 6) (.chan (some ch))
 let D:=Zh2 ts o.type #[false] ch
 have S0:StepsC (p ()) (some ch) (ZE (mkF ⟨fid,true,none,[]⟩ t [] [.code (.seq (.region i0 o0 false) x1)]) cs R.w) (ZE (mkF ⟨fid,true,none,[]⟩ t1 [] [.inRegion o0 [1],.code x1]) cs R.w):=by
  refine .head Zhn (.head ZbW ?_)
  rw[hs0]
  refine .one (ZeX (nv:=.value _) (v:=.chan (some ch)) (w':=R.w) a0 (fun _ h=>by cases h) (fun o ho=>?_) (fun o ho=>?_) (.inl rfl))
  ·unfold execOp
   simp only[ho]
   exact Zg (fun _=>Zee) fun _ _=>Zp
  ·have e:QA t (.tmp 0)= .pointer (some a):=hv0
   unfold execOp
   simp only[ho,e,Sem.run_bind,Zht hU hcell,Result.andThen_ok,Sem.run_pure]
 have S1:One (p ()) (some ch) (ZE (mkF ⟨fid,true,none,[]⟩ t1 [] [.inRegion o0 [1],.code x1]) cs R.w) (ZE (mkF ⟨fid,true,none,[]⟩ t1 [D] [.inRegion o0 [],.code x1]) cs R.w):=by
  refine Q0 fun main w=>?_
  have e6:QA t1 (.tmp 6)= .chan (some ch):=Xi hsz
  have e:execOp (QA t1) o=pure (.defer D):=by
   unfold execOp
   simp only[hop,resolve,List.map_toArray,List.map_cons,List.map_nil,e6]
   rfl
  have hop2:(mkF ⟨fid,true,none,[]⟩ t1 [] [.inRegion o0 [1],.code x1]).oper?=some o:=by simp[Frame.oper?,mkF,ho]
  have he:(mkF ⟨fid,true,none,[]⟩ t1 [] [.inRegion o0 [1],.code x1]).eval=QA t1:=Zb1 _
  have h2:stepG (p ()) main (G (mkF ⟨fid,true,none,[]⟩ t1 [] [.inRegion o0 [1],.code x1]) cs) w=stepG.oper (p ()) true (mkF ⟨fid,true,none,[]⟩ t1 [] [.inRegion o0 [1],.code x1]) cs none w:=by
   simp[stepG,stepG.exec,mkF,G,ho,Region.wanted,hg]
  rw[h2]
  unfold stepG.oper
  simp only[hop2,he,e]
  unfold stepG.apply
  have hk:(mkF ⟨fid,true,none,[]⟩ t1 [D] [.inRegion o0 [1],.code x1]).finish undef=mkF ⟨fid,true,none,[]⟩ t1 [D] [.inRegion o0 [],.code x1]:=by
   rw[Xd,ho]
   show mkF _ (Z1 t1 o.dst undef) _ _=_
   rw[hdst]
   rfl
  rw[←hk]
  simp[GStep.after,G,mkF,seen_none,FB.kind]
 have S2:One (p ()) (some ch) (ZE (mkF ⟨fid,true,none,[]⟩ t1 [D] [.inRegion o0 [],.code x1]) cs R.w) (ZE (mkF ⟨fid,true,none,[D]⟩ t1 [D] ([.code x1]++[])) cs R.w):=YM
 have hn0':([.gob (.chq ch fun _=>[])]:List Zi).length≤R.n0:=by rw[hn0];exact Nat.le_refl 1
 have hsl1:SL R ((entry fn.ntmps (.iptr [.cch ch] 0::ys)).set 6 (.cch ch)) t1:=hsl.set (.pure _ _ (.cch ch)) 6
 obtain⟨e,s',h',R',t',ds',⟨c,hk⟩,hi,hs,hd,_,hA⟩:=(H ch).run (fun e s h c hk=>(Zg1 hk).1) R [.gob (.chq ch fun _=>[])] (by rw[hn0];exact Nat.le_refl 1) R t1 (JP.refl HH hn0') hsl1 ⟨⟨fid,true,none,[D]⟩,fun _=>rfl⟩ [D] [] cs ⟨[],rfl,List.nodup_nil,fun r hr=>by cases hr⟩
 obtain⟨hc,hne,h2,rfl⟩:=Zg1 hk
 rw[hcx]at hA
 have hret:∃todo,Steps (p ()) (some ch) (ZE (mkF ⟨fid,true,none,[D]⟩ t1 [D] ([.code x1]++[])) cs R.w) (ZE {mkF ⟨fid,true,none,[D]⟩ t' ds' todo with mode:=.returning} cs R'.w):=by
  cases e with
  |exit id=>exact absurd rfl (hne id)
  |normal=>exact⟨[],Steps.trans hA (.one (Zom rfl))⟩
  |ret=>
   obtain⟨todo,hA⟩:=hA
   exact⟨.code .ret::todo,Steps.trans hA (.one (Zoj rfl))⟩
 obtain⟨todo,hst⟩:=hret
 obtain⟨rs,rfl,hnd,hrs⟩:=hd
 obtain⟨R2,hi2,hle2,hst2⟩:=Zcu (P:=p ()) (b:=⟨fid,true,none,[D]⟩) (base:=[D]) (t:=t') (todo:=todo) (cs:=cs) rs R' hnd hi hrs
 have hcx2:R'.cx=some ch:=hi.le.cx.trans hcx
 rw[hcx2]at hst2
 obtain⟨ob,hob,_,hq,_,sN,rN,tmN,rfl⟩:=hi2.hr.blk 0 _ rfl
 have hα:(R2.α 0).b=(R.α 0).b:=by
  have:R2.α 0=R.α 0:=hi2.le.α 0 (by rw[←HH.len];exact Nat.zero_lt_one)
  rw[this]
 refine⟨t',todo,R2.w,sN,rN,tmN,ts,o.type, #[false],?_,?_,fun b hb hne=>?_,hi2.ext.size,hi2.ext.os,hi2.ext.tape,hi2.ext.output⟩
 ·rw[hfr]
  exact S0.trans (.head S1 (.head S2 (hst.trans hst2)))
 ·rw[←hq]
  exact hob
 ·refine hi2.ext.frame b hb fun id blk hid hp=>?_
  cases id with
  |zero=>
   cases hid
   have hp:(R.α 0).b=b:=hp
   rw[←hα,hq]at hp
   exact hne hp.symm
  |succ id=>simp at hid
attribute [local irreducible] Dn
open Go Go.Proofs Sp
set_option maxRecDepth 100000
set_option maxHeartbeats 4000000
def Zcp (t:Ze) (f r st:Int):Nat→List Bool
 |0=>[]
 |i+1=>Zcp t f r st i++[Yr t f r st i]
theorem Zvf (t:Ze) (f r st:Int) (hw:ZJ t) (hc:Zac t f r st):KC Tryz.prog 151 (fun ch=>.iptr [.cch ch] 0::[X0 t,.iptr [.int .i64 fun _=>f,.int .i64 fun _=>ZA (Sp.Zj (callsOf t) f) st] 0,.iptr [.int .i64 fun _=>r,.int .i64 fun _=>Zr (Sp.Zj (callsOf t) r) st] 0]) (Zcp t f r st (Z7 t)):=by
 obtain⟨nt,hnt⟩:=Zu
 have k382:=Zrp t
 have k435:=fun B0 B1 B2 B3 B4 B5 stop=>Zrn t hw B0 B1 B2 B3 B4 B5 stop
 have hl1:=fun x=> @Zar t x _ _ hc.1
 have hl2:=fun x=> @Zar t x _ _ hc.2
 have hkb:∀i,Yr t f r st i=decide ((ZU t (Zm t i) f (ZA (Sp.Zj (callsOf t) f) st)).comes≤(ZU t (Zm t i) r (Zr (Sp.Zj (callsOf t) r) st)).goes):=fun _=>rfl
 have hL0:Zcp t f r st 0=[]:=rfl
 have hLS:∀i,Zcp t f r st (i+1)=Zcp t f r st i++[Yr t f r st i]:=fun _=>rfl
 generalize Zcp t f r st=KL at*
 generalize Yr t f r st=KB at*
 generalize ZA (Sp.Zj (callsOf t) f) st=fo at*
 generalize Zr (Sp.Zj (callsOf t) r) st=to at*
 generalize ZU t=HH at*
 generalize Zm t=TA at*
 generalize Ql t=HL at*
 refine Zpo (p:=fun _=>Tryz.prog) (dr:=.both) (B:=4) Tryz.func151 (show Tryz.f151.body=_ from rfl) rfl ⟨_,rfl,rfl,rfl,rfl⟩ ⟨_,rfl,rfl,rfl,rfl⟩ (by kernel_rfl) (by decide) fun ch=>?_
 unfold X0 ZX at*
 simp only[Za hnt,Zb,ZB]at*
 refine Zej false false [] [] false ?_
 refine wS ?_
 refine ZY (k382) (by first|rfl|(simp only[Zd,Zc,Zf,Zb,Za hnt];rfl)) fun r h₂ hp=>?_
 (try simp only[Zd,Zc,Zf,Zb,Za hnt]at hp)
 obtain⟨rfl,rfl⟩:=hp
 refine wS ?_
 refine Zfe [0,2,3,8] [.tok 1 fun _=>0,.tok 1 fun _=>0,.tok 1 fun _=>0,.tok 1 fun _=>0] [(0,.gob (.chq ch fun _=>KL 0))] (fid:=135) (first:=[]) ?_ rfl ?_ ?_
 ·rw[hL0]
  (refine To.of [(1,false),(1,false),(1,false),(1,false)] ?_;cbv;(try simp only[nc]);(repeat' (first|exact trivial|exact ZH.refl _|exact ZR.refl _|refine⟨?_,?_⟩|refine ZR.cells ?_|refine ZH.agg ?_|refine ZH.tup ?_));(all_goals (first|exact XZ|skip)))
 ·exact XL
 refine SC.mono (k435 (fun i=>.gob (.chq ch fun _=>KL i)) (fun _=>_) (fun _=>_) (fun _=>_) (fun _=>_) (fun _=>_) (fun _=>false) ?_ ?_ ?_ ?_ ?_ ?_ ?_) ?_
 iterate 6 exact fun i=>Qy.of rfl
 ·intro i hi hno
  have e1:(((HL (TA i)).lookup [f,fo]).getD []).headD 0=(HH (TA i) f fo).comes:=by rw[hl1];rfl
  have e2:(((HL (TA i)).lookup [r,to]).getD []).tail.tail.headD 0=(HH (TA i) r to).goes:=by rw[hl2];rfl
  refine YC.less (Zct false false [] rfl rfl ?_)
  refine wS ?_
  simp only[e1,e2,←hkb,←hLS]
  refine⟨.bool fun _=>true,_,?_,rfl,rfl⟩
  exact ZK
 ·intro v h hh
  obtain⟨m,hm,rfl⟩:=hh
  have hmN:m=Z7 t:=by
   rcases hm with h|⟨_,_,_,h,_⟩
   ·exact h.1
   ·cases h
  subst hmN
  refine wS ?_
  exact⟨_,rfl⟩
theorem Zln {o:Option TypeInfo} {n:Nat} {z:Option Value} (h:o.map (fun i=>(i.size,i.zero))=some (n,z)):∃i,o=some i∧i.size=n∧i.zero=z:=by
 cases o with
 |none=>cases h
 |some i=>
  have h:some (i.size,i.zero)=some (n,z):=h
  simp only[Option.some.injEq,Prod.mk.injEq]at h
  exact⟨i,rfl,h.1,h.2⟩
theorem ZfT (w v:Bool):∀(l:List Bool) (n:Int),cnt w (l++[v]) n=if v=w then IntKind.i64.wrap (cnt w l n+1)else cnt w l n
 |[],_=>rfl
 |x::l,n=>ZfT w v l _
theorem ZeS {x:Int} (h:0≤x∧x<1000000):IntKind.i64.wrap x=x:=Zbi x ⟨by omega,by omega⟩
theorem Zlg {ds:List Qj} (h:∀d∈ds,d.by_.length≤3):∀m,m≤ds.length→YB ds m≤3^ m
 |0,_=>Nat.le_refl _
 |m+1,hm=>by
  unfold YB
  rw[Nat.pow_succ]
  refine Nat.mul_le_mul (Zlg h m (by omega)) ?_
  unfold lenAt
  rw[List.getD_eq_getElem?_getD,List.getElem?_eq_getElem hm]
  exact h _ (List.getElem_mem hm)
theorem Zq0 {t:Ze} (hw:ZJ t):Z7 t≤729:=by
 have h:=Zlg (fun d hd=>(hw.d d hd).2.1) t.delays.length (Nat.le_refl _)
 have h2:3^ t.delays.length≤3^ 6:=Nat.pow_le_pow_right (by omega) hw.dlen
 exact Nat.le_trans h (Nat.le_trans h2 (by decide))
theorem ZfQ (p:Nat→Bool):∀n,0≤Q4 p n∧Q4 p n≤n
 |0=>⟨Int.le_refl _,Int.le_refl _⟩
 |n+1=>by
  have:=ZfQ p n
  unfold Q4
  split<;>omega
theorem Zpm (t:Ze) (f r st:Int):∀n,n≤729→cnt true (Zcp t f r st n) 0=Q4 (Yr t f r st) n∧cnt false (Zcp t f r st n) 0=Q4 (fun i=> !Yr t f r st i) n
 |0,_=>⟨rfl,rfl⟩
 |n+1,h=>by
  have ih:=Zpm t f r st n (by omega)
  have b1:=ZfQ (Yr t f r st) n
  have b2:=ZfQ (fun i=> !Yr t f r st i) n
  unfold Zcp
  rw[ZfT,ZfT,ih.1,ih.2,ZeS (by omega),ZeS (by omega)]
  have e1:∀p,Q4 p (n+1)=if p n then Q4 p n+1 else Q4 p n:=fun _=>rfl
  rw[e1,e1]
  cases Yr t f r st n<;>exact⟨rfl,rfl⟩
theorem ZuI (t : Ze) (f r st : Int) (hw : ZJ t) (hc : Zac t f r st) : SC (fun _ => Tryz.prog) 97 [.iptr (ZX t) 0, .int .i64 fun _ => f, .int .i64 fun _ => r, .int .i64 fun _ => st] [.main] fun v h => v = .int .i64 (fun _ => Jl t f r st) ∧ h = [.main] := by
  obtain ⟨nt, hnt⟩ := Zu
  have h1 := hc.1
  have h2 := hc.2
  have hro1 := (Jw hw.calls h1).2.2
  have hro2 := (Jw hw.calls h2).2.2
  unfold StopIn at h1 h2
  rw [Xm hnt] at h1 h2 hro1 hro2
  have k395 := Zro (nt (List Sp.Call) [] (callsOf t) f) st (by omega)
  have k396 := Ztk (nt (List Sp.Call) [] (callsOf t) r) st (by omega)
  have hcl := hw.calls.len
  have kc := Zvf t f r st hw hc
  obtain ⟨hy, hn⟩ := Zpm t f r st (Z7 t) (Zq0 hw)
  have hV : Jl t f r st = ZcJ (Q4 (Yr t f r st) (Z7 t)) (Q4 (fun i => !Yr t f r st i) (Z7 t)) := rfl
  have k416 := ZvB (Q4 (Yr t f r st) (Z7 t)) (Q4 (fun i => !Yr t f r st i) (Z7 t))
  rw [← hV] at k416
  rw [Xm hnt, Xm hnt] at kc
  generalize Jl t f r st = V at *
  generalize Q4 (Yr t f r st) (Z7 t) = CY at *
  generalize Q4 (fun i => !Yr t f r st i) (Z7 t) = CN at *
  generalize Zcp t f r st (Z7 t) = KL at *
  unfold X0 at kc
  unfold ZX at *
  simp only [Za hnt, Zb, ZB] at *
  generalize ZA (nt (List Sp.Call) [] (callsOf t) f) st = fo at *
  generalize Zr (nt (List Sp.Call) [] (callsOf t) r) st = to at *
  refine SC.less (Zte false false [] [2] false 1 Tryz.func97 (body := Zk Tryz.f97) rfl (by decide +kernel) rfl ?_)
  refine vS ?_
  repeat' first
    | (with_reducible refine Zig.mk ?_ ?_)
    | (with_reducible refine Chk.mk (Qd) ?_)
    | (refine ZY k395 (by first | rfl | (simp only [Zd, Zc, Zf, Zb, Za hnt]; rfl)) fun r h₂ hp => ?_
       obtain ⟨rfl, rfl⟩ := hp
       refine vS ?_)
    | (refine ZY k396 (by first | rfl | (simp only [Zd, Zc, Zf, Zb, Za hnt]; rfl)) fun r h₂ hp => ?_
       obtain ⟨rfl, rfl⟩ := hp
       refine vS ?_)
  all_goals
    refine Zq5 (p := fun _ => Tryz.prog) (dr := .both) (B := 4) ⟨rfl, rfl, rfl, rfl, rfl, rfl, rfl, rfl, rfl, ⟨_, rfl, rfl, rfl, rfl⟩, ⟨_, rfl, rfl, rfl, rfl⟩, ⟨_, rfl, rfl, rfl, rfl⟩, ⟨_, rfl, rfl, rfl, rfl⟩, ⟨_, rfl, rfl, rfl, rfl⟩, ⟨_, rfl, rfl, rfl, rfl⟩, ⟨_, rfl, rfl, rfl, rfl⟩, ⟨_, rfl, rfl, rfl, rfl⟩, ⟨_, rfl, rfl, rfl, rfl⟩, ⟨_, rfl, rfl, rfl, rfl⟩, ⟨_, rfl, rfl, rfl, rfl⟩, ⟨_, rfl, rfl, rfl, rfl⟩, ⟨_, rfl, rfl, rfl, rfl⟩, ⟨_, rfl, rfl, rfl, rfl⟩, ⟨_, rfl, rfl, rfl, rfl⟩, ⟨_, rfl, rfl, rfl, rfl⟩, ⟨_, rfl, rfl, rfl, rfl⟩, ⟨_, rfl, rfl, rfl, rfl⟩, ⟨_, rfl, rfl, rfl, rfl⟩⟩ (by kernel_rfl) (Zln (by kernel_rfl)) ((Zln (n := 1) (z := some (.bool false)) (by kernel_rfl)).imp fun i h => ⟨h.1, h.2.2⟩)
      Tryz.func151 rfl (by decide +kernel) rfl rfl rfl rfl rfl rfl kc ?_
    rw [hy, hn]
    refine Zej false false [] [] false ?_
    refine wS ?_
    refine ZY (k416) (by first | rfl | (simp only [Zd, Zc, Zf, Zb, Za hnt]; rfl)) fun r h₂ hp => ?_
    (try simp only [Zd, Zc, Zf, Zb, Za hnt] at hp)
    obtain ⟨rfl, rfl⟩ := hp
    refine wS ?_
    refine ⟨_, _, ?_, rfl, rfl⟩
    exact ZK
theorem PR.nilw {w:World} {ok:Nat→Nat→Nat→Prop} {s s':Nat} {m m':Unit→Int} {f f':(Unit→Int)→List AV} {v:Value} (h:PR w ok (.isl s m f .nil) v) (hm:m' ()=0):PR w ok (.isl s' m' f' .none) v:=by
 cases h with
 |isl0 _ _ _ _ hz h1=>exact .isl0 _ _ _ _ hm rfl
 |islE _ _ _ _ a hz h1=>exact .islE _ _ _ _ a hm (.inl rfl)
 |isl _ _ _ _ b o len cap us hn hc h1=>rcases h1 with h|h<;>cases h
theorem ZuO (m:Int):SC (fun _=>Tryz.prog) 69 [.int .i64 fun _=>m] [] fun v h=>v=Zf (Z9 m)∧h=[]:=by
 obtain⟨nt,hnt⟩:=Zu
 have k1:=ZkN 0 0 60
 have k2:=ZkN 1 100 110
 have k3:=ZkN 2 160 0
 have k4:=ZkN 1 0 120
 have k5:=ZkN 3 200 0
 have k6:=ZkN 1 0 180
 have k7:=ZkN 3 260 0
 refine SC.less (Qv Tryz.func69 (body:=Zk Tryz.f69) rfl (by decide+kernel) ?_)
 refine wS ?_
 refine Zpt (k1) ?_
 refine wS ?_
 refine Zpt (k2) ?_
 refine wS ?_
 refine Zpt (k3) ?_
 refine wS ?_
 refine Zpt (k4) ?_
 refine wS ?_
 refine Zpt (k5) ?_
 refine wS ?_
 refine Zpt (k6) ?_
 refine wS ?_
 refine Zpt (k7) ?_
 refine wS ?_
 refine⟨Zf (Z9 m),[],?_,rfl,rfl⟩
 unfold Zf
 simp only[Za hnt,encTrain,encZone,ZB]
 (refine To.of [] ?_;cbv;(try simp only[nc]);(repeat' (first|exact trivial|exact ZH.refl _|exact ZR.refl _|refine⟨?_,?_⟩|refine ZR.cells ?_|refine ZH.agg ?_|refine ZH.tup ?_));(all_goals (first|exact XZ|skip)))
 ·refine Zkn hnt (fun z:Sp.Zone=>[.int .i64 fun _=>z.base,.isl 2 (fun _=>(z.chs.length:Int)) (fun e=>JI (nt Chg default z.chs (e ()))) .none]) default [⟨0,[]⟩] _ ?_ fun i hi=>?_
  ·rfl
  match i,hi with
  |0,_=>exact Jb.two fun w ok v h=>h.nilw rfl
 ·refine Zkn hnt (fun t:Sp.Train=>[.int .i64 fun _=>t.number,.int .i64 fun _=>t.days,.isl 4 (fun _=>(t.stops.length:Int)) (fun e=>Qz (nt Stop default t.stops (e ()))) .none]) default (Z9 m).book.old _ ?_ fun i hi=>?_
  ·rfl
  match i,hi with
  |0,_=>
   refine Jb.three fun w ok v h=>h.wk rfl (fun j hj=>?_) (.inl rfl)
   match j,hj with
   |0,_=>(rw[hnt];rfl)
   |1,_=>(rw[hnt];rfl)
   |2,_=>(rw[hnt];rfl)
   |j+3,hj=>exact absurd hj (by show¬((j+3:Nat):Int)<3;omega)
  |1,_=>
   refine Jb.three fun w ok v h=>h.wk rfl (fun j hj=>?_) (.inl rfl)
   match j,hj with
   |0,_=>(rw[hnt];rfl)
   |1,_=>(rw[hnt];rfl)
   |j+2,hj=>exact absurd hj (by show¬((j+2:Nat):Int)<2;omega)
  |2,_=>
   refine Jb.three fun w ok v h=>h.wk rfl (fun j hj=>?_) (.inl rfl)
   match j,hj with
   |0,_=>(rw[hnt];rfl)
   |1,_=>(rw[hnt];rfl)
   |j+2,hj=>exact absurd hj (by show¬((j+2:Nat):Int)<2;omega)
 ·refine Zkn hnt (fun t:Sp.Qj=>[.int .i64 fun _=>t.run,.int .i64 fun _=>t.leg,.isl 1 (fun _=>(t.by_.length:Int)) (fun e=>XJ (nt Int 0 t.by_ (e ()))) .none]) default (Z9 m).delays _ ?_ fun i hi=>?_
  ·rfl
  match i,hi with
  |0,_=>
   refine Jb.three fun w ok v h=>h.wk rfl (fun j hj=>?_) (.inl rfl)
   match j,hj with
   |0,_=>(rw[hnt];rfl)
   |1,_=>(rw[hnt];rfl)
   |2,_=>(rw[hnt];rfl)
   |j+3,hj=>exact absurd hj (by show¬((j+3:Nat):Int)<3;omega)
theorem ZvL (l:List Sp.Za5) (hlen:l.length≤100000):SC (fun _=>Tryz.prog) 26 [lst 2 YL default l,lst 2 YL default l] [] fun v h=>v= .bool (fun _=>true)∧h=[]:=by
 obtain⟨nt,hnt⟩:=Zu
 refine Qv Tryz.func26 (body:=Zk Tryz.f26) rfl (by decide+kernel) ?_
 simp only[Za hnt]
 refine wS ?_
 refine Br.isF (by simp) ?_
 refine wS ?_
 refine ZS false false [] [0,1,5] [] (fun(i:Nat)=>[(5,.int .i64 fun _=>(i:Int))]) (fun _=>[]) (fun i=>i≤l.length) (fun i=>l.length-i+0) 0 (Nat.zero_le _) ?_ ?_
 ·exact ZK
 intro i hi
 refine wS ?_
 refine⟨fun hb=>?_,fun hb=>?_⟩
 ·simp only[decide_eq_true_eq]at hb
  refine wS ?_
  refine Br.isF (by simp) ?_
  refine wS ?_
  refine⟨i+1,by omega,by omega,?_⟩
  exact ZK
 ·(cbv;(try simp only[nc]at*);(try refine Chk.mk (Qd) ?_))
  (try first|exact⟨rfl,trivial⟩|exact⟨trivial,trivial⟩)
theorem Zbm (m:Int):Xj (Z9 m):=⟨⟨by show 1≤1000000;decide,by show 3≤1000000;decide,by show 0≤1000000;decide,fun z hz=>by simp only[Z9,List.mem_singleton]at hz;subst hz;decide,fun t ht=>by simp only[Z9,List.mem_cons,List.not_mem_nil,or_false]at ht;rcases ht with rfl|rfl|rfl<;>decide,fun t ht=>by cases ht⟩,by show 3≤1000000;decide,by show 1≤1000000;decide,by show 1≤1000000;decide,fun d hd=>by simp only[Z9,List.mem_singleton]at hd;subst hd;decide⟩
theorem ZuR:SC (fun _=>Tryz.prog) 17 [] [.main] fun v h=>v= .bool (fun _=>true)∧h=[.main]:=by
 obtain⟨nt,hnt⟩:=Zu
 have kt30:=ZuO 30
 have kt15:=ZuO 15
 have hw:∀t,Zl t=0→ZJ t:=fun t h=>QH h
 have k1:=ZuQ (Z9 30) 1 (Zbm 30) (hw _)
 have k2:=ZvN (Z9 15) 0 (Zbm 15) ZuI
 have k3:=ZvM (Z9 15) Zi2 (Zbm 15) (by decide) (hw _)
 have k4:=ZvP (Z9 30) 0 (Zbm 30)
 have k5:=ZvQ (Z9 15) Zmj 0 (Zbm 15) (by decide) (hw _)
 have hte:YA (Z9 30) 1=0:=by
  unfold YA
  rw[if_neg (fun h=>h Zs9.2)]
  rfl
 rw[hte,if_pos rfl,if_pos rfl,Zo6]at k1
 rw[Zmm]at k2
 rw[Zkx]at k3
 rw[Zo7.1]at k4
 rw[Zrd]at k5
 have kh:=ZuN
 have ki:=ZvK
 have ks:=ZvL [⟨120,140⟩,⟨200,220⟩] (by decide)
 have kz:=c39 [0,1] [0,1] (by decide)
 have kp1:=Ztm 200 260
 have kp2:=Ztm 120 140
 have kp3:=Ztm 200 220
 generalize ZcB (Z9 30) 1=C at*
 generalize Z9 30=T30 at*
 generalize Z9 15=T15 at*
 generalize Zi2=H1 at*
 generalize Zmj=H2 at*
 unfold Zf XV YL at*
 simp only[Za hnt,Zb,ZB,XR]at*
 refine SC.less (Qv Tryz.func17 (body:=Zk Tryz.f17) rfl (by decide+kernel) ?_)
 refine wS ?_
 refine Zpt (kt30) ?_
 refine wS ?_
 refine Zpt (k1) ?_
 refine wS ?_
 refine Zpt (kt15) ?_
 refine wS ?_
 refine cL1 [0] (k2) fun r h₂ hp=>?_
 (try simp only[Zd,Zc,Zf,Zb,Za hnt]at hp)
 obtain⟨rfl,rfl⟩:=hp
 refine wS ?_
 refine Zpt (kt15) ?_
 refine wS ?_
 refine Zpt (kh) ?_
 refine wS ?_
 refine Zpt (k3) ?_
 refine wS ?_
 refine Zpt (kt30) ?_
 refine wS ?_
 refine Zpt (k4) ?_
 refine wS ?_
 refine Zpt (kt15) ?_
 refine wS ?_
 refine Zpt (ki) ?_
 refine wS ?_
 refine Zpt (k5) ?_
 refine vS ?_
 refine Chk.mk (by simp only[nc,QW,QV,Q3,QU,Cn.p,beq_self_eq_true,cond_true,imp_self,and_true,true_and];(repeat' (first|apply And.intro|intro _))<;>first|rfl|trivial|exact Or.inl rfl|decide|decide+kernel|(simp;done)) ?_
 repeat (first
  |(with_reducible refine Br.isT rfl ?_;refine vS ?_)
  |(with_reducible refine Chk.mk (by simp only[nc,QW,QV,Q3,QU,Cn.p,beq_self_eq_true,cond_true,imp_self,and_true,true_and];(repeat' (first|apply And.intro|intro _))<;>first|rfl|trivial|exact Or.inl rfl|decide|decide+kernel|(simp;done)) ?_))
 refine Zpt (kp1) ?_
 refine vS ?_
 repeat (first
  |(with_reducible refine Br.isT rfl ?_;refine vS ?_)
  |(with_reducible refine Chk.mk (by simp only[nc,QW,QV,Q3,QU,Cn.p,beq_self_eq_true,cond_true,imp_self,and_true,true_and];(repeat' (first|apply And.intro|intro _))<;>first|rfl|trivial|exact Or.inl rfl|decide|decide+kernel|(simp;done)) ?_))
 refine Zpt (kp2) ?_
 refine vS ?_
 repeat (first
  |(with_reducible refine Br.isT rfl ?_;refine vS ?_)
  |(with_reducible refine Chk.mk (by simp only[nc,QW,QV,Q3,QU,Cn.p,beq_self_eq_true,cond_true,imp_self,and_true,true_and];(repeat' (first|apply And.intro|intro _))<;>first|rfl|trivial|exact Or.inl rfl|decide|decide+kernel|(simp;done)) ?_))
 refine Zpt (kp3) ?_
 refine vS ?_
 repeat (first
  |(with_reducible refine Br.isT rfl ?_;refine vS ?_)
  |(with_reducible refine Chk.mk (by simp only[nc,QW,QV,Q3,QU,Cn.p,beq_self_eq_true,cond_true,imp_self,and_true,true_and];(repeat' (first|apply And.intro|intro _))<;>first|rfl|trivial|exact Or.inl rfl|decide|decide+kernel|(simp;done)) ?_))
 refine Ji ks (by(refine To.of [] ?_;cbv;(try simp only[nc]);(repeat' (first|exact trivial|exact ZH.refl _|exact ZR.refl _|refine⟨?_,?_⟩|refine ZR.cells ?_|refine ZH.agg ?_|refine ZH.tup ?_));(all_goals (first|exact XZ|skip)));all_goals exact lit_nt hnt YL default _ _ rfl) (by first|rfl|(simp only[Zd,Zc,Zf,Zb,Za hnt];rfl)) fun r h₂ hp=>?_
 obtain⟨rfl,rfl⟩:=hp
 refine vS ?_
 repeat (first
  |(with_reducible refine Br.isT rfl ?_;refine vS ?_)
  |(with_reducible refine Chk.mk (by simp only[nc,QW,QV,Q3,QU,Cn.p,beq_self_eq_true,cond_true,imp_self,and_true,true_and];(repeat' (first|apply And.intro|intro _))<;>first|rfl|trivial|exact Or.inl rfl|decide|decide+kernel|(simp;done)) ?_))
 refine Ji (kz) (by(try simp only[Zd,Zc,Zf,Zb,Za hnt]);exact ZK) (by first|rfl|(simp only[Zd,Zc,Zf,Zb,Za hnt];rfl)) fun r h₂ hp=>?_
 (try simp only[Zd,Zc,Zf,Zb,Za hnt]at hp)
 obtain⟨rfl,rfl⟩:=hp
 refine vS ?_
 repeat (first
  |(with_reducible refine Br.isT rfl ?_;refine vS ?_)
  |(with_reducible refine Chk.mk (by simp only[nc,QW,QV,Q3,QU,Cn.p,beq_self_eq_true,cond_true,imp_self,and_true,true_and];(repeat' (first|apply And.intro|intro _))<;>first|rfl|trivial|exact Or.inl rfl|decide|decide+kernel|(simp;done)) ?_))
 refine⟨.bool fun _=>true,[.main],?_,rfl,rfl⟩
 (refine To.of [] ?_;cbv;(try simp only[nc]);(repeat' (first|exact trivial|exact ZH.refl _|exact ZR.refl _|refine⟨?_,?_⟩|refine ZR.cells ?_|refine ZH.agg ?_|refine ZH.tup ?_));(all_goals (first|exact XZ|skip)))
 all_goals exact .bool rfl
end Go.Proofs.YtjgpiclllehgmaaGreat.Vm
namespace Go.Proofs.YtjgpiclllehgmaaGreat.Vm
open Go Go.Proofs Sp
set_option maxRecDepth 100000
set_option maxHeartbeats 1600000
set_option maxHeartbeats 8000000
theorem ZeG {t:Ze} (h:Zl t=0):Xj t:=by
 have hw:=QH h
 obtain⟨h1,h2,h3,h4,h5,h6⟩:=JW h
 have hc:=Zb8 h1
 have hr:=hw.calls.len
 have hl:(callsOf t).length=t.runs.length:=by unfold callsOf;rw[List.length_map]
 exact⟨⟨by have:=hc.zlen;omega,by have:=hc.olen;omega,by have:=hc.nlen;omega,fun z hz=>by have:=(ZbN (hc.zones z hz)).2.2.1;omega,⟨fun t ht=>by have:=(hc.old t ht).len;omega,fun t ht=>by have:=(hc.new t ht).len;omega⟩⟩,by omega,by omega,by omega,fun d hd=>by have:=(hw.d d hd).2.1;omega⟩
attribute [local irreducible] Dn
theorem ZuU {f:FuncId} {xs ys:List AV} {h:List Zi} {Post Q:AV→List Zi→Prop} {B:Prop} (H:SC (fun _=>Tryz.prog) f ys [] Q) (k:B) (t:SC (fun _=>Tryz.prog) f ys [] Q→HdW B→SC (fun _=>Tryz.prog) f xs h Post:=by intro hH hW;refine ZY hH (by first|rfl|(simp only[Zd,Zc,Zf,Zb,ZI,Zh,Za hnt];rfl)) fun r h₂ hp=>?_;(try simp only[Zd,Zc,Zf,Zb,ZI,Zh,Za hnt]at hp);obtain⟨rfl,rfl⟩:=hp;exact hW.out):SC (fun _=>Tryz.prog) f xs h Post:=t H ⟨k⟩
theorem Zlc {nt:(α:Type)→α→List α→Int→α} (hnt:∀(α:Type) (d:α) (l:List α) (i:Int),nt α d l i=l.getD i.toNat d) {t:Ze} (hm:Zay t) {i:Nat} (hi:i<t.runs.length):
  JX t.book (nt Sp.Qi default t.runs i).number (nt Sp.Qi default t.runs i).day=(nt (List Sp.Call) [] (callsOf t) i,0)∧(2≤(nt (List Sp.Call) [] (callsOf t) i).length∧(nt (List Sp.Call) [] (callsOf t) i).length≤4)∧
  (∀k:Nat,k+1<(nt (List Sp.Call) [] (callsOf t) i).length→(nt Sp.Call default (nt (List Sp.Call) [] (callsOf t) i) (((k+1:Nat):Int)-1)).depart<(nt Sp.Call default (nt (List Sp.Call) [] (callsOf t) i) ((k+1:Nat):Int)).arrive∧(nt Sp.Call default (nt (List Sp.Call) [] (callsOf t) i) ((k+1:Nat):Int)).arrive≤(nt Sp.Call default (nt (List Sp.Call) [] (callsOf t) i) ((k+1:Nat):Int)).depart)∧
  J2 t.book.old (nt Sp.Qi default t.runs i).number (nt (List Sp.Call) [] (callsOf t) i)=true:=by
 have h:=ZsZ hm.begin hi
 have h2:=ZlZ hm hi
 have e1:nt Sp.Qi default t.runs (i:Int)=t.runs.getD i default:=(XX hnt _ _ _).symm
 have e2:nt (List Sp.Call) [] (callsOf t) (i:Int)=(callsOf t).getD i []:=(XX hnt _ _ _).symm
 rw[e1,e2]
 refine⟨h.run,h.len,fun k hk=>?_,h2⟩
 have h3:=h.asc (k+1) (by omega) hk
 rw[hnt,hnt,Int.toNat_natCast,show(((k+1:Nat):Int)-1).toNat=k by omega]
 exact h3
theorem ZvS (t:Ze) (hm:Zay t):SC (fun _=>Tryz.prog) 28 [Zf t] [] fun v h=>v= .tup [lst 1 Zb [] (callsOf t),.bool fun _=>true]∧h=[]:=by
 obtain⟨nt,hnt⟩:=Zu
 have he:=hm.begin
 have hf:=ZeG he
 have hrow:=fun(i:Nat) (hi:i<t.runs.length)=>Zlc hnt hm hi
 have hcl:=Yx t
 have hrl:=hf.runs
 have hwl:=hf.waits
 have hdl:=hf.delays
 have hwt:=fun w hw=>Zhi (t:=t) hm (w:=w) hw
 have hdt:∀d∈t.delays,(0≤d.run∧d.run<t.runs.length)∧d.leg+2≤(nt (List Sp.Call) [] (callsOf t) d.run).length:=fun d hd=>by
  obtain⟨k,hk,rfl⟩:=Y6 (d:=default) hd
  have h:=Zpf he hk
  have h1:=h.run
  have h2:=h.leg.2
  rw[hcl]at h1
  rw[Xm hnt]at h2
  exact⟨h1,h2⟩
 have hwt:∀w∈t.waits,((0≤w.feeder∧w.feeder<t.runs.length)∧(0≤w.train∧w.train<t.runs.length))∧(1≤Zo (nt (List Sp.Call) [] (callsOf t) w.feeder) 0 w.station∧Zo (nt (List Sp.Call) [] (callsOf t) w.feeder) 0 w.station<(nt (List Sp.Call) [] (callsOf t) w.feeder).length)∧(0≤Zo (nt (List Sp.Call) [] (callsOf t) w.train) 0 w.station∧Zo (nt (List Sp.Call) [] (callsOf t) w.train) 0 w.station<(nt (List Sp.Call) [] (callsOf t) w.train).length)∧
   (nt Sp.Call default (nt (List Sp.Call) [] (callsOf t) w.feeder) (Zo (nt (List Sp.Call) [] (callsOf t) w.feeder) 0 w.station)).arrive≤(nt Sp.Call default (nt (List Sp.Call) [] (callsOf t) w.train) (Zo (nt (List Sp.Call) [] (callsOf t) w.train) 0 w.station)).depart:=fun w hw=>by
  have h:=hwt w hw
  have h5:=h.le
  rw[←h.a,←h.b]at h5
  rw[Zb7 hnt,Zb7 hnt,Xm hnt,Xm hnt]at h5
  have ha:=h.a
  have hb:=h.b
  have hca:=h.ca
  have hgb:=h.gb
  rw[Xm hnt]at ha hb hca hgb
  refine⟨h.runs,by omega,by omega,h5⟩
 have k26:=fun(i:Nat)=>c26 t.book (nt Sp.Qi default t.runs i).number (nt Sp.Qi default t.runs i).day hf.book
 have k394:=fun(i:Nat) (h:(nt (List Sp.Call) [] (callsOf t) i).length≤1000000)=>ZvH t.book.old (nt Sp.Qi default t.runs i).number (nt (List Sp.Call) [] (callsOf t) i) hf.book.old hf.book.stops.1 h
 have k349:=fun(r st:Int) h (hl:(Sp.Zj (callsOf t) r).length≤1000000)=>ZuP (callsOf t) [] [] r st h hl
 simp only[Xm hnt]at k349
 have hlen4:∀r:Int,0≤r→r<(callsOf t).length→(nt (List Sp.Call) [] (callsOf t) r).length≤1000000:=fun r h0 h1=>by
  have h:=(hrow r.toNat (by omega)).2.1.2
  rw[show((r.toNat:Nat):Int)=r by omega]at h
  omega
 generalize callsOf t=c at*
 unfold Zf Zc Zhh at*
 simp only[Za hnt,Zb,ZI]at*
 refine SC.less (Qv Tryz.func28 (body:=Zk Tryz.f28) rfl (by decide+kernel) ?_)
 refine wS ?_
 refine ZS false false [] [1,4,5] [.tok 1 fun _=>0] (fun(i:Nat)=>[(4,.isl 1 (fun _=>((c.take i).length:Int)) (fun e=>[.isl 3 (fun _=>((nt (List Sp.Call) [] (c.take i) (e ())).length:Int)) (fun e'=>Q1 (nt Sp.Call default (nt (List Sp.Call) [] (c.take i) (e ())) (e' ()))) .none]) (.own 1)),(5,.int .i64 fun _=>(i:Int))])
  (fun i=>[(1,.tok 1 fun _=>((c.take i).length:Int))]) (fun i=>i≤t.runs.length) (fun i=>t.runs.length-i+0) 0 (Nat.zero_le _) ?_ ?_
 ·(refine To.of [(1,false)] ?_;cbv;(try simp only[nc]);(repeat' (first|exact trivial|exact ZH.refl _|exact ZR.refl _|refine⟨?_,?_⟩|refine ZR.cells ?_|refine ZH.agg ?_|refine ZH.tup ?_));(all_goals (first|exact XZ|skip)))
 intro i hi
 have hi:i≤t.runs.length:=hi
 refine wS ?_
 refine⟨fun hb=>?_,fun hb=>?_⟩
 ·simp only[decide_eq_true_eq]at hb
  have hr:=hrow i (by omega)
  have k26:=k26 i
  have k394:=k394 i (by omega)
  rw[hr.1]at k26
  rw[hr.2.2.2]at k394
  have hasc:=hr.2.2.1
  have hlen:=hr.2.1
  have htk:=ZcT (d:=[]) hnt (l:=c) (i:=i) (by omega)
  have hti:(c.take i).length=i:=by rw[List.length_take];omega
  clear hr hrow hwt hdt k349
  refine wS ?_
  refine ZuU (k26) ?_
  generalize nt (List Sp.Call) [] c (i:Int)=C at*
  refine wS ?_
  refine Br.isF (by simp;omega) ?_
  refine wS ?_
  refine Zaq fun Q hQ=>?_
  refine ZS false false [] [1,4,5,6,8] [] (fun(j:Nat)=>[(8,.int .i64 fun _=>((j+1:Nat):Int))]) (fun _=>[]) (fun j=>j+1≤C.length) (fun j=>C.length-(j+1)+0) 0 (by omega) ?_ ?_
  ·exact ZK
  intro j hj
  have hj:j+1≤C.length:=hj
  refine wS ?_
  refine⟨fun hb2=>?_,fun hb2=>?_⟩
  ·simp only[decide_eq_true_eq]at hb2
   have ha:=hasc j (by omega)
   refine wS ?_
   refine Br.isF (by
    show(bif decide ((nt Sp.Call default C ((j+1:Nat):Int)).arrive≤(nt Sp.Call default C (((j+1:Nat):Int)-1)).depart)then true else decide ((nt Sp.Call default C ((j+1:Nat):Int)).depart<(nt Sp.Call default C ((j+1:Nat):Int)).arrive))=false
    rw[decide_eq_false (by omega),decide_eq_false (by omega)];rfl) ?_
   refine wS ?_
   refine⟨j+1,by show j+1+1≤_;omega,by show C.length-(j+1+1)+0<C.length-(j+1)+0;omega,?_⟩
   exact ZK
  ·simp only[decide_eq_false_iff_not]at hb2
   refine wS ?_
   refine hQ _ _ _ ?_
   refine wS ?_
   refine ZuU (k394) ?_
   refine wS ?_
   refine Br.isF rfl ?_
   refine wS ?_
   refine⟨i+1,by show i+1≤_;omega,by show t.runs.length-(i+1)+0<t.runs.length-i+0;omega,?_⟩
   rw[htk]
   refine JO ?_
   exact ZH.snoc (enc:=fun r:List Sp.Call=>[AV.isl 3 (fun _=>(r.length:Int)) (fun e'=>Q1 (nt Sp.Call default r (e' ()))) .none]) (d:=[]) (x:=C) (l:=c.take i) hnt rfl (by simp) rfl
 ·simp only[decide_eq_false_iff_not]at hb
  have hie:i=t.runs.length:=by omega
  rw[hie,←hcl,List.take_length]
  clear k26 k394 hrow
  refine wS ?_
  refine ZS false false [] [1,4,9] [] (fun(i:Nat)=>[(4,.isl 1 (fun _=>(c.length:Int)) (fun e=>[.isl 3 (fun _=>((nt (List Sp.Call) [] c (e ())).length:Int)) (fun e'=>Q1 (nt Sp.Call default (nt (List Sp.Call) [] c (e ())) (e' ()))) .none]) .none),(9,.int .i64 fun _=>(i:Int))]) (fun _=>[]) (fun i=>i≤t.waits.length) (fun i=>t.waits.length-i+0) 0 (Nat.zero_le _) ?_ ?_
  ·refine JO ?_
   exact ZH.none rfl fun _ _=>rfl
  intro i hi
  have hi:i≤t.waits.length:=hi
  refine wS ?_
  refine⟨fun hb=>?_,fun hb=>?_⟩
  ·simp only[decide_eq_true_eq]at hb
   have hw:=hwt _ (QQ (d:=default) hnt (l:=t.waits) (i:=i) (by omega))
   have hf1:0≤(nt Sp.ZM default t.waits (i:Int)).feeder∧(nt Sp.ZM default t.waits (i:Int)).feeder<c.length:=by omega
   have ht1:0≤(nt Sp.ZM default t.waits (i:Int)).train∧(nt Sp.ZM default t.waits (i:Int)).train<c.length:=by omega
   have ka:=k349 (nt Sp.ZM default t.waits (i:Int)).feeder (nt Sp.ZM default t.waits (i:Int)).station hf1 (hlen4 _ hf1.1 hf1.2)
   have kb:=k349 (nt Sp.ZM default t.waits (i:Int)).train (nt Sp.ZM default t.waits (i:Int)).station ht1 (hlen4 _ ht1.1 ht1.2)
   generalize hA:Zo (nt (List Sp.Call) [] c (nt Sp.ZM default t.waits (i:Int)).feeder) 0 (nt Sp.ZM default t.waits (i:Int)).station=A at*
   generalize hB:Zo (nt (List Sp.Call) [] c (nt Sp.ZM default t.waits (i:Int)).train) 0 (nt Sp.ZM default t.waits (i:Int)).station=B at*
   refine wS ?_
   refine Ji (ka) (by(try simp only[Zd,Zc,Zf,Zb,ZI,Zh,Za hnt]);exact ZK) (by first|rfl|(simp only[Zd,Zc,Zf,Zb,ZI,Zh,Za hnt];rfl)) fun r h₂ hp=>?_
   (try simp only[Zd,Zc,Zf,Zb,ZI,Zh,Za hnt]at hp)
   obtain⟨rfl,rfl⟩:=hp
   refine wS ?_
   refine Ji (kb) (by(try simp only[Zd,Zc,Zf,Zb,ZI,Zh,Za hnt]);exact ZK) (by first|rfl|(simp only[Zd,Zc,Zf,Zb,ZI,Zh,Za hnt];rfl)) fun r h₂ hp=>?_
   (try simp only[Zd,Zc,Zf,Zb,ZI,Zh,Za hnt]at hp)
   obtain⟨rfl,rfl⟩:=hp
   have hx1:decide (A<1)=false:=decide_eq_false (by omega)
   have hx2:decide (B<0)=false:=decide_eq_false (by omega)
   have hx3:decide ((nt Sp.Call default (nt (List Sp.Call) [] c (nt Sp.ZM default t.waits (i:Int)).train) B).depart<(nt Sp.Call default (nt (List Sp.Call) [] c (nt Sp.ZM default t.waits (i:Int)).feeder) A).arrive)=false:=decide_eq_false (by omega)
   refine vS ?_
   refine Chk.mk (by simp only[nc,QW,QV,Q3,QU,Cn.p,and_true,true_and,imp_self,hx1,hx2,cond_false,cond_true,Bool.not_false,Bool.not_true,decide_eq_true_eq];(repeat' (first|apply And.intro|intro _))<;>first|omega|rfl|trivial|assumption|decide+kernel|(simp[*];done)) ?_
   refine Br.isF (by simp only[hx1,hx2,hx3,cond_false,cond_true,Bool.not_true]) ?_
   refine wS ?_
   refine⟨i+1,by show i+1≤_;omega,by show t.waits.length-(i+1)+0<t.waits.length-i+0;omega,?_⟩
   exact ZK
  ·simp only[decide_eq_false_iff_not]at hb
   clear k349 hwt
   refine wS ?_
   refine ZS false false [] [1,4,13] [] (fun(i:Nat)=>[(13,.int .i64 fun _=>(i:Int))]) (fun _=>[]) (fun i=>i≤t.delays.length) (fun i=>t.delays.length-i+0) 0 (Nat.zero_le _) ?_ ?_
   ·exact ZK
   intro i hi
   have hi:i≤t.delays.length:=hi
   refine wS ?_
   refine⟨fun hb=>?_,fun hb=>?_⟩
   ·simp only[decide_eq_true_eq]at hb
    have hd:=hdt _ (QQ (d:=default) hnt (l:=t.delays) (i:=i) (by omega))
    have hl4:=hlen4 _ hd.1.1 (by omega)
    refine wS ?_
    refine Br.isF (decide_eq_false (by omega)) ?_
    refine wS ?_
    refine⟨i+1,by show i+1≤_;omega,by show t.delays.length-(i+1)+0<t.delays.length-i+0;omega,?_⟩
    exact ZK
   ·refine wS ?_
    refine⟨_,_,?_,rfl,rfl⟩
    exact ZK
end Go.Proofs.YtjgpiclllehgmaaGreat.Vm
namespace Go.Proofs.YtjgpiclllehgmaaGreat.Sp
open Vm
def Zdf (t:Ze) (f r st:Int):Int×Int:=
 if Zl t≠0 then(0,Zl t)else if Qs f 0 ((t.runs.length:Int)-1)=true then(0,3)else if Qs r 0 ((t.runs.length:Int)-1)=true then(0,3)
 else if ZA (Zj (callsOf t) f) st<0 then(0,3)else if Zr (Zj (callsOf t) r) st<0 then(0,3)else(Jl t f r st,0)
theorem Zrl {t:Ze} {f r st:Int} (hf:0≤f∧f<(callsOf t).length) (hr:0≤r∧r<(callsOf t).length) (h1:¬ZA (Zj (callsOf t) f) st<0) (h2:¬Zr (Zj (callsOf t) r) st<0):Zac t f r st:=by
 have s1:=XF (Zj (callsOf t) f) 1 st
 have s2:=XF (Zj (callsOf t) r) 0 st
 refine⟨⟨hf.1,hf.2,by omega,by unfold ZA;omega⟩,⟨hr.1,hr.2,by omega,?_⟩⟩
 unfold Zr at*
 split<;>omega
theorem ZoU {t:Ze} (he:Zl t=0) {f r st:Int} (h:Zac t f r st):Zdf t f r st=(Jl t f r st,0):=by
 have hl:(callsOf t).length=t.runs.length:=by unfold callsOf;rw[List.length_map]
 have o:∀q:Int,0≤q→q<(callsOf t).length→Qs q 0 ((t.runs.length:Int)-1)=false:=fun q g1 g2=>by
  unfold Qs Yz
  simp only[Bool.not_eq_false',Bool.and_eq_true,decide_eq_true_eq]
  omega
 unfold Zdf
 rw[if_neg (fun hn=>hn he),o _ h.1.1 h.1.2.1,if_neg Bool.false_ne_true,o _ h.2.1 h.2.2.1,if_neg Bool.false_ne_true,if_neg (by have:=h.1.2.2.1;omega),if_neg (by have:=h.2.2.2.1;omega)]
end Go.Proofs.YtjgpiclllehgmaaGreat.Sp
namespace Go.Proofs.YtjgpiclllehgmaaGreat.Vm
attribute [local irreducible] Dn
open Go Go.Proofs Sp
set_option maxRecDepth 100000
set_option maxHeartbeats 4000000
theorem ZvR (t:Ze) (f r st:Int) (hf:Xj t) (hw:Zl t=0→ZJ t):SC (fun _=>Tryz.prog) 30 [Zf t,.int .i64 fun _=>f,.int .i64 fun _=>r,.int .i64 fun _=>st] [.main] fun v h=>v= .tup [.int .i64 fun _=>(Zdf t f r st).1,.int .i64 fun _=>(Zdf t f r st).2]∧h=[.main]:=by
 obtain⟨nt,hnt⟩:=Zu
 have k:=Zpr t hf
 by_cases hb:Zl t=0
 ·have hw:=hw hb
  have hrl:=hf.runs
  have hlen:(callsOf t).length=t.runs.length:=by unfold callsOf;rw[List.length_map]
  have k1:=ZbL f 0 ((t.runs.length:Int)-1)
  have k2:=ZbL r 0 ((t.runs.length:Int)-1)
  have hE:Zdf t f r st=if Qs f 0 ((t.runs.length:Int)-1)=true then(0,3)else if Qs r 0 ((t.runs.length:Int)-1)=true then(0,3)else if ZA (Sp.Zj (callsOf t) f) st<0 then(0,3)else if Zr (Sp.Zj (callsOf t) r) st<0 then(0,3)else(Jl t f r st,0):=by
   unfold Zdf
   rw[if_neg (fun hn=>hn hb)]
  have hci:=fun a b c d=>ZuI t f r st hw (Zrl (t:=t) (f:=f) (r:=r) (st:=st) a b c d)
  have hmem:∀i:Int,Qs i 0 ((t.runs.length:Int)-1)=false→(0≤i∧i<(callsOf t).length)∧(Sp.Zj (callsOf t) i).length≤4:=fun i h=>by
   have b:=QO h
   refine⟨by omega,(hw.calls.row _ ?_).2⟩
   unfold Sp.Zj
   rw[List.getD_eq_getElem?_getD,List.getElem?_eq_getElem (by omega)]
   exact List.getElem_mem _
  have m1:=hmem f
  have m2:=hmem r
  rw[Xm hnt]at m1 m2
  rw[Xm hnt]at hci hE
  rw[Xm hnt]at hci hE
  have k395:=fun h=>Zro (nt (List Sp.Call) [] (callsOf t) f) st h
  have k396:=fun h=>Ztk (nt (List Sp.Call) [] (callsOf t) r) st h
  clear hmem
  unfold QD at k
  rw[if_pos hb,hb]at k
  unfold ZX Zf at*
  simp only[Za hnt,Zb,ZB]at*
  generalize Zdf t f r st=KR at*
  generalize Qs f 0 ((t.runs.length:Int)-1)=b1 at*
  generalize Qs r 0 ((t.runs.length:Int)-1)=b2 at*
  generalize ZA (nt (List Sp.Call) [] (callsOf t) f) st=C at*
  generalize Zr (nt (List Sp.Call) [] (callsOf t) r) st=D at*
  generalize Jl t f r st=V at*
  refine SC.less (Qv Tryz.func30 (body:=Zk Tryz.f30) rfl (by decide+kernel) ?_)
  refine wS ?_
  refine Zpt (k) ?_
  refine wS ?_
  refine Br.isF rfl ?_
  refine wS ?_
  refine Zpt (k1) ?_
  refine wS ?_
  cases b1
  case true=>
   rw[if_pos rfl]at hE
   subst hE
   refine Br.isF rfl ?_
   refine vS ?_
   refine Chk.mk (by simp[nc,QW,QV,Q3,QU,Cn.p]) ?_
   refine Br.isF rfl ?_
   refine vS ?_
   refine Chk.mk (by simp[nc,QW,QV,Q3,QU,Cn.p]) ?_
   refine Br.isF rfl ?_
   refine wS ?_
   refine Br.isT rfl ?_
   refine wS ?_
   refine⟨_,_,?_,rfl,rfl⟩
   exact ZK
  rw[if_neg Bool.false_ne_true]at hE
  have m1:=m1 rfl
  refine Br.isT rfl ?_
  refine wS ?_
  refine Zpt (k2) ?_
  refine wS ?_
  cases b2
  case true=>
   rw[if_pos rfl]at hE
   subst hE
   refine Br.isF rfl ?_
   refine vS ?_
   refine Chk.mk (by simp[nc,QW,QV,Q3,QU,Cn.p]) ?_
   refine Br.isF rfl ?_
   refine wS ?_
   refine Br.isT rfl ?_
   refine wS ?_
   refine⟨_,_,?_,rfl,rfl⟩
   exact ZK
  rw[if_neg Bool.false_ne_true]at hE
  have m2:=m2 rfl
  have k395:=k395 (by omega)
  have k396:=k396 (by omega)
  have hci:=hci m1.1 m2.1
  refine Br.isT rfl ?_
  refine wS ?_
  refine Zpt (k395) ?_
  refine wS ?_
  by_cases hC:C<0
  ·rw[if_pos hC]at hE
   subst hE
   refine Br.isF (by simp[hC]) ?_
   refine wS ?_
   refine Br.isT (by simp[hC]) ?_
   refine wS ?_
   refine⟨_,_,?_,rfl,rfl⟩
   exact ZK
  rw[if_neg hC]at hE
  refine Br.isT (by simp[hC]) ?_
  refine wS ?_
  refine Zpt (k396) ?_
  refine wS ?_
  by_cases hD:D<0
  ·rw[if_pos hD]at hE
   subst hE
   refine Br.isT (by simp[hC,hD]) ?_
   refine wS ?_
   refine⟨_,_,?_,rfl,rfl⟩
   exact ZK
  rw[if_neg hD]at hE
  have hci:=hci hC hD
  subst hE
  refine Br.isF (by simp[hC,hD]) ?_
  refine wS ?_
  refine cL1 [0] (hci) fun r h₂ hp=>?_
  (try simp only[Zd,Zc,Zf,Zb,Za hnt]at hp)
  obtain⟨rfl,rfl⟩:=hp
  refine wS ?_
  refine⟨_,_,?_,rfl,rfl⟩
  exact ZK
 ·have hE:Zdf t f r st=(0,Zl t):=by
   unfold Zdf
   rw[if_pos hb]
  rw[hE]
  unfold QD at k
  rw[if_neg hb]at k
  generalize Zl t=e at*
  refine SC.less (Qv Tryz.func30 (body:=Zk Tryz.f30) rfl (by decide+kernel) ?_)
  unfold Zf at*
  simp only[Za hnt,Zb,ZB]at*
  refine wS ?_
  refine Zpt (k) ?_
  refine wS ?_
  refine⟨fun h=>?_,fun h=>?_⟩
  ·refine wS ?_
   refine⟨_,_,?_,rfl,rfl⟩
   exact ZK
  ·exact absurd (by simpa only[bne_eq_false_iff_eq]using h) hb
set_option maxHeartbeats 1600000
set_option maxHeartbeats 4000000
end Go.Proofs.YtjgpiclllehgmaaGreat.Vm
namespace Go.Proofs.YtjgpiclllehgmaaGreat.Vm
open Go Go.Proofs Sp
set_option maxRecDepth 100000
set_option maxHeartbeats 8000000
theorem Zip {t:Ze} (h:Zl t=0) {r:Int} (h0:0≤r) (h1:r<t.runs.length):SC (fun _=>Tryz.prog) 22 [Zf t,.int .i64 fun _=>r] [] fun v h=>v= .tup [lst 2 YL default (ZcB t r),lst 2 YL default (Ya t r),.int .i64 fun _=>0]∧h=[]:=by
 have k:=ZuQ t r (ZeG h) (fun _=>QH h)
 have e:YA t r=0:=by
  unfold YA
  rw[if_neg (fun hn=>hn h),J4 h0 (by omega),if_neg Bool.false_ne_true]
 rw[e,if_pos rfl,if_pos rfl]at k
 exact k
attribute [local irreducible] Dn
theorem Zll {t:Ze} (he:Zl t=0) {f r st:Int} (h:Zac t f r st):SC (fun _=>Tryz.prog) 30 [Zf t,.int .i64 fun _=>f,.int .i64 fun _=>r,.int .i64 fun _=>st] [.main] fun v h=>v= .tup [.int .i64 fun _=>Jl t f r st,.int .i64 fun _=>0]∧h=[.main]:=by
 have k:=ZvR t f r st (ZeG he) (fun h=>QH h)
 rw[ZoU he h]at k
 exact k
theorem ZpQ {t:Ze} (he:Zl t=0) {w n:Int} (hw:0≤w∧w<t.waits.length) (hn:0≤n∧n≤60):SC (fun _=>Tryz.prog) 43 [Zf t,.int .i64 fun _=>w,.int .i64 fun _=>n] [] fun v h=>v= .tup [Zf (Zz t w n),.int .i64 fun _=>0]∧h=[]:=by
 have k:=ZvO t w n (ZeG he)
 have e1:Qk t w=0:=by
  unfold Qk
  rw[if_pos he,J4 hw.1 (by omega),if_neg Bool.false_ne_true]
 have e:Zes t w n=(Zz t w n,0):=by
  unfold Zes
  rw[if_neg (fun h=>h e1),J4 hn.1 hn.2,if_neg Bool.false_ne_true]
 rw[e]at k
 exact k
end Go.Proofs.YtjgpiclllehgmaaGreat.Vm
namespace Go.Proofs.YtjgpiclllehgmaaGreat.Sp
open Vm
theorem Zk3 {f g:Nat→Int} (h:∀i,f i≤g i):∀n,(Jd f n).some_=(Jd g n).some_∧(Jd f n).fr≤(Jd g n).fr∧(Jd f n).to_≤(Jd g n).to_
 |0=>⟨rfl,Int.le_refl _,Int.le_refl _⟩
 |n+1=>by
  obtain⟨h1,h2,h3⟩:=Zk3 h n
  have hn:=h n
  show((Jd f n).add (f n)).some_=((Jd g n).add (g n)).some_∧((Jd f n).add (f n)).fr≤((Jd g n).add (g n)).fr∧((Jd f n).add (f n)).to_≤((Jd g n).add (g n)).to_
  unfold Wd.add
  by_cases hs:(Jd g n).some_=true
  ·rw[if_pos (h1.trans hs),if_pos hs]
   exact⟨rfl,by show min _ _≤min _ _;omega,by show max _ _≤max _ _;omega⟩
  ·rw[if_neg (fun e=>hs (h1.symm.trans e)),if_neg hs]
   exact⟨rfl,hn,hn⟩
theorem Zi3 {t:Ze} {r:Int} {k:Nat} (hk:k<(Zj (callsOf t) r).length):(Ya t r).getD k default=ZeZ t r (2*k+1):=by
 unfold Ya
 rw[List.getD_eq_getElem?_getD,List.getElem?_map,List.getElem?_range hk]
 rfl
theorem ZgS {t:Ze} {r:Int}:(Ya t r).length=(Zj (callsOf t) r).length:=by unfold Ya;rw[List.length_map,List.length_range]
theorem ZiT {t:Ze} (he:Zl t=0) {w n:Int} (hw:0≤w∧w<t.waits.length) (hn:0≤n∧n≤60) (hm:(waitAt t w).minutes≤n) {k:Nat} (hk:Zr (Zj (callsOf t) (waitAt t w).train) (waitAt t w).station=k) (hkl:k<(Zj (callsOf t) (waitAt t w).train).length):
  ((Ya t (waitAt t w).train).getD k default).fr≤((Ya (Zz t w n) (waitAt t w).train).getD k default).fr∧((Ya t (waitAt t w).train).getD k default).to_≤((Ya (Zz t w n) (waitAt t w).train).getD k default).to_:=by
 rw[Zi3 hkl,Zi3 (t:=Zz t w n) hkl]
 have h:=Zk3 (f:=JN t (waitAt t w).train (2*k+1)) (g:=JN (Zz t w n) (waitAt t w).train (2*k+1)) (fun i=>by
  unfold JN
  rw[if_neg (by omega),if_neg (by omega),show(2*k+1)/2=k by omega]
  have:=Zgx he hw hn hm (Zm t i)
  rw[hk]at this
  exact this) (Z7 t)
 exact h.2
theorem ZfS {l:List Call} {st:Int} (h:1≤Zo l 0 st):ZA l st=Zo l 0 st:=by
 unfold ZA
 unfold Zo at*
 rw[show max 0 (1:Int)=1 from rfl,show(1:Int).toNat=1 from rfl]
 rw[show max 0 (0:Int)=0 from rfl,show(0:Int).toNat=0 from rfl,List.drop_zero]at*
 cases l with
 |nil=>simp[Zn]at h
 |cons x r=>
  rw[List.drop_succ_cons,List.drop_zero]
  unfold Zn at h
  rw[Zn.eq_def _ 0]
  dsimp only
  split at h
  ·omega
  ·rw[if_neg (by assumption)]
   rfl
theorem Zj1 {t:Ze} {f r st:Int} (hf:0≤f∧f<t.runs.length) (hr:0≤r∧r<t.runs.length) (h:1≤Zo (Zj (callsOf t) f) 0 st) (hg:0≤Zr (Zj (callsOf t) r) st):Zac t f r st:=by
 have h1:=ZfS h
 have h2:=(XF (Zj (callsOf t) f) 0 st).1
 have h3:=(ZgA hg).2
 exact⟨⟨hf.1,by rw[Yx];exact hf.2,by omega,by omega⟩,⟨hr.1,by rw[Yx];exact hr.2,hg,by omega⟩⟩
end Go.Proofs.YtjgpiclllehgmaaGreat.Sp
namespace Go.Proofs.YtjgpiclllehgmaaGreat.Vm
attribute [local irreducible] Dn
open Go Go.Proofs Sp
set_option maxRecDepth 100000
set_option maxHeartbeats 8000000
theorem Zig.joinB {A B:Prop} {α β:Type} {G P:α→β→Prop} (hA:(∀a c,P a c→G a c)→A) (hB:(∀a c,P a c→G a c)→B) (hM:∀a c,P a c→G a c):Zig A B:=⟨hA hM,hB hM⟩
theorem ZiS {t:Ze} (hm:Zay t) {i n:Int} (hi:0≤i∧i<t.waits.length) (hn:0≤n∧n≤60) (hmn:(waitAt t i).minutes≤n) {r:Int} (hr:0≤r∧r<t.runs.length) (h1:1≤Zo (Sp.Zj (callsOf t) r) 0 (waitAt t i).station)
  (h2:¬(Zt (callsOf t) (waitAt t i).train (Zo (Sp.Zj (callsOf t) (waitAt t i).train) 0 (waitAt t i).station)).depart<(Zt (callsOf t) r (Zo (Sp.Zj (callsOf t) r) 0 (waitAt t i).station)).arrive):
  ∃U V:Int,SC (fun _=>Tryz.prog) 30 [Zf t,.int .i64 fun _=>r,.int .i64 fun _=>(waitAt t i).train,.int .i64 fun _=>(waitAt t i).station] [.main] (fun v h=>v= .tup [.int .i64 fun _=>U,.int .i64 fun _=>0]∧h=[.main])∧
   SC (fun _=>Tryz.prog) 30 [Zf (Zz t i n),.int .i64 fun _=>r,.int .i64 fun _=>(waitAt t i).train,.int .i64 fun _=>(waitAt t i).station] [.main] (fun v h=>v= .tup [.int .i64 fun _=>V,.int .i64 fun _=>0]∧h=[.main])∧(U=1→V=1):=by
 have he:=hm.begin
 have hw:waitAt t i∈t.waits:=by
  unfold waitAt
  exact Zki (by omega)
 have wa:=Zhi hm hw
 have hc:=Zj1 hr wa.runs.2 h1 wa.gb.1
 have hcs:=ZfS h1
 rw[wa.b,←hcs]at h2
 exact⟨_,_,Zll he hc,Zll (t:=Zz t i n) (Ju he hn) hc,fun h=>Zil he hi hn hmn hc.1 (by omega) h⟩
theorem cL3 (l:List Nat) {f:FuncId} {xs ys:List AV} {h hc:List Zi} {Post Q:AV→List Zi→Prop} (H:SC (fun _=>Tryz.prog) f ys hc Q) (hq:∀ r h₂,Q r h₂→Post (ren (YO l h.length) 5 r) (back l h h₂)) (hn:l.Nodup:=by decide) (hl:∀ i∈l,i<h.length:=by simp) (hx:xs.map (Qx false l h 5)=ys:=by first|rfl|(simp only[Zd,Zc,Zf,Zb,ZI,Zh,Za hnt];rfl)) (hh:sel false l h=hc:=by first|rfl|(simp only[Zd,Zc,Zf,Zb,ZI,Zh,Za hnt];rfl)):SC (fun _=>Tryz.prog) f xs h Post:=ZP l H hn hl hx hh hq
theorem ZvU (l:List Int) (hl:(l.length:Int)≤9223372036854775807):SC (fun _=>Tryz.prog) 9 [lst 1 XJ 0 l] [.main] fun r _=>r= .bool fun _=>true:=by
 obtain⟨nt,hnt⟩:=Zu
 refine Qv Tryz.func9 (body:=Zk Tryz.f9) rfl (by decide+kernel) ?_
 refine wS ?_
 refine ZY (c14 l hl) (by first|rfl|(simp only[Zd,Zc,Zf,Zb,ZI,Zh,Za hnt];rfl)) fun r h₂ hp=>?_
 (try simp only[Zd,Zc,Zf,Zb,ZI,Zh,Za hnt]at hp)
 obtain⟨s,rfl,rfl⟩:=hp
 refine wS ?_
 refine cL3 [1] (ZvT s 4 4 3 (by omega) (by omega) (by omega)) fun r h₂ hp=>?_
 (try simp only[Zd,Zc,Zf,Zb,ZI,Zh,Za hnt]at hp)
 obtain⟨t,s',ht,rfl,rfl⟩:=hp
 have hm:=ht.1
 have he:=hm.begin
 have hr4:=ht.2.1
 have hw4:=ht.2.2.1
 have hcl:=Yx t
 have k328:=ZvS t hm
 have hwm:∀j:Int,0≤j→j<t.waits.length→nt Sp.ZM default t.waits j∈t.waits:=fun j h0 h1=>by rw[hnt];exact Zki (by omega)
 have hwf:=(QH he).w
 have hwa:∀j:Int,waitAt t j=nt Sp.ZM default t.waits j:=fun i=>by rw[hnt];rfl
 have kW:=fun(i n:Int) (hi:0≤i∧i<t.waits.length) (hn:0≤n∧n≤60)=>ZpQ he (w:=i) (n:=n) hi hn
 have hat:=fun w hw=>Zhi (t:=t) hm (w:=w) hw
 have kt:=fun(r:Int) (h0:0≤r) (h1:r<t.runs.length)=>Zip he h0 h1
 have kt2:=fun(i n r:Int) (hi:0≤i∧i<t.waits.length) (hn:0≤n∧n≤60) (h0:0≤r) (h1:r<t.runs.length)=>Zip (t:=Zz t i n) (Ju he hn) h0 h1
 have hlk:=fun(i n:Int) (hi:0≤i∧i<t.waits.length) (hn:0≤n∧n≤60) (hmn:(waitAt t i).minutes≤n) (r:Int) (hr:0≤r∧r<t.runs.length)=>ZiS hm hi hn hmn hr
 have hlg:=fun(i n:Int) (hi:0≤i∧i<t.waits.length) (hn:0≤n∧n≤60) (hmn:(waitAt t i).minutes≤n) (k:Nat)=>ZiT he hi hn hmn (k:=k)
 have hgl:∀r,(Ya t r).length=(Sp.Zj (callsOf t) r).length:=fun r=>ZgS
 have hgl2:∀i n r,(Ya (Zz t i n) r).length=(Sp.Zj (callsOf t) r).length:=fun i n r=>ZgS
 have hlen4:∀r:Int,0≤r→r<t.runs.length→(nt (List Sp.Call) [] (callsOf t) r).length≤4:=fun r h0 h1=>by
  have h:=(Zlc hnt hm (i:=r.toNat) (by omega)).2.1.2
  rwa [show((r.toNat:Nat):Int)=r by omega]at h
 have k349:=fun(r st:Int) h (hl:(Sp.Zj (callsOf t) r).length≤1000000)=>ZuP (callsOf t) [] [] r st h hl
 generalize Zz t=WT at*
 refine wS ?_
 refine⟨fun hb=>?_,fun hb=>?_⟩
 ·refine wS ?_
  refine cL3 [0] (ZuR) fun r h₂ hp=>?_
  (try simp only[Zd,Zc,Zf,Zb,ZI,Zh,Za hnt]at hp)
  obtain⟨rfl,rfl⟩:=hp
  exact wZ
 have hb:t.waits.length≠0:=by
  intro h
  rw[h]at hb
  cases hb
 refine wS ?_
 refine cL3 [1] (c17 s' ((t.waits.length:Int)-1) (by omega)) fun r h₂ hp=>?_
 (try simp only[Zd,Zc,Zf,Zb,ZI,Zh,Za hnt]at hp)
 obtain⟨i,s2,hi,rfl,rfl⟩:=hp
 have hi:0≤i∧i<t.waits.length:=by omega
 have hwi:=hwm i hi.1 hi.2
 have hwfi:=hwf _ hwi
 have hati:=hat _ hwi
 refine wS ?_
 apply Zig.joinB (P:=fun(n s3:Int)=>(nt Sp.ZM default t.waits i).minutes≤n∧n≤60)
 ·intro M
  refine cL3 [1] (c22 s2 (nt Sp.ZM default t.waits i).minutes 60 (by omega) (by omega)) fun r h₂ hp=>?_
  (try simp only[Zd,Zc,Zf,Zb,ZI,Zh,Za hnt]at hp)
  obtain⟨n,s3,hn,rfl,rfl⟩:=hp
  have kW:=kW i n hi (by omega)
  unfold Zf at kW
  simp only[Za hnt]at kW
  refine wS ?_
  refine⟨?_,?_⟩
  ·skip
   refine ZuU (kW) ?_
   refine wS ?_
   exact M n s3 (by omega)
  ·refine wS ?_
   refine ZuU (kW) ?_
   refine wS ?_
   exact M n s3 (by omega)
 ·intro M
  refine wS ?_
  refine cL3 [1] (c22 s2 (nt Sp.ZM default t.waits i).minutes 60 (by omega) (by omega)) fun r h₂ hp=>?_
  (try simp only[Zd,Zc,Zf,Zb,ZI,Zh,Za hnt]at hp)
  obtain⟨n,s3,hn,rfl,rfl⟩:=hp
  have kW:=kW i n hi (by omega)
  unfold Zf at kW
  simp only[Za hnt]at kW
  refine wS ?_
  refine ZuU (kW) ?_
  refine wS ?_
  refine SC.mono (M n s3 (by omega)) fun r h' hr=>?_
  revert hr
  generalize YJ _ _ _ _ _ _=z
  cases z with
  |none=>exact id
  |some z=>exact fun h=>ZpL (by decide) h
 intro n s3 hn
 have hn2:0≤n∧n≤60:=by have:=hn.1;have:=hn.2;omega
 have kW:=kW i n hi hn2
 have hrn:(waitAt t i).train=(nt Sp.ZM default t.waits i).train:=by rw[hwa]
 have hlk:=hlk i n hi hn2 (by rw[hwa];omega)
 have hlg:=hlg i n hi hn2 (by rw[hwa];omega)
 have kt:=kt (nt Sp.ZM default t.waits i).train hati.runs.2.1 hati.runs.2.2
 have kt2:=kt2 i n (nt Sp.ZM default t.waits i).train hi hn2 hati.runs.2.1 hati.runs.2.2
 have hgl:=hgl (nt Sp.ZM default t.waits i).train
 have hgl2:=hgl2 i n (nt Sp.ZM default t.waits i).train
 have ha:=hati.a
 have hb2:=hati.b
 have hca:=hati.ca
 have hgb:=hati.gb
 have hru:=hati.runs
 have hle:=hati.le
 simp only[hwa,Xm hnt,Zb7 hnt]at hlk hlg hgl hgl2 ha hb2 hca hgb hle k349
 have hgK:=hlg (Zo (nt (List Sp.Call) [] (callsOf t) (nt Sp.ZM default t.waits i).train) 0 (nt Sp.ZM default t.waits i).station).toNat (by rw[hb2];omega) (by rw[hb2];omega)
 have hgK:(nt Za5 default (Ya t (nt Sp.ZM default t.waits i).train) (Zo (nt (List Sp.Call) [] (callsOf t) (nt Sp.ZM default t.waits i).train) 0 (nt Sp.ZM default t.waits i).station)).fr≤(nt Za5 default (Ya (WT i n) (nt Sp.ZM default t.waits i).train) (Zo (nt (List Sp.Call) [] (callsOf t) (nt Sp.ZM default t.waits i).train) 0 (nt Sp.ZM default t.waits i).station)).fr∧
   (nt Za5 default (Ya t (nt Sp.ZM default t.waits i).train) (Zo (nt (List Sp.Call) [] (callsOf t) (nt Sp.ZM default t.waits i).train) 0 (nt Sp.ZM default t.waits i).station)).to_≤(nt Za5 default (Ya (WT i n) (nt Sp.ZM default t.waits i).train) (Zo (nt (List Sp.Call) [] (callsOf t) (nt Sp.ZM default t.waits i).train) 0 (nt Sp.ZM default t.waits i).station)).to_:=by
  simp only[hnt]at hgK⊢
  exact hgK
 have hK:0≤Zo (nt (List Sp.Call) [] (callsOf t) (nt Sp.ZM default t.waits i).train) 0 (nt Sp.ZM default t.waits i).station∧Zo (nt (List Sp.Call) [] (callsOf t) (nt Sp.ZM default t.waits i).train) 0 (nt Sp.ZM default t.waits i).station<(nt (List Sp.Call) [] (callsOf t) (nt Sp.ZM default t.waits i).train).length:=by omega
 have kKK:=k349 (nt Sp.ZM default t.waits i).train (nt Sp.ZM default t.waits i).station ⟨hru.2.1,by omega⟩ (by have:=hlen4 _ hru.2.1 hru.2.2;omega)
 clear hlg ha hb2 hca hgb hle hati hat hwf hwfi hwm hwa hrn
 generalize ZcB t (nt Sp.ZM default t.waits i).train=A at*
 generalize Ya t (nt Sp.ZM default t.waits i).train=B at*
 generalize ZcB (WT i n) (nt Sp.ZM default t.waits i).train=A2 at*
 generalize Ya (WT i n) (nt Sp.ZM default t.waits i).train=B2 at*
 generalize WT i n=t2 at*
 generalize callsOf t=c at*
 unfold Zhh at*
 simp only[Za hnt,Zb,ZI]at*
 generalize hKe:Zo (nt (List Sp.Call) [] c (nt Sp.ZM default t.waits i).train) 0 (nt Sp.ZM default t.waits i).station=K at*
 refine ZuU (k328) ?_
 refine wS ?_
 refine ZuU (kt) ?_
 refine wS ?_
 refine ZuU (kt2) ?_
 have hq1:((B.length:Int) !=((nt (List Sp.Call) [] c (nt Sp.ZM default t.waits i).train).length:Int))=false:=by rw[hgl];simp
 have hq2:((B2.length:Int) !=(B.length:Int))=false:=by rw[hgl,hgl2];simp
 have hl4:=hlen4 _ hru.2.1 hru.2.2
 refine wS ?_
 refine Br.isF (by simp only[hq1,hq2];rfl) ?_
 refine wS ?_
 refine Ji (kKK) (by(try simp only[Zd,Zc,Zf,Zb,ZI,Zh,Za hnt]);exact ZK) (by first|rfl|(simp only[Zd,Zc,Zf,Zb,ZI,Zh,Za hnt];rfl)) fun r h₂ hp=>?_
 (try simp only[Zd,Zc,Zf,Zb,ZI,Zh,Za hnt]at hp)
 obtain⟨rfl,rfl⟩:=hp
 refine wS ?_
 refine Br.isF (by
  show(bif decide ((nt Za5 default B2 K).fr<(nt Za5 default B K).fr)then true else decide ((nt Za5 default B2 K).to_<(nt Za5 default B K).to_))=false
  rw[decide_eq_false (by omega),decide_eq_false (by omega)];rfl) ?_
 refine wS ?_
 refine ZS false false [] [4,6,7,9,17,18] [] (fun(r:Nat)=>[(18,.int .i64 fun _=>(r:Int))]) (fun _=>[]) (fun r=>r≤c.length) (fun r=>c.length-r+0) 0 (Nat.zero_le _) ?_ ?_
 ·exact ZK
 intro r hr
 have hr:r≤c.length:=hr
 refine wS ?_
 refine⟨fun hb3=>?_,fun hb3=>?_⟩
 ·simp only[decide_eq_true_eq]at hb3
  have hlr:=hlen4 (r:Int) (by omega) (by omega)
  have kS:=k349 (r:Int) (nt Sp.ZM default t.waits i).station ⟨by omega,by omega⟩ (by omega)
  have hlk:=hlk (r:Int) ⟨by omega,by omega⟩
  have hSl:=XF (nt (List Sp.Call) [] c (r:Int)) 0 (nt Sp.ZM default t.waits i).station
  generalize hSe:Zo (nt (List Sp.Call) [] c (r:Int)) 0 (nt Sp.ZM default t.waits i).station=S at*
  refine wS ?_
  refine Ji (kS) (by(try simp only[Zd,Zc,Zf,Zb,ZI,Zh,Za hnt]);exact ZK) (by first|rfl|(simp only[Zd,Zc,Zf,Zb,ZI,Zh,Za hnt];rfl)) fun r h₂ hp=>?_
  (try simp only[Zd,Zc,Zf,Zb,ZI,Zh,Za hnt]at hp)
  obtain⟨rfl,rfl⟩:=hp
  by_cases h1:(r:Int)=(nt Sp.ZM default t.waits i).train
  ·have hx1:((r:Int)==(nt Sp.ZM default t.waits i).train)=true:=by rw[h1];simp
   have hx2:True:=trivial
   refine vS ?_
   refine Chk.mk (okh) ?_
   refine Br.isT (by simp[hx1]) ?_
   refine wS ?_
   refine⟨r+1,by show r+1≤_;omega,by show c.length-(r+1)+0<c.length-r+0;omega,?_⟩
   exact ZK
  have hx1:((r:Int)==(nt Sp.ZM default t.waits i).train)=false:=by simpa using h1
  by_cases h2:S<1
  ·have hx2:decide (S<1)=true:=decide_eq_true h2
   refine vS ?_
   refine Chk.mk (okh) ?_
   refine Br.isT (by simp[hx1,hx2]) ?_
   refine wS ?_
   refine⟨r+1,by show r+1≤_;omega,by show c.length-(r+1)+0<c.length-r+0;omega,?_⟩
   exact ZK
  have hx2:decide (S<1)=false:=decide_eq_false h2
  by_cases h3:(nt Sp.Call default (nt (List Sp.Call) [] c (nt Sp.ZM default t.waits i).train) K).depart<(nt Sp.Call default (nt (List Sp.Call) [] c (r:Int)) S).arrive
  ·have hx3:decide ((nt Sp.Call default (nt (List Sp.Call) [] c (nt Sp.ZM default t.waits i).train) K).depart<(nt Sp.Call default (nt (List Sp.Call) [] c (r:Int)) S).arrive)=true:=decide_eq_true h3
   refine vS ?_
   refine Chk.mk (okh) ?_
   refine Br.isT (by simp only[hx1,hx2,hx3,cond_false]) ?_
   refine wS ?_
   refine⟨r+1,by show r+1≤_;omega,by show c.length-(r+1)+0<c.length-r+0;omega,?_⟩
   exact ZK
  have hx3:decide ((nt Sp.Call default (nt (List Sp.Call) [] c (nt Sp.ZM default t.waits i).train) K).depart<(nt Sp.Call default (nt (List Sp.Call) [] c (r:Int)) S).arrive)=false:=decide_eq_false h3
  obtain⟨U,V,kU,kV,hUV⟩:=hlk (by omega) h3
  refine vS ?_
  refine Chk.mk (okh) ?_
  refine Br.isF (by simp only[hx1,hx2,hx3,cond_false]) ?_
  refine wS ?_
  refine cL3 [0] (kU) fun r h₂ hp=>?_
  (try simp only[Zd,Zc,Zf,Zb,ZI,Zh,Za hnt]at hp)
  obtain⟨rfl,rfl⟩:=hp
  refine wS ?_
  refine cL3 [0] (kV) fun r h₂ hp=>?_
  (try simp only[Zd,Zc,Zf,Zb,ZI,Zh,Za hnt]at hp)
  obtain⟨rfl,rfl⟩:=hp
  refine wS ?_
  refine Br.isF (by
   show(bif (bif (0:Int) !=0 then true else(0:Int) !=0)then true else bif U==1 then V !=1 else false)=false
   by_cases hU:U=1
   ·rw[hU,hUV hU];rfl
   ·rw[beq_eq_false_iff_ne.2 hU];rfl) ?_
  refine wS ?_
  refine⟨r+1,by show r+1≤_;omega,by show c.length-(r+1)+0<c.length-r+0;omega,?_⟩
  exact ZK
 ·refine wS ?_
  refine cL3 [0] (ZuR) fun r h₂ hp=>?_
  (try simp only[Zd,Zc,Zf,Zb,ZI,Zh,Za hnt]at hp)
  obtain⟨rfl,rfl⟩:=hp
  exact wZ
end Go.Proofs.YtjgpiclllehgmaaGreat.Vm
