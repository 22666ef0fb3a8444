/- The abstract machine: its values and memory, and pure operations. -/
import Derived.Calls
import Derived.Laws.Entries
import Derived.Laws.Cells
import Derived.Laws.BitsLemmas
import Derived.Laws.Slices
import Derived.Laws.StructEq
import Derived.ChangeKeysEq
set_option linter.unusedSimpArgs false
set_option linter.unusedVariables false
namespace Go.Proofs.YtjgpiclllehgmaaGreat.Vm
open Go
def ZC (a b:Nat):Bool:=decide (a=b)
def Z4 (a b:Nat):Bool:=decide (a≤b)
def ltN (a b:Nat):Bool:=decide (a<b)
theorem Zz {a b:Nat} (h:ZC a b=true):a=b:=of_decide_eq_true h
theorem Xc {a b:Nat} (h:Z4 a b=true):a≤b:=of_decide_eq_true h
theorem JV {a b:Nat} (h:ltN a b=true):a<b:=of_decide_eq_true h
inductive Tk where
 |none|nil|exact|own (id:Nat)|nn
def Tk.ow:Tk→Bool
 |.own _|.nn=>true
 |_=>false
inductive AV where
 |undef
 |bool (b:Unit→Bool)
 |int (k:IntKind) (n:Unit→Int)
 |str (s:Unit→ByteArray)
 |ptr (id off:Nat)
 |nilptr
 |iptr (cells:List AV) (off:Nat)
 |isl (s:Nat) (n:Unit→Int) (f:(Unit→Int)→List AV) (tk:Tk)
 |aptr (id s:Nat) (e:Unit→Int) (off:Nat)
 |msl (id s:Nat) (lo n c:Unit→Int)
 |gsl (id:Nat) (n:Unit→Int)
 |gptr (id s:Nat) (n e:Unit→Int) (off:Nat)
 |lit (s:Nat) (cs:List AV)
 |map (id:Nat)
 |mit (id:Nat)
 |cch (c:Nat)
 |imap (ka n:Nat) (L:Unit→List (List Int×List Int))
 |nilmap
 |fn (f:FuncId) (first cap:List AV)
 |yld (id:Nat)
 |nilfn
 |agg (cs:List AV)
 |tup (vs:List AV)
 |gd (g:Unit→Bool) (v:AV)
 |ob (g b:Unit→Bool)
structure Zg0 where
 ps:Array Tmp
 a:Code
 x:Code
 st:LoopState
 pe:Option Code
inductive Gob where
 |chq (c:Nat) (l:Unit→List Bool)
 |mapL (ka n:Nat) (L:Unit→List (List Int×List Int))
 |mapM (ka kb n:Nat) (L:Unit→List (List Int×List (List Int×List Int)))
 |mapIt (ka n:Nat) (L:Unit→List (List Int×List Int)) (seen:Unit→List (List Int)) (cur:Unit→List Int×List Int)
 |any
inductive Zi where
 |cells (cs:List AV)
 |arr (s:Nat) (n:Unit→Int) (f:(Unit→Int)→List AV)
 |tok (s:Nat) (hw:Unit→Int)
 |gar (s:Nat) (n:Unit→Int) (f:(Unit→Int)→List AV)
 |fro (s:Nat) (n:Unit→Int) (f:(Unit→Int)→List AV)
 |mapB (m:(Unit→Int)→Unit→Bool)
 |loop (s:List AV) (d:Zg0)
 |gob (g:Gob)
 |main
 |dead
structure Loc where
 b:Nat
 o:Nat
structure RC where
 w:World
 m:Nat
 n0:Nat
 α:Nat→Loc
 hw:Nat→Int
 hv:Nat→Value
 ok:Nat→Nat→Nat→Prop
 cx:Option Nat:=none
def Qp:Nat→List Int→List Value
 |0,_=>[]
 |n+1,xs=>.int .i64 (xs.headD 0)::Qp n xs.tail
def Q2:Nat→List Int→Value
 |0,xs=>.int .i64 (xs.headD 0)
 |n+1,xs=>.agg (Qp (n+1) xs).toArray
def ZiG:Nat→Nat
 |0=>1
 |n+1=>n+1
structure Zo5 {α:Type} (ka:Nat) (V:α→Value→Prop) (l:List (MapEntry×(List Int×α))) (es:Array MapEntry) (clk:Nat) (L:List (List Int×α)):Prop where
 es:l.map (·.1)=es.toList
 L:(l.map (·.2)).Perm L
 nd:(l.map (·.2.1)).Nodup
 bn:(l.map (·.1.born)).Nodup
 e:∀p∈l,p.1.key=Q2 ka p.2.1∧V p.2.2 p.1.val∧p.2.1.length=ZiG ka∧p.1.born<clk
def ZdK {α:Type} (ka:Nat) (V:α→Value→Prop) (es:Array MapEntry) (clk:Nat) (L:List (List Int×α)):Prop:=∃l,Zo5 ka V l es clk L
inductive PR (w:World) (ok:Nat→Nat→Nat→Prop):AV→Value→Prop where
 |bool (b):PR w ok (.bool b) (.bool (b ()))
 |int (k n):PR w ok (.int k n) (.int k (n ()))
 |str (s):PR w ok (.str s) (.string (s ()))
 |nilptr:PR w ok .nilptr (.pointer none)
 |cch (c):PR w ok (.cch c) (.chan (some c))
 |imap (ka n:Nat) (L:Unit→List (List Int×List Int)) (b:Nat) (es:Array MapEntry) (clk:Nat) (h1:w.heap[b]? =some (.map es clk)) (h2:ZdK ka (fun xs v=>v=Q2 n xs) es clk (L ())) (h3:ok b 0 1):PR w ok (.imap ka n L) (.map (some b))
 |imap0 (ka n:Nat) (L:Unit→List (List Int×List Int)) (h:L ()=[]):PR w ok (.imap ka n L) (.map none)
 |nilmap:PR w ok .nilmap (.map none)
 |nilfn:PR w ok .nilfn .nilFunc
 |iptr (cs:List AV) (off b o:Nat) (us:Nat→Value) (h1:∀j c,cs[j]? =some c→w.cell? ⟨b,o+j,none⟩=some (us j)) (h2:∀j c,cs[j]? =some c→PR w ok c (us j))
   (h3:ok b o cs.length):PR w ok (.iptr cs off) (.pointer (some ⟨b,o+off,none⟩))
 |isl0 (s n f tk) (h:n ()=0) (ht:tk.ow=false):PR w ok (.isl s n f tk) (.slice none 0 0)
 |islE (s n f tk) (a:Addr) (h:n ()=0) (ht:tk= .none∨tk= .exact):PR w ok (.isl s n f tk) (.slice (some a) 0 0)
 |isl (s n f tk b o) (len cap:Nat) (us:Nat→Nat→Value) (hn:n ()=(len:Int)) (hc:len≤cap) (ht:tk= .none∨tk= .exact) (he:tk= .exact→cap=len)
   (hl:∀i:Nat,i<len→(f (fun _=>(i:Int))).length=s)
   (h1:∀i j c,i<len→(f (fun _=>(i:Int)))[j]? =some c→w.cell? ⟨b,o+i*s+j,none⟩=some (us i j))
   (h2:∀i j c,i<len→(f (fun _=>(i:Int)))[j]? =some c→PR w ok c (us i j))
   (h3:ok b o (len*s)):PR w ok (.isl s n f tk) (.slice (some ⟨b,o,none⟩) len cap)
inductive VR (R:RC):AV→Value→Prop where
 |pure (a v) (h:PR R.w R.ok a v):VR R a v
 |undef (v):VR R .undef v
 |ptr (id off) (h:id<R.m):VR R (.ptr id off) (.pointer (some ⟨(R.α id).b,(R.α id).o+off,none⟩))
 |own (s n f id v) (h:id<R.m) (hp:PR R.w R.ok (.isl s n f .none) v) (hn:n ()≤R.hw id) (he:n ()=R.hw id→v=R.hv id):VR R (.isl s n f (.own id)) v
 |nn (s n f v) (hp:PR R.w R.ok (.isl s n f .none) v) (hv:v≠ .slice none 0 0):VR R (.isl s n f .nn) v
 |aptr (id s e off) (i:Nat) (h:id<R.m) (he:e ()=(i:Int)):VR R (.aptr id s e off) (.pointer (some ⟨(R.α id).b,(R.α id).o+i*s+off,none⟩))
 |msl (id s lo n c) (i len cap:Nat) (h:id<R.m) (hlo:lo ()=(i:Int)) (hn:n ()=(len:Int)) (hc:c ()=(cap:Int)) (hle:len≤cap):
   VR R (.msl id s lo n c) (.slice (some ⟨(R.α id).b,(R.α id).o+i*s,none⟩) len cap)
 |gsl (id n a l c) (h:id<R.m) (hn:n ()≤R.hw id) (he:n ()=R.hw id→.slice a l c=R.hv id) (hl:n ()=(l:Int)∧(l=0∨∃b o:Nat,a=some ⟨b,o,none⟩)):VR R (.gsl id n) (.slice a l c)
 |gptr (id s n e off a) (h:id<R.m) (hn:n ()≤R.hw id) (he:n ()=R.hw id→∃(b o i l c:Nat),R.hv id= .slice (some ⟨b,o,none⟩) l c∧e ()=(i:Int)∧a=⟨b,o+i*s+off,none⟩):VR R (.gptr id s n e off) (.pointer (some a))
 |lit (s cs b o) (us:Nat→Value) (hs:cs.length=s) (h1:∀j c,cs[j]? =some c→R.w.cell? ⟨b,o+j,none⟩=some (us j)) (h2:∀j c,cs[j]? =some c→VR R c (us j)) (h3:R.ok b o s):VR R (.lit s cs) (.slice (some ⟨b,o,none⟩) 1 1)
 |map (id) (h:id<R.m):VR R (.map id) (.map (some (R.α id).b))
 |mit (id) (h:id<R.m) (h0:(R.α id).o=0):VR R (.mit id) (.pointer (some ⟨(R.α id).b,0,none⟩))
 |fn (f) (xs bs:List AV) (us vs:Array Value) (ha:xs.length=us.size) (hb:bs.length=vs.size) (h1:∀j c,xs[j]? =some c→VR R c (us.getD j Go.undef)) (h2:∀j c,bs[j]? =some c→VR R c (vs.getD j Go.undef)):
   VR R (.fn f xs bs) (.func (.func f) us vs)
 |yld (id) (h:id<R.m):VR R (.yld id) (.func (.yield (R.α id).b) #[] #[])
 |agg (cs:List AV) (us:Array Value) (ha:cs.length=us.size) (h:∀j c,cs[j]? =some c→VR R c (us.getD j Go.undef)):VR R (.agg cs) (.agg us)
 |tup (cs:List AV) (us:Array Value) (ha:cs.length=us.size) (h:∀j c,cs[j]? =some c→VR R c (us.getD j Go.undef)):VR R (.tup cs) (.tuple us)
 |gd (g a v) (h:g ()=true→VR R a v):VR R (.gd g a) v
 |ob (g b:Unit→Bool) (v) (h1:g ()=true→v= .bool (b ())) (h2:g ()=false→v=Go.undef):VR R (.ob g b) v
theorem PR.mono {w w':World} {ok ok':Nat→Nat→Nat→Prop} {a:AV} {v:Value} (h:PR w ok a v)
  (hk:∀b o n,ok b o n→ok' b o n) (hc:∀b o n,ok b o n→∀j,j<n→w'.cell? ⟨b,o+j,none⟩=w.cell? ⟨b,o+j,none⟩)
  (hm:∀b,ok b 0 1→∀es clk,w.heap[b]? =some (.map es clk)→w'.heap[b]? =some (.map es clk)):PR w' ok' a v:=by
 induction h with
 |bool b=>exact .bool b
 |int k n=>exact .int k n
 |str s=>exact .str s
 |nilptr=>exact .nilptr
 |cch c=>exact .cch c
 |imap ka n L b es clk h1 h2 h3=>exact .imap ka n L b es clk (hm b h3 es clk h1) h2 (hk _ _ _ h3)
 |imap0 ka n L h=>exact .imap0 ka n L h
 |nilmap=>exact .nilmap
 |nilfn=>exact .nilfn
 |iptr cs off b o us h1 h2 h3 ih=>
  exact .iptr cs off b o us (fun j c hj=>(hc b o _ h3 j (List.getElem?_eq_some_iff.1 hj).1).trans (h1 j c hj)) ih (hk _ _ _ h3)
 |isl0 s n f tk h ht=>exact .isl0 s n f tk h ht
 |islE s n f tk a h ht=>exact .islE s n f tk a h ht
 |isl s n f tk b o len cap us hn hcap ht he hl h1 h2 h3 ih=>
  refine .isl s n f tk b o len cap us hn hcap ht he hl (fun i j c hi hj=>?_) ih (hk _ _ _ h3)
  have hj':j<s:=(hl i hi)▸(List.getElem?_eq_some_iff.1 hj).1
  have hlt:i*s+j<len*s:=by
   have:(i+1)*s≤len*s:=Nat.mul_le_mul_right s hi
   rw[Nat.succ_mul]at this
   omega
  have:=hc b o _ h3 (i*s+j) hlt
  rw[show o+i*s+j=o+(i*s+j)from by omega]
  exact this.trans (by rw[show o+(i*s+j)=o+i*s+j from by omega];exact h1 i j c hi hj)
def Zgj (v v':Value):Prop:=∀us,v= .tuple us→∃us',v'= .tuple us'∧∀(i:Nat) (x:Value),us[i]? =some x→us'[i]? =some x
theorem Zgj.refl (v:Value):Zgj v v:=fun us h=>⟨us,h,fun _ _ h=>h⟩
theorem Zgj.trans {a b c:Value} (h:Zgj a b) (h':Zgj b c):Zgj a c:=fun us e=>by
 obtain⟨us',e',k⟩:=h us e
 obtain⟨us'',e'',k'⟩:=h' us' e'
 exact⟨us'',e'',fun i x hx=>k' i x (k i x hx)⟩
theorem Zgj.of {a b:Value} (h:∀us,a≠ .tuple us):Zgj a b:=fun us e=>absurd e (h us)
structure RC.le (R R':RC):Prop where
 m:R.m≤R'.m
 α:∀id,id<R.m→R'.α id=R.α id
 tk:∀id,id<R.m→R.hw id≤R'.hw id∧(R.hw id=R'.hw id→R'.hv id=R.hv id)
 fm:∀id,id<R.m→Zgj (R.hv id) (R'.hv id)
 ok:∀b o n,R.ok b o n→R'.ok b o n
 keep:∀b o n,R.ok b o n→∀j,j<n→R'.w.cell? ⟨b,o+j,none⟩=R.w.cell? ⟨b,o+j,none⟩
 keepM:∀b,R.ok b 0 1→∀es clk,R.w.heap[b]? =some (.map es clk)→R'.w.heap[b]? =some (.map es clk)
 cx:R'.cx=R.cx
theorem RC.le.refl (R:RC):R.le R:=⟨Nat.le_refl _,fun _ _=>rfl,fun _ _=>⟨Int.le_refl _,fun _=>rfl⟩,fun _ _=>.refl _,fun _ _ _ h=>h,fun _ _ _ _ _ _=>rfl,fun _ _ _ _ h=>h,rfl⟩
theorem RC.le.trans {R R' R'':RC} (h:R.le R') (h':R'.le R''):R.le R'':=by
 refine⟨Nat.le_trans h.m h'.m,fun id hi=>(h'.α id (Nat.lt_of_lt_of_le hi h.m)).trans (h.α id hi),fun id hi=>?_,fun id hi=>(h.fm id hi).trans (h'.fm id (Nat.lt_of_lt_of_le hi h.m)),fun b o n hk=>h'.ok _ _ _ (h.ok _ _ _ hk),fun b o n hk j hj=>(h'.keep b o n (h.ok _ _ _ hk) j hj).trans (h.keep b o n hk j hj),fun b hk es clk e=>h'.keepM b (h.ok _ _ _ hk) es clk (h.keepM b hk es clk e),h'.cx.trans h.cx⟩
 obtain⟨a1,a2⟩:=h.tk id hi
 obtain⟨b1,b2⟩:=h'.tk id (Nat.lt_of_lt_of_le hi h.m)
 exact⟨Int.le_trans a1 b1,fun e=>(b2 (by omega)).trans (a2 (by omega))⟩
theorem VR.mono {R R':RC} {a:AV} {v:Value} (h:VR R a v) (hr:R.le R'):VR R' a v:=by
 induction h with
 |pure a v h=>exact .pure a v (h.mono hr.ok hr.keep hr.keepM)
 |undef v=>exact .undef v
 |ptr id off h=>rw[←hr.α id h];exact .ptr id off (Nat.lt_of_lt_of_le h hr.m)
 |own s n f id v h hp hn he=>
  obtain⟨t1,t2⟩:=hr.tk id h
  exact .own s n f id v (Nat.lt_of_lt_of_le h hr.m) (hp.mono hr.ok hr.keep hr.keepM) (by omega) (fun e=>by rw[t2 (by omega)];exact he (by omega))
 |nn s n f v hp hv=>exact .nn s n f v (hp.mono hr.ok hr.keep hr.keepM) hv
 |aptr id s e off i h he=>rw[←hr.α id h];exact .aptr id s e off i (Nat.lt_of_lt_of_le h hr.m) he
 |msl id s lo n c i len cap h hlo hn hc hle=>rw[←hr.α id h];exact .msl id s lo n c i len cap (Nat.lt_of_lt_of_le h hr.m) hlo hn hc hle
 |gsl id n a l c h hn he hl=>
  obtain⟨t1,t2⟩:=hr.tk id h
  exact .gsl id n a l c (Nat.lt_of_lt_of_le h hr.m) (by omega) (fun e=>by rw[t2 (by omega)];exact he (by omega)) hl
 |gptr id s n e off a h hn he=>
  obtain⟨t1,t2⟩:=hr.tk id h
  exact .gptr id s n e off a (Nat.lt_of_lt_of_le h hr.m) (by omega) (fun e=>by rw[t2 (by omega)];exact he (by omega))
 |lit s cs b o us hs h1 h2 h3 ih=>exact .lit s cs b o us hs (fun j c hj=>(hr.keep b o _ h3 j (hs▸(List.getElem?_eq_some_iff.1 hj).1)).trans (h1 j c hj)) ih (hr.ok _ _ _ h3)
 |map id h=>rw[←hr.α id h];exact .map id (Nat.lt_of_lt_of_le h hr.m)
 |mit id h h0=>rw[←hr.α id h];exact .mit id (Nat.lt_of_lt_of_le h hr.m) ((congrArg Loc.o (hr.α id h)).trans h0)
 |fn f xs bs us vs ha hb h1 h2 ih1 ih2=>exact .fn f xs bs us vs ha hb ih1 ih2
 |yld id h=>rw[←hr.α id h];exact .yld id (Nat.lt_of_lt_of_le h hr.m)
 |agg cs us ha h ih=>exact .agg cs us ha ih
 |tup cs us ha h ih=>exact .tup cs us ha ih
 |gd g a v h ih=>exact .gd g a v ih
 |ob g b v h1 h2=>exact .ob g b v h1 h2
def ZrW (v:Value) (b:Nat):Prop:=∃a n c,v= .slice (some a) n c∧0<c∧a.block=b
def ZG (R:RC) (id:Nat):Zi→Nat→Prop
 |.cells _,b|.arr ..,b|.mapB _,b|.loop ..,b|.gob _,b=>(R.α id).b=b
 |.tok ..,b=>∃a n c,R.hv id= .slice (some a) n c∧n<c∧a.block=b
 |.gar ..,b=>∃a n c,R.hv id= .slice (some a) n c∧0<c∧a.block=b
 |.fro ..,_|.dead,_|.main,_=>False
def Qo (R:RC) (id:Nat) (blk:Zi) (b o n:Nat):Prop:=
 match blk with
 |.tok s _=>∀a len cap,R.hv id= .slice (some a) len cap→len<cap→a.block=b→o+n≤a.off+len*s
 |blk=>¬ZG R id blk b
def ZfZ (R:RC) (h:List Zi) (b o n:Nat):Prop:=∀id blk,h[id]? =some blk→Qo R id blk b o n
def Zuc (es:List MapEntry) (m:(Unit→Int)→Unit→Bool):Prop:=
 (∀e∈es,∃x b,e.key= .int .i64 x∧e.val= .bool b)∧
 ∀x:Int,(∀e∈es,e.key≠ .int .i64 x)∧m (fun _=>x) ()=false∨∃(i:Nat) (e:MapEntry),es[i]? =some e∧e.key= .int .i64 x∧e.val= .bool (m (fun _=>x) ())∧∀j e',j<i→es[j]? =some e'→e'.key≠ .int .i64 x
def Zqs:Obj→Bool
 |.map .. |.chan .. |.mapIter .. =>true
 |_=>false
def SL (R:RC) (s:List AV) (tmps:Array Value):Prop:=tmps.size=s.length∧∀i a,s[i]? =some a→VR R a (tmps.getD i undef)
def Zjn (Q:AV→Value→Prop) (w:World) (s:Nat) (n:Unit→Int) (f:(Unit→Int)→List AV) (v:Value):Prop:=(n ()=0∧∃a:Option Addr,v= .slice a 0 0)∨
 ∃(b o len cap:Nat) (arr:Array Value) (ty:TypeId),n ()=(len:Int)∧len≤cap∧v= .slice (some ⟨b,o,none⟩) len cap∧w.heap[b]? =some (.cells arr ty (0,0))∧o+cap*s≤arr.size∧
  ∀i:Nat,i<len→(f (fun _=>(i:Int))).length=s∧∀j c,(f (fun _=>(i:Int)))[j]? =some c→Q c (arr.getD (o+i*s+j) undef)
abbrev Zvj (R:RC) (s:Nat) (n:Unit→Int) (f:(Unit→Int)→List AV) (v:Value):Prop:=Zjn (VR R) R.w s n f v
abbrev Zvk (R:RC) (s:Nat) (n:Unit→Int) (f:(Unit→Int)→List AV) (v:Value):Prop:=Zjn (PR R.w R.ok) R.w s n f v
def Zh3 (R:RC) (b:Nat) (o:Obj):Gob→Prop
 |.chq c l=>b=c∧R.cx=some c∧∃s r tm,o= .chan 0 ((l ()).map Value.bool).toArray false s r tm
 |.mapL ka n L=>∃es clk,o= .map es clk∧ZdK ka (fun xs v=>v=Q2 n xs) es clk (L ())
 |.mapM ka kb n L=>∃es clk,o= .map es clk∧ZdK ka (fun m v=>PR R.w R.ok (.imap kb n fun _=>m) v) es clk (L ())
 |.mapIt ka n L seen cur=>(L ()=[]∧seen ()=[]∧∃sn,o= .mapIter none 0 sn 0)∨∃(m:Nat) (es:Array MapEntry) (clk:Nat) (sn:Array Nat) (l:List (MapEntry×(List Int×List Int))),o= .mapIter (some m) clk sn clk∧R.w.heap[m]? =some (.map es clk)∧R.ok m 0 1∧Zo5 ka (fun xs v=>v=Q2 n xs) l es clk (L ())∧
   (∀p∈l,sn.contains p.1.born=(seen ()).contains p.2.1)∧(seen ()≠ []→∃p∈l,sn.back?=some p.1.born∧p.2=cur ())
 |.any=>True
theorem Zh3.mono {R R':RC} {b:Nat} {o:Obj} {g:Gob} (h:Zh3 R b o g) (hr:R.le R'):Zh3 R' b o g:=by
 cases g with
 |chq c l=>exact⟨h.1,hr.cx.trans h.2.1,h.2.2⟩
 |mapL ka n L=>exact h
 |mapM ka kb n L=>
  obtain⟨es,clk,e,l,h1,h2,h3,h4,h5⟩:=h
  exact⟨es,clk,e,l,h1,h2,h3,h4,fun p hp=>⟨(h5 p hp).1,(h5 p hp).2.1.mono hr.ok hr.keep hr.keepM,(h5 p hp).2.2⟩⟩
 |mapIt ka n L seen cur=>
  rcases h with h|⟨m,es,clk,sn,l,h1,h2,h3,h4⟩
  ·exact .inl h
  ·exact .inr ⟨m,es,clk,sn,l,h1,hr.keepM m h3 es clk h2,hr.ok _ _ _ h3,h4⟩
 |any=>trivial
theorem Zh3.tr {R R':RC} {b:Nat} {o:Obj} {g:Gob} (h:Zh3 R b o g) (hw:R'.w=R.w) (hok:∀b o n,R.ok b o n→R'.ok b o n) (hcx:R'.cx=R.cx):Zh3 R' b o g:=by
 cases g with
 |chq c l=>exact⟨h.1,hcx.trans h.2.1,h.2.2⟩
 |mapL ka n L=>exact h
 |mapM ka kb n L=>
  obtain⟨es,clk,e,l,h1,h2,h3,h4,h5⟩:=h
  exact⟨es,clk,e,l,h1,h2,h3,h4,fun p hp=>⟨(h5 p hp).1,(h5 p hp).2.1.mono hok (fun _ _ _ _ _ _=>by rw[hw]) (fun _ _ _ _ h=>by rw[hw];exact h),(h5 p hp).2.2⟩⟩
 |mapIt ka n L seen cur=>
  rcases h with h|⟨m,es,clk,sn,l,h1,h2,h3,h4⟩
  ·exact .inl h
  ·exact .inr ⟨m,es,clk,sn,l,h1,by rw[hw];exact h2,hok _ _ _ h3,h4⟩
 |any=>trivial
def BR (R:RC) (id:Nat):Zi→Prop
 |.cells cs=>∃arr ty,R.w.heap[(R.α id).b]? =some (.cells arr ty (0,0))∧(R.α id).o+cs.length≤arr.size∧
   ∀j c,cs[j]? =some c→VR R c (arr.getD ((R.α id).o+j) undef)
 |.arr s n f=>∃arr ty,∃len:Nat,R.w.heap[(R.α id).b]? =some (.cells arr ty (0,0))∧n ()=(len:Int)∧(R.α id).o+len*s≤arr.size∧
   ∀i:Nat,i<len→(f (fun _=>(i:Int))).length=s∧∀j c,(f (fun _=>(i:Int)))[j]? =some c→PR R.w R.ok c (arr.getD ((R.α id).o+i*s+j) undef)
 |.tok s hw=>R.hw id=hw ()∧((hw ()=0∧∃a:Option Addr,R.hv id= .slice a 0 0)∨
   ∃(b o len cap:Nat),hw ()=(len:Int)∧len≤cap∧R.hv id= .slice (some ⟨b,o,none⟩) len cap∧
    (len<cap→∃(arr:Array Value) (ty:TypeId),R.w.heap[b]? =some (.cells arr ty (0,0))∧o+cap*s≤arr.size))
 |.gar s n f=>R.hw id=n ()∧((n ()=0∧∃a:Option Addr,R.hv id= .slice a 0 0)∨
   ∃(b o len cap:Nat) (arr:Array Value) (ty:TypeId),n ()=(len:Int)∧len≤cap∧R.hv id= .slice (some ⟨b,o,none⟩) len cap∧R.w.heap[b]? =some (.cells arr ty (0,0))∧o+cap*s≤arr.size∧
    ∀i:Nat,i<len→(f (fun _=>(i:Int))).length=s∧∀j c,(f (fun _=>(i:Int)))[j]? =some c→PR R.w R.ok c (arr.getD (o+i*s+j) undef))
 |.fro s n f=>R.hw id=n ()∧PR R.w R.ok (.isl s n f .none) (R.hv id)
 |.mapB m=>∃es clock,R.w.heap[(R.α id).b]? =some (.map es clock)∧Zuc es.toList m
 |.loop s d=>∃l,R.w.heap[(R.α id).b]? =some (.loop l)∧l.params=d.ps∧l.assign=d.a∧l.body=d.x∧l.state=d.st∧l.pending=d.pe∧SL R s l.tmps
 |.gob g=>∃o,R.w.heap[(R.α id).b]? =some o∧Zqs o=true∧Zh3 R (R.α id).b o g
 |.main=>R.cx=none
 |.dead=>True
def Zb5:Zi→Bool
 |.tok .. |.gar .. =>true
 |_=>false
structure HR (G:Nat→Nat→Nat→Prop) (R:RC) (h:List Zi):Prop where
 len:h.length=R.m
 okd:∀b o n,R.ok b o n↔b<R.w.heap.size∧G b o n∧ZfZ R h b o n
 blk:∀id blk,h[id]? =some blk→BR R id blk
 dis:∀i j bi bj b,i≠j→h[i]? =some bi→h[j]? =some bj→ZG R i bi b→¬ZG R j bj b
 cl:∀b o n o' n',G b o n→o≤o'→o'+n'≤o+n→G b o' n'
 fresh:∀b o n,R.w.heap.size≤b→G b o n
 tokG:∀id blk b,h[id]? =some blk→Zb5 blk=true→ZG R id blk b→∀o n,G b o n
 n0m:R.n0≤R.m
structure Xf (R:RC) (h:List Zi) (R':RC) (h':List Zi):Prop where
 n0:R'.n0=R.n0
 os:R'.w.os=R.w.os
 tape:R'.w.tape=R.w.tape
 output:R'.w.output=R.w.output
 size:R.w.heap.size≤R'.w.heap.size
 m:R.m≤R'.m
 α:∀id,id<R.m→R'.α id=R.α id
 ok:∀b o n,R.ok b o n→R'.ok b o n
 keep:∀b o n,R.ok b o n→∀j,j<n→R'.w.cell? ⟨b,o+j,none⟩=R.w.cell? ⟨b,o+j,none⟩
 frame:∀b,b<R.w.heap.size→(∀id blk,h[id]? =some blk→¬ZG R id blk b)→R'.w.heap[b]? =R.w.heap[b]?
 own:∀id blk b,h'[id]? =some blk→ZG R' id blk b→R.w.heap.size≤b∨∃id₁ blk₁,h[id₁]? =some blk₁∧ZG R id₁ blk₁ b∧(id₁=id∨R.n0≤id₁)
theorem Xf.refl (R:RC) (h:List Zi):Xf R h R h:=
 ⟨rfl,rfl,rfl,rfl,Nat.le_refl _,Nat.le_refl _,fun _ _=>rfl,fun _ _ _ k=>k,fun _ _ _ _ _ _=>rfl,fun _ _ _=>rfl,fun id blk b hi hp=>.inr ⟨id,blk,hi,hp,.inl rfl⟩⟩
theorem Xf.trans {R R' R'':RC} {h h' h'':List Zi} (x:Xf R h R' h') (y:Xf R' h' R'' h''):Xf R h R'' h'':=by
 have e:=x.n0
 refine⟨y.n0.trans x.n0,y.os.trans x.os,y.tape.trans x.tape,y.output.trans x.output,Nat.le_trans x.size y.size,Nat.le_trans x.m y.m,fun id hi=>(y.α id (Nat.lt_of_lt_of_le hi x.m)).trans (x.α id hi),
  fun b o n k=>y.ok _ _ _ (x.ok _ _ _ k),fun b o n k j hj=>(y.keep b o n (x.ok _ _ _ k) j hj).trans (x.keep b o n k j hj),fun b hb hn=>?_,fun id blk b hi hp=>?_⟩
 ·refine(y.frame b (Nat.lt_of_lt_of_le hb x.size) (fun id blk hi hp=>?_)).trans (x.frame b hb hn)
  rcases x.own id blk b hi hp with h1|⟨i1,b1,h1,h2,_⟩
  ·omega
  ·exact hn i1 b1 h1 h2
 ·rcases y.own id blk b hi hp with h1|⟨i1,b1,h1,h2,h3⟩
  ·exact .inl (Nat.le_trans x.size h1)
  ·rcases x.own i1 b1 b h1 h2 with h4|⟨i2,b2,h4,h5,h6⟩
   ·exact .inl h4
   ·refine .inr ⟨i2,b2,h4,h5,?_⟩
    omega
def Gof (R:RC) (h:List Zi):Nat→Nat→Nat→Prop:=fun b o n=>R.ok b o n∨R.w.heap.size≤b∨∃id blk,h[id]? =some blk∧Zb5 blk=true∧ZG R id blk b
theorem SL.mono {R R':RC} {s:List AV} {tmps:Array Value} (h:SL R s tmps) (hr:R.le R'):SL R' s tmps:=⟨h.1,fun i a hi=>(h.2 i a hi).mono hr⟩
theorem SL.getD {R:RC} {s:List AV} {tmps:Array Value} (h:SL R s tmps) (i:Nat):VR R (s.getD i .undef) (tmps.getD i undef):=by
 by_cases hi:i<s.length
 ·have:=h.2 i s[i] (List.getElem?_eq_getElem hi)
  rw[List.getD_eq_getElem?_getD,List.getElem?_eq_getElem hi]
  exact this
 ·rw[List.getD_eq_getElem?_getD,List.getElem?_eq_none (by omega)]
  exact .undef _
theorem SL.set {R:RC} {s:List AV} {tmps:Array Value} (h:SL R s tmps) {a:AV} {v:Value} (hv:VR R a v) (d:Nat):SL R (s.set d a) (tmps.setIfInBounds d v):=by
 refine⟨by simp[h.1],fun i x hi=>?_⟩
 rw[List.getElem?_set]at hi
 rw[Array.getD_eq_getD_getElem?,Array.getElem?_setIfInBounds]
 by_cases e:d=i
 ·subst e
  simp only[if_true]at hi⊢
  split at hi
  ·rename_i hlt
   rw[if_pos (by rw[h.1];exact hlt)]
   simp only[Option.some.injEq]at hi
   subst hi
   exact hv
  ·cases hi
 ·rw[if_neg e]at hi⊢
  rw[←Array.getD_eq_getD_getElem?]
  exact h.2 i x hi
theorem HR.sub {G:Nat→Nat→Nat→Prop} {R:RC} {h:List Zi} (H:HR G R h) {b o n o' n':Nat} (hk:R.ok b o n) (h1:o≤o') (h2:o'+n'≤o+n):R.ok b o' n':=by
 obtain⟨hb,hg,ha⟩:=(H.okd _ _ _).1 hk
 refine(H.okd _ _ _).2 ⟨hb,H.cl _ _ _ _ _ hg h1 h2,fun id blk hid=>?_⟩
 have:=ha id blk hid
 cases blk with
 |tok s hw=>exact fun a len cap hv hl hb'=>by have:=this a len cap hv hl hb';omega
 |_=>exact this
theorem HR.entry {G:Nat→Nat→Nat→Prop} {R:RC} {h:List Zi} (H:HR G R h):HR (Gof R h) R h:=by
 refine⟨H.len,fun b o n=>⟨fun k=>⟨((H.okd _ _ _).1 k).1,.inl k,((H.okd _ _ _).1 k).2.2⟩,fun⟨h1,h2,h3⟩=>?_⟩,H.blk,H.dis,fun b o n o' n' k h1 h2=>?_,fun _ _ _ h=>.inr (.inl h),fun id blk b hi hk hp o n=>.inr (.inr ⟨id,blk,hi,hk,hp⟩),H.n0m⟩
 ·rcases h2 with h2|h2|⟨id,blk,hi,hk,hp⟩
  ·exact h2
  ·omega
  ·exact(H.okd _ _ _).2 ⟨h1,H.tokG id blk b hi hk hp o n,h3⟩
 ·rcases k with k|k|k
  ·exact .inl (H.sub k h1 h2)
  ·exact .inr (.inl k)
  ·exact .inr (.inr k)
structure Imp (v w:AV):Prop where
 f:∀(R:RC) (u:Value),VR R v u→VR R w u
theorem Imp.refl (v:AV):Imp v v:=⟨fun _ _ h=>h⟩
inductive Cn where
 |d (P:Unit→Prop) (b:Unit→Bool) (ok:b ()=true→P ())
 |e (v w:Unit→AV)
 |i (g:Unit→Bool) (x:Cn)
def Cn.p:Cn→Prop
 |.d P _ _=>P ()
 |.e v w=>v ()=w ()∨Imp (v ()) (w ())
 |.i g x=>g ()=true→x.p
abbrev dd (P:Unit→Prop) [i:∀u,Decidable (P u)]:Cn:=.d P (fun u=>decide (P u)) of_decide_eq_true
abbrev Cd:=List Cn
def ZN (c:Cd):Prop:=∀x∈c,x.p
theorem Cn.out {P:Unit→Prop} {b:Unit→Bool} {ok:b ()=true→P ()} (h:(Cn.d P b ok).p):P ():=h
theorem Xm:ZN []:=fun _ h=>by cases h
theorem ZY {a b:Cd} (h:ZN (a++b)):ZN a∧ZN b:=⟨fun p hp=>h p (List.mem_append_left _ hp),fun p hp=>h p (List.mem_append_right _ hp)⟩
inductive TK where
 |struct (fs:List (Option (Nat×Nat×Bool)))
 |array (n esz:Nat)
 |slice (e:TypeId) (esz eb:Nat)
 |int (k:IntKind)
 |string|bool|ptr|map|func|other
structure TI where
 k:TK
 agg:Bool
 size:Nat
 bytes:Nat
 zero:Option Value
def ZaV:TypeDesc→Bool
 |.struct _|.array _ _=>true
 |_=>false
def ZaP (P:Program) (f:Field):Option (Nat×Nat×Bool):=
 match P.info? f.type,P.underlying f.type with
 |some i,some d=>some (f.offset,i.size,ZaV d)
 |_,_=>none
def Zx (P:Program) (t:TypeId):Option TI:=
 match P.info? t,P.underlying t with
 |some i,some d=>some {size:=i.size,bytes:=i.bytes,zero:=i.zero,agg:=ZaV d,k:=match d with
   |.struct fs=>.struct (fs.toList.map (ZaP P))
   |.array n e=>(match P.info? e with
    |some j=>.array n j.size
    |none=>.other)
   |.slice e=>(match P.info? e with
    |some j=>.slice e j.size j.bytes
    |none=>.other)
   |.int k=>.int k
   |.string=>.string
   |.bool=>.bool
   |.pointer _=>.ptr
   |.map _ _=>.map
   |.func .. =>.func
   |_=>.other}
 |_,_=>none
def ZaC:Value→AV
 |.bool b=>.bool (fun _=>b)
 |.int k n=>.int k (fun _=>n)
 |.string s=>.str (fun _=>s)
 |.pointer none=>.nilptr
 |.slice none 0 0=>.isl 0 (fun _=>0) (fun _=>[]) .nil
 |.map none=>.nilmap
 |.nilFunc=>.nilfn
 |_=>.undef
def Xr:Value→AV
 |.agg cs=>.agg (cs.toList.map ZaC)
 |v=>ZaC v
def ev (s:List AV):Operand→AV
 |.tmp t=>s.getD t .undef
 |.const v=>Xr v
 |.func f=>.fn f [] []
 |.global _=>.undef
def strip:AV→AV
 |.gd _ v=>v
 |.ob _ b=>.bool b
 |v=>v
def JQ:AV→Cd
 |.gd g _=>[dd fun _=>g ()=true]
 |.ob g _=>[dd fun _=>g ()=true]
 |_=>[]
def Zem (k:IntKind) (n:Unit→Int):AV×Cd:=match k with
 |.i64=>(.int .i64 n,[dd fun _=>-9223372036854775808≤n ()∧n ()≤9223372036854775807])
 |k=>(.int k (fun _=>k.wrap (n ())),[])
def ZqO (op:BinOp) (k:IntKind) (a b:Unit→Int):Option (AV×Cd):=match op with
 |.add=>some (Zem k fun _=>a ()+b ())
 |.sub=>some (Zem k fun _=>a ()-b ())
 |.mul=>some (Zem k fun _=>a ()*b ())
 |.lss=>some (.bool (fun _=>decide (a ()<b ())),[])
 |.leq=>some (.bool (fun _=>decide (a ()≤b ())),[])
 |.gtr=>some (.bool (fun _=>decide (a ()>b ())),[])
 |.geq=>some (.bool (fun _=>decide (a ()≥b ())),[])
 |.eql=>some (.bool (fun _=>a ()==b ()),[])
 |.neq=>some (.bool (fun _=>a () !=b ()),[])
 |.quo=>some ((Zem k fun _=>(a ()).tdiv (b ())).1,dd (fun _=>b ()≠0)::(Zem k fun _=>(a ()).tdiv (b ())).2)
 |.rem=>some (.int k (fun _=>(a ()).tmod (b ())),[dd fun _=>b ()≠0])
 |.and=>some (.int k (fun _=>k.wrap (BitVec.ofInt k.bits (a ())&&&BitVec.ofInt k.bits (b ())).toNat),[])
 |.or=>some (.int k (fun _=>k.wrap (BitVec.ofInt k.bits (a ())|||BitVec.ofInt k.bits (b ())).toNat),[])
 |.xor=>some (.int k (fun _=>k.wrap (BitVec.ofInt k.bits (a ())^^^BitVec.ofInt k.bits (b ())).toNat),[])
 |_=>none
def Zhd (op:BinOp) (k:IntKind) (a b:Unit→Int):Option (AV×Cd):=match op with
 |.shr=>some (.int k (fun _=>(a ()).fdiv (2^ min (b ()).toNat k.bits)),[dd fun _=>0≤b ()])
 |.shl=>some (.int k (fun _=>k.wrap (a ()*2^ min (b ()).toNat k.bits)),[dd fun _=>0≤b ()])
 |_=>none
theorem Za8 (n:Int) (h:-9223372036854775808≤n∧n≤9223372036854775807):IntKind.i64.wrap n=n:=by
 rw[IntKind.wrap_i64]
 omega
theorem ZbP {R:RC} (k:IntKind) (n:Unit→Int) (h:ZN (Zem k n).2):VR R (Zem k n).1 (.int k (k.wrap (n ()))):=by
 unfold Zem at*
 cases k with
 |i64=>have:=Cn.out (h _ (List.mem_singleton.2 rfl));rw[Za8 _ this];exact .pure _ _ (.int _ _)
 |_=>exact .pure _ _ (.int _ (fun _=>_))
section
variable {P:Program} {w:World}
theorem Xv {t:TypeId} {T:TI} (h:Zx P t=some T):∃i d,P.info? t=some i∧P.underlying t=some d∧T.size=i.size∧T.bytes=i.bytes∧T.zero=i.zero∧T.agg=ZaV d:=by
 unfold Zx at h
 split at h
 ·rename_i i d hi hd
  simp only[Option.some.injEq]at h
  subst h
  exact⟨i,d,hi,hd,rfl,rfl,rfl,rfl⟩
 ·cases h
theorem YZ {t:TypeId} {T:TI} {e:TypeId} {s b:Nat} (h:Zx P t=some T) (hk:T.k= .slice e s b):
  ∃j,P.underlying t=some (.slice e)∧P.info? e=some j∧j.size=s∧j.bytes=b:=by
 unfold Zx at h
 split at h
 ·rename_i i d hi hd
  simp only[Option.some.injEq]at h
  subst h
  cases d<;>simp only[]at hk<;>try (cases hk;done)
  all_goals (split at hk<;>simp_all)
 ·cases h
theorem Zib {t:TypeId} {T:TI} {n s:Nat} (h:Zx P t=some T) (hk:T.k= .array n s):
  ∃e j,P.underlying t=some (.array n e)∧P.info? e=some j∧j.size=s:=by
 unfold Zx at h
 split at h
 ·rename_i i d hi hd
  simp only[Option.some.injEq]at h
  subst h
  cases d<;>simp only[]at hk<;>try (cases hk;done)
  all_goals (split at hk<;>simp_all)
 ·cases h
theorem ZbG {t:TypeId} {T:TI} {l:List (Option (Nat×Nat×Bool))} (h:Zx P t=some T) (hk:T.k= .struct l):
  ∃fs,P.underlying t=some (.struct fs)∧l=fs.toList.map (ZaP P):=by
 unfold Zx at h
 split at h
 ·rename_i i d hi hd
  simp only[Option.some.injEq]at h
  subst h
  cases d<;>simp only[]at hk<;>try (cases hk;done)
  all_goals first
   |(simp only[TK.struct.injEq]at hk;exact⟨_,hd,hk.symm⟩)
   |(split at hk<;>simp_all)
 ·cases h
theorem ZmN {t:TypeId} {T:TI} {k:IntKind} (h:Zx P t=some T) (hk:T.k= .int k):P.underlying t=some (.int k):=by
 unfold Zx at h
 split at h
 ·rename_i i d hi hd
  simp only[Option.some.injEq]at h
  subst h
  cases d<;>simp only[]at hk<;>try (cases hk;done)
  all_goals first
   |(simp only[TK.int.injEq]at hk;rw[hd,hk])
   |(split at hk<;>simp_all)
 ·cases h
theorem Zby {f:Field} {o s:Nat} {g:Bool} (h:ZaP P f=some (o,s,g)):∃i d,P.info? f.type=some i∧P.underlying f.type=some d∧f.offset=o∧i.size=s∧ZaV d=g:=by
 unfold ZaP at h
 split at h
 ·rename_i i d hi hd
  simp only[Option.some.injEq,Prod.mk.injEq]at h
  exact⟨i,d,hi,hd,h.1,h.2.1,h.2.2⟩
 ·cases h
theorem Q4 {t:TypeId} {i:TypeInfo} (h:P.info? t=some i):(typeInfo t).run P w= .ok i w:=by
 simp[typeInfo,h]
theorem Zv {t:TypeId} {d:TypeDesc} (h:P.underlying t=some d):(underlying t).run P w= .ok d w:=by
 simp[underlying,h]
theorem Z6 {t:TypeId} {i:TypeInfo} (h:P.info? t=some i):(sizeOf t).run P w= .ok i.size w:=by
 simp[sizeOf,Q4 h]
theorem J9 {t:TypeId} {d:TypeDesc} (h:P.underlying t=some d):(isAgg t).run P w= .ok (ZaV d) w:=by
 cases d<;>simp[isAgg,Zv h,ZaV]
theorem QS (b o i:Nat):(⟨b,o,none⟩:Addr).add i=⟨b,o+i,none⟩:=by
 unfold Addr.add
 split
 ·rename_i h;subst h;rfl
 ·rfl
theorem ZdY {t:TypeId} {T:TI} (h:Zx P t=some T) (b o:Nat) (us:Nat→Value)
  (hc:∀j,j<(if T.agg then T.size else 1)→w.cell? ⟨b,o+j,none⟩=some (us j)):
  (loadVar t ⟨b,o,none⟩).run P w= .ok (if T.agg then .agg ((List.range T.size).map us).toArray else us 0) w:=by
 obtain⟨i,d,hi,hd,hs,_,_,ha⟩:=Xv h
 unfold loadVar
 simp only[Sem.run_bind,J9 hd,Result.andThen_ok]
 rw[←ha]
 cases hg:T.agg
 ·rw[hg]at hc
  have:=hc 0 (by simp)
  rw[Nat.add_zero]at this
  simp[this]
 ·rw[hg]at hc
  simp only[if_true,Sem.run_bind,Z6 hi,Result.andThen_ok,←hs]
  have hl:=run_loadCells (P:=P) w ⟨b,o,none⟩ T.size us (fun j hj=>by rw[QS];exact hc j (by simpa using hj))
  simp only[hl,Result.andThen_ok,Sem.run_pure]
end
end Go.Proofs.YtjgpiclllehgmaaGreat.Vm
namespace Go.Proofs.YtjgpiclllehgmaaGreat.Vm
open Go
def ZdU (T:TI) (cs:List AV) (off:Nat):Option AV:=
 if T.agg then(if Z4 (off+T.size) cs.length then some (.agg ((cs.drop off).take T.size))else none)else cs[off]?
def pos (b:Bool):Option Unit:=if b then some ()else none
def YW (h:List Zi) (id:Nat):Option (List AV):=match h[id]? with
 |some (.cells cs)=>some cs
 |_=>none
def Zjz:List (Unit→Int)→Int→Int
 |[],_=>0
 |a::r,e=>if e=0 then a ()else Zjz r (e-1)
def Zih:List (Unit→Bool)→Int→Bool
 |[],_=>false
 |a::r,e=>if e=0 then a ()else Zih r (e-1)
def ZgD:List AV→Option (List (Unit→Int))
 |[]=>some []
 |.int .i64 a::r=>(match ZgD r with
  |some l=>some (a::l)
  |none=>none)
 |_=>none
def ZdF:List AV→Option (List (Unit→Bool))
 |[]=>some []
 |.bool a::r=>(match ZdF r with
  |some l=>some (a::l)
  |none=>none)
 |_=>none
def Zll (cs:List AV) (e:Unit→Int):Option AV:=match ZgD cs with
 |some l=>some (.int .i64 fun _=>Zjz l (e ()))
 |none=>(match ZdF cs with
  |some l=>some (.bool fun _=>Zih l (e ()))
  |none=>none)
def bnd (e:Unit→Int) (n:Nat):Cd:=[dd fun _=>0≤e ()∧e ()<(n:Int)]
def ZgC (T:TI) (h:List Zi):AV→Option (AV×Cd)
 |.ptr id off=>(match YW h id with
  |some cs=>(ZdU T cs off).map (·,[])
  |none=>none)
 |.iptr cs off=>(ZdU T cs off).map (·,[])
 |.aptr id s e off=>(match h[id]? with
  |some (.arr s' n f)=>if ZC s s' then(ZdU T (f e) off).map (·,[dd fun _=>0≤e ()∧e ()<n ()])else none
  |some (.cells cs)=>if ZC s 1&&ZC off 0&& !T.agg then(match Zll cs e with
   |some v=>some (v,bnd e cs.length)
   |none=>none)else none
  |_=>none)
 |.gptr id s n e off=>(match h[id]? with
  |some (.gar s' m f)=>if ZC s s' then(ZdU T (f e) off).map (·,[dd fun _=>n ()=m ()∧0≤e ()∧e ()<m ()])else none
  |_=>none)
 |_=>none
def YN (T:TI) (x:AV) (i:Nat):Option (AV×Cd):=
 match T.k with
 |.struct fs=>(match fs[i]? with
  |some (some (off,sz,_))=>if ZC sz 0 then none else(match x with
   |.ptr id o=>some (.ptr id (o+off),[])
   |.iptr cs o=>some (.iptr cs (o+off),[])
   |.aptr id s e o=>some (.aptr id s e (o+off),[])
   |.gptr id s n e o=>some (.gptr id s n e (o+off),[])
   |_=>none)
  |_=>none)
 |_=>none
def Jy (T:TI) (x i:AV):Option (AV×Cd):=
 match i with
 |.int _ e=>(match T.k with
  |.slice _ esz _=>(match x with
   |.isl s n f _=>if ZC s esz then some (.iptr (f e) 0,[dd fun _=>0≤e ()∧e ()<n ()])else none
   |.msl id s lo n _=>if ZC s esz then some (.aptr id s (fun _=>lo ()+e ()) 0,[dd fun _=>0≤e ()∧e ()<n ()])else none
   |.gsl id n=>some (.gptr id esz n e 0,[dd fun _=>0≤e ()∧e ()<n ()])
   |_=>none)
  |.array n esz=>(match x with
   |.ptr id off=>some (.aptr id esz e off,bnd e n)
   |_=>none)
  |_=>none)
 |_=>none
def Zdv (P:Program) (rec:TypeId→Nat→Bool):List Field→Nat→Nat→Bool
 |[],_,s=>ZC s 0
 |f::fs,off,s=>f.name != "_" &&ZC f.offset off&&(match P.info? f.type with
  |some i=>Z4 i.size s&&rec f.type i.size&&Zdv P rec fs (off+i.size) (s-i.size)
  |none=>false)
def XH (P:Program):Nat→TypeId→Nat→Bool
 |0,_,_=>false
 |d+1,t,s=>(match P.underlying t with
  |some (.int _)=>ZC s 1
  |some (.struct fs)=> !P.stoodInHeld t&&Zdv P (XH P d) fs.toList 0 s
  |some (.array n e)=>(match P.info? e with
   |some i=>ZC (n*i.size) s&&XH P d e i.size
   |none=>false)
  |_=>false)
def Jx:IntKind→IntKind→Bool
 |.i8,.i8|.i16,.i16|.i32,.i32|.i64,.i64|.u8,.u8|.u16,.u16|.u32,.u32|.u64,.u64=>true
 |_,_=>false
theorem Zdn {j k:IntKind} (h:Jx j k=true):j=k:=by
 cases j<;>cases k<;>first|rfl|cases h
def ZF:List AV→List AV→Option (Unit→Bool)
 |[],[]=>some fun _=>true
 |.int j a::r,.int k b::s=>if Jx j k then(ZF r s).map fun g=>fun _=>a ()==b ()&&g ()else none
 |_,_=>none
def Zfm (k:IntKind) (mx:Bool):List AV→(Unit→Int)→Option (AV×Cd)
 |[],x=>some (.int k x,[])
 |.int _ y::r,x=>Zfm k mx r (if mx then fun _=>if y ()>x ()then y ()else x ()else fun _=>if y ()<x ()then y ()else x ())
 |_,_=>none
def AV.cellsOf:AV→List AV
 |.agg cs=>cs
 |v=>[v]
def putC (z:List AV) (off:Nat):List AV→List AV
 |[]=>z
 |v::r=>putC (z.set off v) (off+1) r
def Zcv (fs:List (Option (Nat×Nat×Bool))) (E:Operand→AV) (z:List AV):List (Nat×Operand)→Option (List AV)
 |[]=>some z
 |(i,x)::r=>(match fs[i]? with
  |some (some (off,sz,_))=>if ZC (E x).cellsOf.length sz&&Z4 (off+sz) z.length then Zcv fs E (putC z off (E x).cellsOf) r else none
  |_=>none)
def ZkP (t:Unit→Bool) (a b:AV):Option (AV×Cd):=match a,b with
 |.bool x,.bool y=>some (.bool (fun _=>bif t ()then x ()else y ()),[])
 |.gd g (.bool x),.bool y=>some (.bool (fun _=>bif t ()then x ()else y ()),[dd fun _=>t ()=true→g ()=true])
 |.bool x,.gd g (.bool y)=>some (.bool (fun _=>bif t ()then x ()else y ()),[dd fun _=>t ()=false→g ()=true])
 |.ob g x,.bool y=>some (.bool (fun _=>bif t ()then x ()else y ()),[dd fun _=>t ()=true→g ()=true])
 |.bool x,.ob g y=>some (.bool (fun _=>bif t ()then x ()else y ()),[dd fun _=>t ()=false→g ()=true])
 |.bool x,.undef=>some (.bool x,[dd fun _=>t ()=true])
 |.undef,.bool y=>some (.bool y,[dd fun _=>t ()=false])
 |_,_=>none
def ZkQ (c a b:AV):Option (AV×Cd):=match c with
 |.bool t=>ZkP t a b
 |.ob g t=>(match ZkP t a b with
  |some (v,cd)=>some (v,dd (fun _=>g ()=true)::cd)
  |none=>none)
 |_=>none
def Zew (T:TI) (x:AV) (lo hi mx:Option AV):Option (AV×Cd):=
 match T.k,x with
 |.slice _ esz _,.isl s n f _=>if !ZC s esz then none else(match lo,hi,mx with
  |none,none,none=>some (.isl s n f .none,[])
  |some (.int _ l),none,none=>some (.isl s (fun _=>n ()-l ()) (fun e=>f (fun _=>e ()+l ())) .none,[dd fun _=>0≤l ()∧l ()≤n ()])
  |none,some (.int _ h),none=>some (.isl s h f .none,[dd fun _=>0≤h ()∧h ()≤n ()])
  |some (.int _ l),some (.int _ h),none=>some (.isl s (fun _=>h ()-l ()) (fun e=>f (fun _=>e ()+l ())) .none,[dd fun _=>0≤l ()∧l ()≤h ()∧h ()≤n ()])
  |none,some (.int _ h),some (.int _ m)=>some (.isl s h f .exact,[dd fun _=>0≤h ()∧h ()=m ()∧h ()≤n ()])
  |_,_,_=>none)
 |.slice _ esz _,.msl id s o n c=>if !ZC s esz then none else(match lo,hi,mx with
  |some (.int _ l),none,none=>some (.msl id s (fun _=>o ()+l ()) (fun _=>n ()-l ()) (fun _=>c ()-l ()),[dd fun _=>0≤l ()∧l ()≤n ()∧(l ()=0∨l ()<c ())])
  |none,some (.int _ h),none=>some (.msl id s o h c,[dd fun _=>0≤h ()∧h ()≤n ()])
  |_,_,_=>none)
 |.array n esz,.ptr id off=>(match lo,hi,mx with
  |none,none,none=>if ltN 0 esz&&ZC (off/esz*esz) off then some (.msl id esz (fun _=>((off/esz:Nat):Int)) (fun _=>(n:Int)) (fun _=>(n:Int)),[])else none
  |_,_,_=>none)
 |_,_=>none
def zb:Option AV→Option Cd
 |none=>some []
 |some (.int _ l)=>some [dd fun _=>l ()=0]
 |_=>none
def ZeR (T:TI) (x:AV) (lo hi mx:Option AV):Option (AV×Cd):=match T.k,x with
 |.slice e esz b,.isl s n f .nil=>if ZC s esz then Zew T x lo hi mx else(match zb lo,zb hi,zb mx with
  |some a,some b,some c=>if mx.isNone||hi.isSome then some (.isl s n f .nil,a++(b++c))else none
  |_,_,_=>none)
 |_,_=>Zew T x lo hi mx
def plain:AV→Bool
 |.gd _ _|.ob _ _|.undef=>false
 |_=>true
def Zdj:Operand→Bool
 |.const (.slice none 0 0)=>true
 |_=>false
def Zcr (op:BinOp):AV→Option (AV×Cd)
 |.isl _ _ _ .nil=>(match op with
  |.eql=>some (.bool (fun _=>true),[])
  |.neq=>some (.bool (fun _=>false),[])
  |_=>none)
 |.isl _ _ _ .nn=>(match op with
  |.eql=>some (.bool (fun _=>false),[])
  |.neq=>some (.bool (fun _=>true),[])
  |_=>none)
 |.isl _ n _ _=>(match op with
  |.eql=>some (.bool (fun _=>false),[dd fun _=>0<n ()])
  |.neq=>some (.bool (fun _=>true),[dd fun _=>0<n ()])
  |_=>none)
 |_=>none
def Jz (P:Program) (t:TypeId) (n:Nat):Bool:=XH P 5 t n&& !P.eqGuardType P.depth t&&(match P.underlying t with
 |some d=>ZaV d
 |none=>false)
def ZdG (P:Program) (op:BinOp) (t:TypeId) (nl:Bool) (x y:AV):Option (AV×Cd):=
 if nl then(match P.underlying t with
  |some (.slice _)=>Zcr op x
  |_=>none)
 else match x,y with
  |.int k a,.int k' b=>(match op with
   |.shl|.shr=>Zhd op k a b
   |_=>if Jx k k' then ZqO op k a b else none)
  |.agg xs,.agg ys=>if Jz P t xs.length&&ZC xs.length ys.length then
     (match op with
     |.eql=>(ZF xs ys).map fun g=>(.bool g,[])
     |.neq=>(ZF xs ys).map fun g=>(.bool (fun _=> !g ()),[])
     |_=>none)else none
  |.bool a,.bool b=>(match P.underlying t with
   |some .bool=>(match op with
    |.eql=>some (.bool (fun _=>a ()==b ()),[])
    |.neq=>some (.bool (fun _=>a () !=b ()),[])
    |_=>none)
   |_=>none)
  |_,_=>none
def keyT (P:Program) (kt:TypeId):Nat→Bool
 |0=>(match P.underlying kt with
  |some (.int .i64)=>true
  |_=>false)
 |n+1=>XH P 5 kt (n+1)&&(match P.underlying kt with
  |some d=>ZaV d
  |none=>false)
structure TyF where
 un:TypeId→Option TypeDesc
 ti:TypeId→Option TI
 kT:TypeId→Nat→Bool
def tyP (P:Program):TyF:=⟨P.underlying,Zx P,keyT P⟩
structure TyF.le (A B:TyF):Prop where
 un:∀t d,A.un t=some d→B.un t=some d
 ti:∀t d,A.ti t=some d→B.ti t=some d
 kT:∀t n,A.kT t n=true→B.kT t n=true
def Zdq:List AV→Option (Unit→List Int)
 |[]=>some fun _=>[]
 |.int .i64 a::r=>(match Zdq r with
  |some g=>some fun _=>a ()::g ()
  |none=>none)
 |_=>none
def Zgb (A:TyF) (kt:TypeId) (ka:Nat):AV→Option (Unit→List Int)
 |.int .i64 a=>if ZC ka 0&&A.kT kt 0 then some fun _=>[a ()]else none
 |.agg cs=>if ZC ka cs.length&&ltN 0 cs.length&&A.kT kt cs.length then Zdq cs else none
 |_=>none
def isZ:Value→Bool
 |.int .i64 z=>decide (z=0)
 |_=>false
def zN:Option Value→Option Nat
 |some (.int .i64 z)=>if decide (z=0)then some 0 else none
 |some (.agg cs)=>if cs.toList.all isZ&&ltN 0 cs.size then some cs.size else none
 |_=>none
def zIs (A:TyF) (et:TypeId) (n:Nat):Bool:=match zN ((A.ti et).bind (·.zero))with
 |some m=>ZC m n
 |none=>false
def YE:Nat→(Unit→List Int)→List AV
 |0,_=>[]
 |n+1,d=>.int .i64 (fun _=>(d ()).headD 0)::YE n fun _=>(d ()).tail
def ZdT:Nat→(Unit→List Int)→AV
 |0,d=>.int .i64 fun _=>(d ()).headD 0
 |n+1,d=>.agg (YE (n+1) d)
def ZnX (ok:Bool) (v:AV) (b:Unit→Bool):AV:=match ok with
 |true=>.tup [v,.bool b]
 |false=>v
def ZcR (A:TyF) (kt et:TypeId) (ka n:Nat) (L:Unit→List (List Int×List Int)) (k:AV) (ok:Bool):Option (AV×Cd):=match Zgb A kt ka k with
 |some g=>if zIs A et n then some (ZnX ok (ZdT n fun _=>((L ()).lookup (g ())).getD []) fun _=>((L ()).lookup (g ())).isSome,[])else none
 |none=>none
def Jj (A:TyF) (t:TypeId) (m k:AV) (ok:Bool) (h:List Zi):Option (AV×Cd):=match A.un t with
 |some (.map kt et)=>(match m with
  |.map id=>(match h[id]? with
   |some (.mapB f)=>(match ok,k,A.un kt,(A.ti et).bind (·.zero)with
    |false,.int .i64 n,some (.int .i64),some (.bool false)=>some (.bool (f n),[])
    |_,_,_,_=>none)
   |some (.gob (.mapL ka n L))=>ZcR A kt et ka n L k ok
   |some (.gob (.mapM ka kb n L))=>(match Zgb A kt ka k,(A.ti et).bind (·.zero)with
    |some g,some (.map none)=>some (ZnX ok (.imap kb n fun _=>((L ()).lookup (g ())).getD []) fun _=>((L ()).lookup (g ())).isSome,[])
    |_,_=>none)
   |_=>none)
  |.imap ka n L=>ZcR A kt et ka n L k ok
  |_=>none)
 |_=>none
def ZhK (h:List Zi):AV→Option (AV×Cd)
 |.mit id=>(match h[id]? with
  |some (.gob (.mapIt ka n L seen cur))=>some (.tup [ZdT ka fun _=>(cur ()).1,ZdT n fun _=>(cur ()).2],[dd fun _=>seen ()≠ []])
  |_=>none)
 |_=>none
def Y6 (P:Program) (E:Operand→AV) (h:List Zi):Op→Option (AV×Cd)
 |.move x|.assign x=>some (E x,[])
 |.nilCheck x=>(match E x with
  |.ptr i o=>some (.ptr i o,[])
  |.iptr c o=>some (.iptr c o,[])
  |.aptr id s e o=>some (.aptr id s e o,[])
  |.gptr id s n e o=>some (.gptr id s n e o,[])
  |_=>none)
 |.pick c a b=>ZkQ (E c) (E a) (E b)
 |.load t a=>(match Zx P t with
  |some T=>ZgC T h (E a)
  |none=>none)
 |.fieldAddr t x f=>(match Zx P t with
  |some T=>YN T (E x) f
  |none=>none)
 |.indexAddr t x i=>(match Zx P t with
  |some T=>Jy T (E x) (E i)
  |none=>none)
 |.binOp op t x y _=>ZdG P op t (Zdj y) (E x) (E y)
 |.unOp .not _ x=>(match E x with
  |.bool a=>some (.bool (fun _=> !a ()),[])
  |_=>none)
 |.unOp .neg _ x=>(match E x with
  |.int k a=>some (Zem k fun _=>0-a ())
  |_=>none)
 |.convert s d x=>(match E x,Zx P s,Zx P d with
  |.int _ a,some _,some D=>(match D.k with
   |.int k=>some (Zem k a)
   |_=>none)
  |_,_,_=>none)
 |.extract x i=>(match E x with
  |.tup vs=>(match vs[i]? with
   |some v=>some (v,[])
   |none=>none)
  |_=>none)
 |.build t ps=>(match Zx P t with
  |some T=>(match T.k,T.zero with
   |.struct fs,some z=>if fs.all Option.isSome&&ps.toList.all (fun p=>plain (E p.2))then(Zcv fs E (Xr z).cellsOf ps.toList).map (fun cs=>(.agg cs,[]))else none
   |_,_=>none)
  |none=>none)
 |.index t x i=>(match E x,E i,P.underlying t with
  |.str s,.int _ e,some .string=>some (.int .u8 fun _=>((((s ())[(e ()).toNat]?).map UInt8.toNat).getD 0:Nat),[dd fun _=>0≤e ()∧e ()<((s ()).size:Int)])
  |.agg cs,.int _ e,some (.array n el)=>(match Zx P el with
   |some T=>if ZC T.size 1&& !T.agg&&ZC cs.length n then(match Zll cs e with
    |some v=>some (v,bnd e n)
    |none=>none)else none
   |none=>none)
  |_,_,_=>none)
 |.lookup t m k ok=>Jj (tyP P) t (E m) (E k) ok h
 |.entry x=>ZhK h (E x)
 |.field t x i=>(match Zx P t with
  |some T=>(match T.k,E x with
   |.struct fs,.agg cs=>(match fs[i]? with
    |some (some (off,sz,g))=>if g then(if Z4 (off+sz) cs.length then some (.agg ((cs.drop off).take sz),[])else none)else(match cs[off]? with
     |some v=>some (v,[])
     |none=>none)
    |_=>none)
   |_,_=>none)
  |none=>none)
 |.makeFunc (.func f) a b=>some (.fn f (a.toList.map E) (b.toList.map E),[])
 |.slice t x lo hi mx=>(match Zx P t with
  |some T=>ZeR T (E x) (lo.map E) (hi.map E) (mx.map E)
  |none=>none)
 |.call {callee:=.builtin .len,args,argTypes}=>(match args.toList.map E,argTypes.toList with
  |[.isl _ n _ _],t::_=>(match P.underlying t with
   |some (.slice _)=>some (.int .i64 n,[])
   |_=>none)
  |[.msl _ _ _ n _],t::_=>(match P.underlying t with
   |some (.slice _)=>some (.int .i64 n,[])
   |_=>none)
  |[.gsl _ n],t::_=>(match P.underlying t with
   |some (.slice _)=>some (.int .i64 n,[])
   |_=>none)
  |_,_=>none)
 |.call {callee:=.builtin .max,args,.. }=>(match args.toList.map E with
  |.int k x::r=>Zfm k true r x
  |_=>none)
 |.call {callee:=.builtin .min,args,.. }=>(match args.toList.map E with
  |.int k x::r=>Zfm k false r x
  |_=>none)
 |_=>none
section
variable {P:Program} {R:RC} {G:Nat→Nat→Nat→Prop} {h:List Zi}
def Row (R:RC) (b o:Nat) (cs:List AV):Prop:=∃us:Nat→Value,∀j c,cs[j]? =some c→R.w.cell? ⟨b,o+j,none⟩=some (us j)∧VR R c (us j)
theorem Zbc {t:TypeId} {T:TI} (hT:Zx P t=some T) {b o off:Nat} {cs:List AV} (H:Row R b o cs) {v:AV} (hv:ZdU T cs off=some v):
  ∃u,(loadVar t ⟨b,o+off,none⟩).run P R.w= .ok u R.w∧VR R v u:=by
 obtain⟨us,hu⟩:=H
 unfold ZdU at hv
 cases hg:T.agg
 ·rw[hg]at hv
  simp only[Bool.false_eq_true,if_false]at hv
  obtain⟨h1,h2⟩:=hu _ _ hv
  refine⟨us off,?_,h2⟩
  rw[ZdY hT b (o+off) (fun j=>us (off+j)) (fun j hj=>?_)]
  ·simp[hg]
  ·rw[hg]at hj
   have:j=0:=by simp at hj;omega
   subst this
   exact h1
 ·rw[hg]at hv
  simp only[if_true]at hv
  split at hv
  ·rename_i hle
   have hle:=Xc hle
   simp only[Option.some.injEq]at hv
   subst hv
   refine⟨_,ZdY hT b (o+off) (fun j=>us (off+j)) (fun j hj=>?_),?_⟩
   ·rw[hg]at hj
    simp only[if_true]at hj
    have:=(hu (off+j) _ (List.getElem?_eq_getElem (show off+j<cs.length by omega))).1
    rwa [←Nat.add_assoc]at this
   ·rw[hg]
    simp only[if_true]
    refine .agg _ _ (by simp;omega) (fun j c hj=>?_)
    rw[List.getElem?_take]at hj
    split at hj
    ·rename_i hlt
     rw[List.getElem?_drop]at hj
     have:=(hu _ _ hj).2
     simpa [hlt]using this
    ·cases hj
  ·cases hv
theorem YR {id:Nat} {cs:List AV} (h':YW h id=some cs):h[id]? =some (.cells cs):=by
 unfold YW at h'
 split at h'
 ·rename_i heq;simp only[Option.some.injEq]at h';subst h';exact heq
 ·cases h'
theorem Qd {w:World} {b i:Nat} {arr:Array Value} {ty:TypeId} {fr:Nat×Nat} (h:w.heap[b]? =some (.cells arr ty fr)) (hi:i<arr.size):
  w.cell? ⟨b,i,none⟩=some (arr.getD i undef):=by
 simp[World.cell?,h,hi,Array.getD]
theorem Zgs (H:HR G R h) {id:Nat} {cs:List AV} (h':YW h id=some cs):Row R (R.α id).b (R.α id).o cs:=by
 obtain⟨arr,ty,h1,h2,h3⟩:=H.blk id _ (YR h')
 refine⟨fun j=>arr.getD ((R.α id).o+j) undef,fun j c hj=>⟨Qd h1 ?_,h3 j c hj⟩⟩
 have:=(List.getElem?_eq_some_iff.1 hj).1
 omega
theorem Zif:∀(l:List (Unit→Int)) (i:Nat) (hi:i<l.length),Zjz l (i:Int)=l[i] ()
 |[],i,hi=>by simp at hi
 |a::r,0,hi=>by simp[Zjz]
 |a::r,i+1,hi=>by
  have h1:((i+1:Nat):Int)≠0:=by omega
  have h2:((i+1:Nat):Int)-1=(i:Int):=by omega
  simp only[Zjz,if_neg h1,h2,List.getElem_cons_succ]
  exact Zif r i (by simpa using hi)
theorem Zig:∀(l:List (Unit→Bool)) (i:Nat) (hi:i<l.length),Zih l (i:Int)=l[i] ()
 |[],i,hi=>by simp at hi
 |a::r,0,hi=>by simp[Zih]
 |a::r,i+1,hi=>by
  have h1:((i+1:Nat):Int)≠0:=by omega
  have h2:((i+1:Nat):Int)-1=(i:Int):=by omega
  simp only[Zih,if_neg h1,h2,List.getElem_cons_succ]
  exact Zig r i (by simpa using hi)
theorem Zdo:∀ {cs:List AV} {l:List (Unit→Int)},ZgD cs=some l→l.length=cs.length∧∀(i:Nat) (hi:i<l.length),cs[i]? =some (.int .i64 l[i])
 |[],l,h=>by
  simp only[ZgD,Option.some.injEq]at h
  subst h
  exact⟨rfl,fun i hi=>by simp at hi⟩
 |a::r,l,h=>by
  unfold ZgD at h
  split at h
  ·rename_i h0;cases h0
  ·rename_i a' r' h0
   cases h0
   split at h
   ·rename_i l' hl
    cases h
    obtain⟨h1,h2⟩:=Zdo hl
    refine⟨by simp[h1],fun i hi=>?_⟩
    cases i with
    |zero=>rfl
    |succ i=>exact h2 i (by simpa using hi)
   ·cases h
  ·cases h
theorem Zcw:∀ {cs:List AV} {l:List (Unit→Bool)},ZdF cs=some l→l.length=cs.length∧∀(i:Nat) (hi:i<l.length),cs[i]? =some (.bool l[i])
 |[],l,h=>by
  simp only[ZdF,Option.some.injEq]at h
  subst h
  exact⟨rfl,fun i hi=>by simp at hi⟩
 |a::r,l,h=>by
  unfold ZdF at h
  split at h
  ·rename_i h0;cases h0
  ·rename_i a' r' h0
   cases h0
   split at h
   ·rename_i l' hl
    cases h
    obtain⟨h1,h2⟩:=Zcw hl
    refine⟨by simp[h1],fun i hi=>?_⟩
    cases i with
    |zero=>rfl
    |succ i=>exact h2 i (by simpa using hi)
   ·cases h
  ·cases h
theorem ZkH {cs:List AV} {e:Unit→Int} {v:AV} (hv:Zll cs e=some v) {i:Nat} (he:e ()=(i:Int)) (hi:i<cs.length) {u:Value} (hu:∀c,cs[i]? =some c→VR R c u):VR R v u:=by
 unfold Zll at hv
 split at hv
 ·rename_i l hl
  cases hv
  obtain⟨h1,h2⟩:=Zdo hl
  have h3:=hu _ (h2 i (by omega))
  cases h3 with
  |pure _ _ hp=>
   cases hp
   have:(fun _:Unit=>Zjz l (e ()))=l[i]'(by omega):=funext fun _=>by rw[he,Zif l i (by omega)]
   rw[this]
   exact .pure _ _ (.int _ _)
 ·split at hv
  ·rename_i l hl
   cases hv
   obtain⟨h1,h2⟩:=Zcw hl
   have h3:=hu _ (h2 i (by omega))
   cases h3 with
   |pure _ _ hp=>
    cases hp
    have:(fun _:Unit=>Zih l (e ()))=l[i]'(by omega):=funext fun _=>by rw[he,Zig l i (by omega)]
    rw[this]
    exact .pure _ _ (.bool _)
  ·cases hv
theorem ZiE {t:TypeId} {T:TI} (hT:Zx P t=some T) (H:HR G R h) {a v:AV} {c:Cd} {u:Value} (ha:VR R a u)
  (hv:ZgC T h a=some (v,c)) (hc:ZN c):∃x,(Instr.loadAt t u).run P R.w= .ok x R.w∧VR R v x:=by
 unfold ZgC at hv
 cases a with
 |ptr id off=>
  cases ha with
  |pure _ _ hp=>cases hp
  |ptr _ _ hid=>
  simp only at hv
  split at hv
  ·rename_i cs hcs
   simp only[Option.map_eq_some_iff,Prod.mk.injEq]at hv
   obtain⟨v',hv',rfl,rfl⟩:=hv
   obtain⟨x,hx,hvr⟩:=Zbc hT (Zgs H hcs) hv'
   exact⟨x,by simp[Instr.loadAt,Instr.sureAddr,hx],hvr⟩
  ·cases hv
 |iptr cs off=>
  cases ha with
  |pure _ _ hp=>
  cases hp with
  |iptr _ _ b o us h1 h2 h3=>
  simp only[Option.map_eq_some_iff,Prod.mk.injEq]at hv
  obtain⟨v',hv',rfl,rfl⟩:=hv
  obtain⟨x,hx,hvr⟩:=Zbc (b:=b) (o:=o) hT ⟨us,fun j c hj=>⟨h1 j c hj,.pure _ _ (h2 j c hj)⟩⟩ hv'
  exact⟨x,by simp[Instr.loadAt,Instr.sureAddr,hx],hvr⟩
 |aptr id s e off=>
  cases ha with
  |pure _ _ hp=>cases hp
  |aptr _ _ _ _ i hid he=>
  simp only at hv
  split at hv
  ·rename_i s' n f hb
   split at hv
   ·rename_i hs
    have hs:=Zz hs
    subst hs
    simp only[Option.map_eq_some_iff,Prod.mk.injEq]at hv
    obtain⟨v',hv',rfl,rfl⟩:=hv
    have hr:=(Cn.out (hc _ (List.mem_singleton.2 rfl)))
    obtain⟨arr,ty,len,h1,hn,h2,h3⟩:=H.blk id _ hb
    rw[he,hn]at hr
    have hi:i<len:=by omega
    obtain⟨hl,hcell⟩:=h3 i hi
    have hfe:f e=f (fun _=>(i:Int)):=congrArg f (funext fun _=>he)
    rw[hfe]at hv'
    have hlt:i*s+s≤len*s:=by
     have:(i+1)*s≤len*s:=Nat.mul_le_mul_right s hi
     rwa [Nat.succ_mul]at this
    obtain⟨x,hx,hvr⟩:=Zbc (b:=(R.α id).b) (o:=(R.α id).o+i*s) hT ⟨fun j=>arr.getD ((R.α id).o+i*s+j) undef,fun j c hj=>
     ⟨Qd h1 (by have:=(List.getElem?_eq_some_iff.1 hj).1;omega),.pure _ _ (hcell j c hj)⟩⟩ hv'
    exact⟨x,by simp[Instr.loadAt,Instr.sureAddr,hx],hvr⟩
   ·cases hv
  ·rename_i cs hb
   split at hv
   ·rename_i hcd
    simp only[Bool.and_eq_true,Bool.not_eq_true']at hcd
    obtain⟨⟨hs,ho⟩,hag⟩:=hcd
    have hs:=Zz hs
    have ho:=Zz ho
    subst hs ho
    split at hv
    ·rename_i v' hsel
     cases hv
     obtain⟨r1,r2⟩:=(Cn.out (hc _ (List.mem_singleton.2 rfl)))
     have hi:i<cs.length:=by omega
     obtain⟨us,hus⟩:=Zgs H (show YW h id=some cs by unfold YW;rw[hb])
     obtain⟨c0,hc0⟩:∃c0,cs[i]? =some c0:=⟨_,List.getElem?_eq_getElem hi⟩
     obtain⟨k1,k2⟩:=hus i c0 hc0
     obtain⟨x,hx,hvr⟩:=Zbc (b:=(R.α id).b) (o:=(R.α id).o+i) (off:=0) (cs:=[c0]) (v:=c0) hT ⟨fun _=>us i,fun j c hj=>by
      cases j with
      |zero=>simp at hj;subst hj;exact⟨k1,k2⟩
      |succ j=>simp at hj⟩ (by unfold ZdU;rw[if_neg (by simp[hag])];rfl)
     refine⟨x,by simpa [Instr.loadAt,Instr.sureAddr]using hx,ZkH hsel he hi fun c hcc=>?_⟩
     rw[hc0]at hcc
     cases hcc
     exact hvr
    ·cases hv
   ·cases hv
  ·cases hv
 |gptr id s n e off=>
  cases ha with
  |pure _ _ hp=>cases hp
  |gptr _ _ _ _ _ a hid hnl he=>
  simp only at hv
  have key:∀(s':Nat) (m:Unit→Int) (f:(Unit→Int)→List AV),R.hw id=m ()→Zvj R s' m f (R.hv id)→(if ZC s s' then(ZdU T (f e) off).map (·,[dd fun _=>n ()=m ()∧0≤e ()∧e ()<m ()])else none)=some (v,c)→∃x,(Instr.loadAt t (.pointer (some a))).run P R.w= .ok x R.w∧VR R v x:=by
   intro s' m f hhw hbt hv
   split at hv
   ·rename_i hs
    have hs:=Zz hs
    subst hs
    simp only[Option.map_eq_some_iff,Prod.mk.injEq]at hv
    obtain⟨v',hv',rfl,rfl⟩:=hv
    obtain⟨hnm,hr⟩:=(Cn.out (hc _ (List.mem_singleton.2 rfl)))
    obtain⟨b,o,i,l,cp,g0,hei,rfl⟩:=he (by rw[hnm,hhw])
    rcases hbt with⟨hz0,_⟩|⟨b',o',len,cap,arr,ty,g1,g2,g3,g4,g5,g6⟩
    ·omega
    ·rw[g0]at g3
     cases g3
     have hi:i<l:=by omega
     obtain⟨hl,hcell⟩:=g6 i hi
     have hfe:f e=f (fun _=>(i:Int)):=congrArg f (funext fun _=>hei)
     rw[hfe]at hv'
     have hlt:i*s+s≤l*s:=by
      have:(i+1)*s≤l*s:=Nat.mul_le_mul_right s hi
      rwa [Nat.succ_mul]at this
     have hlc:l*s≤cp*s:=Nat.mul_le_mul_right s g2
     obtain⟨x,hx,hvr⟩:=Zbc (b:=b) (o:=o+i*s) hT ⟨fun j=>arr.getD (o+i*s+j) undef,fun j c hj=>
      ⟨Qd g4 (by have:=(List.getElem?_eq_some_iff.1 hj).1;omega),hcell j c hj⟩⟩ hv'
     exact⟨x,by simp[Instr.loadAt,Instr.sureAddr,hx],hvr⟩
   ·cases hv
  split at hv
  ·rename_i s' m f hb
   obtain⟨hhw,hbt⟩:=H.blk id _ hb
   refine key s' m f hhw ?_ hv
   rcases hbt with h0|⟨b',o',len,cap,arr,ty,g1,g2,g3,g4,g5,g6⟩
   ·exact .inl h0
   ·exact .inr ⟨b',o',len,cap,arr,ty,g1,g2,g3,g4,g5,fun i hi=>⟨(g6 i hi).1,fun j c hj=>.pure _ _ ((g6 i hi).2 j c hj)⟩⟩
  ·cases hv
 |_=>cases hv
end
end Go.Proofs.YtjgpiclllehgmaaGreat.Vm
namespace Go.Proofs.YtjgpiclllehgmaaGreat.Vm
open Go
section
variable {P:Program} {R:RC} {G:Nat→Nat→Nat→Prop} {h:List Zi}
theorem VR.int_inv {k:IntKind} {n:Unit→Int} {u:Value} (h:VR R (.int k n) u):u= .int k (n ()):=by
 cases h with
 |pure _ _ hp=>cases hp;rfl
theorem VR.bool_inv {b:Unit→Bool} {u:Value} (h:VR R (.bool b) u):u= .bool (b ()):=by
 cases h with
 |pure _ _ hp=>cases hp;rfl
theorem VR.isl_inv {s:Nat} {n:Unit→Int} {f:(Unit→Int)→List AV} {tk:Tk} {u:Value} (h:VR R (.isl s n f tk) u):PR R.w R.ok (.isl s n f .none) u:=by
 cases h with
 |pure _ _ hp=>
  cases hp with
  |isl0 _ _ _ _ h ht=>exact .isl0 _ _ _ _ h rfl
  |islE _ _ _ _ a h ht=>exact .islE _ _ _ _ a h (.inl rfl)
  |isl _ _ _ _ b o len cap us hn hc ht he hl h1 h2 h3=>exact .isl _ _ _ _ b o len cap us hn hc (.inl rfl) (fun h=>by cases h) hl h1 h2 h3
 |own _ _ _ _ _ _ hp _ _=>exact hp
 |nn _ _ _ _ hp _=>exact hp
theorem VR.agg_inv {cs:List AV} {u:Value} (h:VR R (.agg cs) u):∃us:Array Value,u= .agg us∧cs.length=us.size∧∀j c,cs[j]? =some c→VR R c (us.getD j Go.undef):=by
 cases h with
 |pure _ _ hp=>cases hp
 |agg _ us ha h=>exact⟨us,rfl,ha,h⟩
theorem VR.tup_inv {cs:List AV} {u:Value} (h:VR R (.tup cs) u):∃us:Array Value,u= .tuple us∧cs.length=us.size∧∀j c,cs[j]? =some c→VR R c (us.getD j Go.undef):=by
 cases h with
 |pure _ _ hp=>cases hp
 |tup _ us ha h=>exact⟨us,rfl,ha,h⟩
theorem VR.ob_inv {g b:Unit→Bool} {u:Value} (h:VR R (.ob g b) u) (hg:g ()=true):u= .bool (b ()):=by
 cases h with
 |pure _ _ h=>cases h
 |ob _ _ _ h1 h2=>exact h1 hg
theorem VR.ob_none {g b:Unit→Bool} {u:Value} (h:VR R (.ob g b) u) (hg:g ()=false):u=Go.undef:=by
 cases h with
 |pure _ _ h=>cases h
 |ob _ _ _ h1 h2=>exact h2 hg
theorem VR.gd_inv {g:Unit→Bool} {v:AV} {u:Value} (h:VR R (.gd g v) u) (hg:g ()=true):VR R v u:=by
 cases h with
 |pure _ _ hp=>cases hp
 |gd _ _ _ h=>exact h hg
theorem VR.mkInt {k:IntKind} {n:Unit→Int} {x:Int} (e:n ()=x):VR R (.int k n) (.int k x):=e▸ .pure _ _ (.int k n)
theorem VR.mkBool {b:Unit→Bool} {x:Bool} (e:b ()=x):VR R (.bool b) (.bool x):=e▸ .pure _ _ (.bool b)
theorem Zge {t:TypeId} {T:TI} (hT:Zx P t=some T) {x v:AV} {i:Nat} {c:Cd} {u:Value} (hx:VR R x u) (hv:YN T x i=some (v,c)):
  ∃y,(Instr.fieldAt t u i).run P R.w= .ok y R.w∧VR R v y:=by
 unfold YN at hv
 split at hv
 ·rename_i fs hk
  obtain⟨fl,hu,rfl⟩:=ZbG hT hk
  split at hv
  ·rename_i off sz g hf
   split at hv
   ·cases hv
   ·rename_i hz
    rw[List.getElem?_map,Option.map_eq_some_iff]at hf
    obtain⟨f,hf1,hf2⟩:=hf
    obtain⟨j,d,hj,hd,ho,hs,_⟩:=Zby hf2
    have hz':j.size≠0:=by
     rw[hs];intro e;rw[e]at hz;exact hz rfl
    have hfa:fl[i]? =some f:=by rw[←hf1,Array.getElem?_toList]
    have run:∀a:Addr,(Instr.fieldAt t (.pointer (some a)) i).run P R.w= .ok (.pointer (some (a.add off))) R.w:=fun a=>by
     simp[Instr.fieldAt,Zv hu,hfa,Instr.sureAddr,fieldPlace,Z6 hj,hz',ho]
    split at hv
    ·cases hx with
     |pure _ _ hp=>cases hp
     |ptr id o hid=>
      simp only[Option.some.injEq,Prod.mk.injEq]at hv
      obtain⟨rfl,rfl⟩:=hv
      exact⟨_,run _,by rw[QS,Nat.add_assoc];exact .ptr _ _ hid⟩
    ·cases hx with
     |pure _ _ hp=>
     cases hp with
     |iptr cs o b o' us h1 h2 h3=>
      simp only[Option.some.injEq,Prod.mk.injEq]at hv
      obtain⟨rfl,rfl⟩:=hv
      exact⟨_,run _,by rw[QS,Nat.add_assoc];exact .pure _ _ (.iptr _ _ b o' us h1 h2 h3)⟩
    ·cases hx with
     |pure _ _ hp=>cases hp
     |aptr id s e o k hid he=>
      simp only[Option.some.injEq,Prod.mk.injEq]at hv
      obtain⟨rfl,rfl⟩:=hv
      exact⟨_,run _,by rw[QS,Nat.add_assoc];exact .aptr _ _ _ _ k hid he⟩
    ·cases hx with
     |pure _ _ hp=>cases hp
     |gptr id s n e o a hid hn he=>
      simp only[Option.some.injEq,Prod.mk.injEq]at hv
      obtain⟨rfl,rfl⟩:=hv
      exact⟨_,run _,.gptr _ _ _ _ _ _ hid hn fun e'=>by
       obtain⟨b,o',k,l,c,h1,h2,rfl⟩:=he e'
       exact⟨b,o',k,l,c,h1,h2,by rw[QS,Nat.add_assoc]⟩⟩
    ·cases hv
  ·cases hv
 ·cases hv
theorem Zgc {t:TypeId} {T:TI} (hT:Zx P t=some T) (H:HR G R h) {x i v:AV} {c:Cd} {u ui:Value} (hx:VR R x u) (hi:VR R i ui)
  (hv:Jy T x i=some (v,c)) (hc:ZN c):∃y,(Instr.indexAt t u ui).run P R.w= .ok y R.w∧VR R v y:=by
 unfold Jy at hv
 split at hv
 ·rename_i k e
  rw[hi.int_inv]
  split at hv
  ·rename_i el esz eb hk
   obtain⟨j,hu,hj,hs,_⟩:=YZ hT hk
   have hsl:=hu
   split at hv
   ·rename_i s n f tk
    split at hv
    ·rename_i hse
     have hse:=Zz hse
     subst hse
     simp only[Option.some.injEq,Prod.mk.injEq]at hv
     obtain⟨rfl,rfl⟩:=hv
     obtain⟨h0,h1⟩:=(Cn.out (hc _ (List.mem_singleton.2 rfl)))
     have hp:=hx.isl_inv
     cases hp with
     |isl0 _ _ _ _ hz _=>omega
     |islE _ _ _ _ _ hz _=>omega
     |isl _ _ _ _ b o len cap us hn hcap ht he hl hu1 hu2 hok=>
      obtain⟨i,hi'⟩:=Int.eq_ofNat_of_zero_le h0
      have hlt:i<len:=by omega
      have hfe:f e=f (fun _=>(i:Int)):=congrArg f (funext fun _=>hi')
      refine⟨.pointer (some ⟨b,o+i*s,none⟩),?_,?_⟩
      ·rw[hi']
       simp[Instr.indexAt,asIntOf,Zv hu,hlt,Z6 hj,QS,hs]
      ·rw[hfe]
       have hle:i*s+s≤len*s:=by
        have:(i+1)*s≤len*s:=Nat.mul_le_mul_right s hlt
        rwa [Nat.succ_mul]at this
       have:=PR.iptr (w:=R.w) (ok:=R.ok) (f fun _=>(i:Int)) 0 b (o+i*s) (us i) (fun j c hj=>hu1 i j c hlt hj) (fun j c hj=>hu2 i j c hlt hj) (H.sub hok (by omega) (by rw[hl i hlt];omega))
       exact .pure _ _ this
    ·cases hv
   ·rename_i id s lo n cp
    split at hv
    ·rename_i hse
     have hse:=Zz hse
     subst hse
     simp only[Option.some.injEq,Prod.mk.injEq]at hv
     obtain⟨rfl,rfl⟩:=hv
     obtain⟨h0,h1⟩:=(Cn.out (hc _ (List.mem_singleton.2 rfl)))
     cases hx with
     |pure _ _ hp=>cases hp
     |msl _ _ _ _ _ i0 len cap hid hlo hn hcp hle=>
      obtain⟨i,hi'⟩:=Int.eq_ofNat_of_zero_le h0
      have hlt:i<len:=by omega
      refine⟨.pointer (some ⟨(R.α id).b,(R.α id).o+(i0+i)*s,none⟩),?_,?_⟩
      ·rw[hi']
       simp[Instr.indexAt,asIntOf,Zv hu,hlt,Z6 hj,QS,hs,Nat.add_mul,Nat.add_assoc]
      ·exact .aptr id s _ 0 (i0+i) hid (by rw[hlo,hi'];omega)
    ·cases hv
   ·rename_i id n
    simp only[Option.some.injEq,Prod.mk.injEq]at hv
    obtain⟨rfl,rfl⟩:=hv
    obtain⟨h0,h1⟩:=(Cn.out (hc _ (List.mem_singleton.2 rfl)))
    cases hx with
    |pure _ _ hp=>cases hp
    |gsl _ _ a l c' hid hn he hl=>
     obtain⟨i,hi'⟩:=Int.eq_ofNat_of_zero_le h0
     obtain⟨hl,⟨_,hl0⟩|⟨b,o,rfl⟩⟩:=hl
     ·omega
     ·have hlt:i<l:=by omega
      refine⟨.pointer (some ⟨b,o+i*esz,none⟩),?_,?_⟩
      ·rw[hi']
       simp[Instr.indexAt,asIntOf,Zv hu,hlt,Z6 hj,QS,hs]
      ·exact .gptr id esz _ _ 0 _ hid hn fun hh=>⟨b,o,i,l,c',(he hh).symm,hi',rfl⟩
   ·cases hv
  ·rename_i n esz hk
   obtain⟨el,j,hu,hj,hs⟩:=Zib hT hk
   split at hv
   ·rename_i id off
    cases hv
    obtain⟨h0,h1⟩:=(Cn.out (hc _ (List.mem_singleton.2 rfl)))
    cases hx with
    |pure _ _ hp=>cases hp
    |ptr _ _ hid=>
     obtain⟨i,hi'⟩:=Int.eq_ofNat_of_zero_le h0
     have hlt:i<n:=by omega
     refine⟨.pointer (some ⟨(R.α id).b,(R.α id).o+i*esz+off,none⟩),?_,.aptr id esz _ off i hid hi'⟩
     rw[hi']
     simp[Instr.indexAt,asIntOf,Zv hu,hlt,Z6 hj,Instr.sureAddr,QS,hs]
     omega
   ·cases hv
  ·cases hv
 ·cases hv
theorem Zf4 (op:BinOp) (t:TypeId) (x y:Operand) (k k':IntKind) (a b:Int):(eqGuard op t x y (.int k a) (.int k' b)).run P R.w= .ok () R.w:=by
 cases op<;>simp[eqGuard]
theorem ZqN (op:BinOp) (t:TypeId) (k:IntKind) (a b:Unit→Int) (v:AV) (c:Cd) (hv:ZqO op k a b=some (v,c)) (hc:ZN c):
  ∃u,(binOp op t (.int k (a ())) (.int k (b ()))).run P R.w= .ok u R.w∧VR R v u:=by
 cases op<;>simp only[ZqO]at hv<;>(try (cases hv;done))<;>simp only[Option.some.injEq,Prod.mk.injEq]at hv
 case add=>obtain rfl:=(Prod.mk.inj hv).1;obtain rfl:=(Prod.mk.inj hv).2;exact⟨_,by simp[binOp,Op.intArith],ZbP k _ hc⟩
 case sub=>obtain rfl:=(Prod.mk.inj hv).1;obtain rfl:=(Prod.mk.inj hv).2;exact⟨_,by simp[binOp,Op.intArith],ZbP k _ hc⟩
 case mul=>obtain rfl:=(Prod.mk.inj hv).1;obtain rfl:=(Prod.mk.inj hv).2;exact⟨_,by simp[binOp,Op.intArith],ZbP k _ hc⟩
 case quo=>
  obtain⟨rfl,rfl⟩:=hv
  have h0:b ()≠0:=(Cn.out (hc _ (List.mem_cons_self ..)))
  exact⟨_,by simp[binOp,Op.intDiv,h0],ZbP k _ (fun p hp=>hc p (List.mem_cons_of_mem _ hp))⟩
 case rem=>
  obtain⟨rfl,rfl⟩:=hv
  have h0:b ()≠0:=(Cn.out (hc _ (List.mem_singleton.2 rfl)))
  exact⟨_,by simp[binOp,Op.intDiv,h0],.mkInt rfl⟩
 case and=>obtain⟨rfl,rfl⟩:=hv;exact⟨_,by simp[binOp,Op.intBits],.mkInt rfl⟩
 case or=>obtain⟨rfl,rfl⟩:=hv;exact⟨_,by simp[binOp,Op.intBits],.mkInt rfl⟩
 case xor=>obtain⟨rfl,rfl⟩:=hv;exact⟨_,by simp[binOp,Op.intBits],.mkInt rfl⟩
 case eql=>obtain⟨rfl,rfl⟩:=hv;exact⟨_,by simp[binOp,Op.intCmp],.mkBool rfl⟩
 case neq=>obtain⟨rfl,rfl⟩:=hv;exact⟨_,by simp[binOp,Op.intCmp],.mkBool rfl⟩
 case lss=>obtain⟨rfl,rfl⟩:=hv;exact⟨_,by simp[binOp,Op.intCmp],.mkBool rfl⟩
 case leq=>obtain⟨rfl,rfl⟩:=hv;exact⟨_,by simp[binOp,Op.intCmp],.mkBool rfl⟩
 case gtr=>obtain⟨rfl,rfl⟩:=hv;exact⟨_,by simp[binOp,Op.intCmp],.mkBool rfl⟩
 case geq=>obtain⟨rfl,rfl⟩:=hv;exact⟨_,by simp[binOp,Op.intCmp],.mkBool rfl⟩
theorem Zgp (op:BinOp) (t:TypeId) (k k':IntKind) (a b:Unit→Int) (v:AV) (c:Cd) (hv:Zhd op k a b=some (v,c)) (hc:ZN c):
  ∃u,(binOp op t (.int k (a ())) (.int k' (b ()))).run P R.w= .ok u R.w∧VR R v u:=by
 cases op<;>simp only[Zhd]at hv<;>(try (cases hv;done))<;>simp only[Option.some.injEq,Prod.mk.injEq]at hv<;>obtain⟨rfl,rfl⟩:=hv
 all_goals
  have h0:¬b ()<0:=by have:=(Cn.out (hc _ (List.mem_singleton.2 rfl)));omega
  exact⟨_,by simp[binOp,Op.shift,h0],.mkInt rfl⟩
theorem Zhy (mx:Bool):∀(l:List AV) (us:List Value) (k:IntKind) (x:Unit→Int) (v:AV) (c:Cd),Zfm k mx l x=some (v,c)→l.length=us.length→
  (∀j a,l[j]? =some a→VR R a (us.getD j Go.undef))→∃u,(us.foldlM (if mx then Builtin.max2 else Builtin.min2) (.int k (x ()))).run P R.w= .ok u R.w∧VR R v u
 |[],us,k,x,v,c,hv,hl,_=>by
  have:us=[]:=List.eq_nil_of_length_eq_zero (by simpa using hl.symm)
  subst this
  simp only[Zfm,Option.some.injEq,Prod.mk.injEq]at hv
  obtain⟨rfl,rfl⟩:=hv
  exact⟨_,rfl,.mkInt rfl⟩
 |a::l,us,k,x,v,c,hv,hl,hu=>by
  obtain⟨u,us,rfl⟩:∃u us',us=u::us':=by
   cases us with
   |nil=>simp at hl
   |cons u us=>exact⟨u,us,rfl⟩
  cases a with
  |int k' y=>
   have h0:=(hu 0 _ rfl).int_inv
   simp only[List.getD_cons_zero]at h0
   subst h0
   simp only[Zfm]at hv
   obtain⟨w,h1,h2⟩:=Zhy mx l us k _ v c hv (by simpa using hl) (fun j a hj=>by simpa using hu (j+1) a (by simpa using hj))
   refine⟨w,?_,h2⟩
   rw[List.foldlM_cons]
   cases mx<;>simpa [Builtin.max2,Builtin.min2]using h1
  |_=>simp[Zfm]at hv
end
end Go.Proofs.YtjgpiclllehgmaaGreat.Vm
namespace Go.Proofs.YtjgpiclllehgmaaGreat.Vm
open Go
section
variable {P:Program} {R:RC} {G:Nat→Nat→Nat→Prop} {h:List Zi}
theorem Ym:∀(l z:List AV) (off:Nat),(putC z off l).length=z.length
 |[],z,off=>rfl
 |v::l,z,off=>by simp only[putC];rw[Ym l];simp
def XZ (R:RC) (cs:List AV) (us:Array Value):Prop:=cs.length=us.size∧∀j c,cs[j]? =some c→VR R c (us.getD j Go.undef)
theorem XZ.set {cs:List AV} {us:Array Value} (H:XZ R cs us) {a:AV} {v:Value} (hv:VR R a v) (d:Nat):XZ R (cs.set d a) (us.setIfInBounds d v):=by
 refine⟨by simp[H.1],fun i x hi=>?_⟩
 rw[List.getElem?_set]at hi
 rw[Array.getD_eq_getD_getElem?,Array.getElem?_setIfInBounds]
 by_cases e:d=i
 ·subst e
  simp only[if_true]at hi⊢
  split at hi
  ·rename_i hlt
   rw[if_pos (by rw[←H.1];exact hlt)]
   simp only[Option.some.injEq]at hi
   subst hi
   exact hv
  ·cases hi
 ·rw[if_neg e]at hi⊢
  rw[←Array.getD_eq_getD_getElem?]
  exact H.2 i x hi
theorem XZ.put:∀(l:List AV) (vs:List Value) (z:List AV) (us:Array Value) (off:Nat),XZ R z us→l.length=vs.length→(∀j c,l[j]? =some c→VR R c (vs.getD j Go.undef))→
  ∀i,XZ R (putC z (off+i) l) ((vs.zipIdx i).foldl (fun cs (p:Value×Nat)=>cs.setIfInBounds (off+p.2) p.1) us)
 |[],vs,z,us,off,H,hl,_,i=>by
  have:vs=[]:=List.eq_nil_of_length_eq_zero (by simpa using hl.symm)
  subst this
  exact H
 |a::l,vs,z,us,off,H,hl,hv,i=>by
  cases vs with
  |nil=>simp at hl
  |cons v vs=>
   simp only[putC,List.zipIdx_cons,List.foldl_cons]
   exact XZ.put l vs _ _ off (H.set (hv 0 a rfl) _) (by simpa using hl) (fun j c hj=>by simpa using hv (j+1) c (by simpa using hj)) (i+1)
theorem VR.of_agg {a:AV} {us:Array Value} (hv:VR R a (.agg us)) (hg:∀g x,a≠ .gd g x) (hu:a≠ .undef):∃cs,a= .agg cs:=by
 cases hv with
 |pure _ _ hp=>cases hp
 |undef _=>exact absurd rfl hu
 |gd _ _ _ _=>exact absurd rfl (hg _ _)
 |ob g b _ h1 h2=>
  cases hgg:g ()
  ·have:=h2 hgg
   unfold Go.undef at this
   cases this
  ·cases h1 hgg
 |agg cs _ _ _=>exact⟨cs,rfl⟩
 |own _ _ _ _ _ _ hp _ _=>cases hp
 |nn _ _ _ _ hp _=>cases hp
theorem YQ {a:AV} {u:Value} (hv:VR R a u) (hg:∀g x,a≠ .gd g x) (hu:a≠ .undef):XZ R a.cellsOf u.cells:=by
 by_cases ha:∃cs,a= .agg cs
 ·obtain⟨cs,rfl⟩:=ha
  obtain⟨us,rfl,h1,h2⟩:=hv.agg_inv
  exact⟨h1,h2⟩
 ·have h1:a.cellsOf=[a]:=by
   cases a<;>first|rfl|(exact absurd ⟨_,rfl⟩ ha)
  have h2:u.cells= #[u]:=by
   cases u<;>first|rfl|(exact absurd (VR.of_agg hv hg hu) ha)
  rw[h1,h2]
  exact⟨rfl,fun j c hj=>by
   cases j with
   |zero=>simp at hj;subst hj;exact hv
   |succ j=>simp at hj⟩
theorem Zdi (v:Value):VR R (ZaC v) v:=by
 unfold ZaC
 split<;>first
  |exact .pure _ _ (.bool _)
  |exact .pure _ _ (.int _ _)
  |exact .pure _ _ (.str _)
  |exact .pure _ _ .nilptr
  |exact .pure _ _ (.isl0 _ _ _ _ rfl rfl)
  |exact .pure _ _ .nilmap
  |exact .pure _ _ .nilfn
  |exact .undef _
theorem Zfa (v:Value):VR R (Xr v) v:=by
 unfold Xr
 split
 ·rename_i cs
  refine .agg _ _ (by simp) (fun j c hj=>?_)
  rw[List.getElem?_map,Option.map_eq_some_iff]at hj
  obtain⟨u,hu,rfl⟩:=hj
  rw[Array.getElem?_toList]at hu
  rw[Array.getD_eq_getD_getElem?,hu]
  exact Zdi u
 ·exact Zdi v
theorem Y1 (v:Value):XZ R (Xr v).cellsOf v.cells:=by
 by_cases hv:∃cs,v= .agg cs
 ·obtain⟨cs,rfl⟩:=hv
  obtain⟨us,hu,h1,h2⟩:=(Zfa (R:=R) (.agg cs)).agg_inv (cs:=cs.toList.map ZaC)
  cases hu
  exact⟨h1,h2⟩
 ·have h1:Xr v=ZaC v:=by
   cases v<;>first|rfl|(exact absurd ⟨_,rfl⟩ hv)
  have h2:v.cells= #[v]:=by
   cases v<;>first|rfl|(exact absurd ⟨_,rfl⟩ hv)
  have h3:(ZaC v).cellsOf=[ZaC v]:=by
   unfold ZaC
   split<;>rfl
  rw[h1,h2,h3]
  exact⟨rfl,fun j c hj=>by
   cases j with
   |zero=>simp at hj;subst hj;exact Zdi v
   |succ j=>simp at hj⟩
theorem ZgR {fl:Array Field} {E:Operand→AV} {ρ:Operand→Value} {pl:Nat→Option (Nat×Nat)} (hpl:∀i o s g,(fl.toList.map (ZaP P))[i]? =some (some (o,s,g))→pl i=some (o,s)):
  ∀(ps:List (Nat×Operand)) (z cs:List AV) (us:Array Value),Zcv (fl.toList.map (ZaP P)) E z ps=some cs→XZ R z us→(∀p∈ps,VR R (E p.2) (ρ p.2)∧plain (E p.2)=true)→
   ∃us',Instr.fill pl us (ps.map fun p=>(p.1,ρ p.2))=some us'∧XZ R cs us'
 |[],z,cs,us,hb,H,_=>by
  simp only[Zcv,Option.some.injEq]at hb
  subst hb
  exact⟨us,rfl,H⟩
 |(i,x)::ps,z,cs,us,hb,H,hx=>by
  simp only[Zcv]at hb
  split at hb
  ·rename_i off sz g hf
   split at hb
   ·rename_i hc
    simp only[Bool.and_eq_true]at hc
    have hc1:=Zz hc.1
    have hc2:=Xc hc.2
    obtain⟨hv,hpn⟩:=hx (i,x) (List.mem_cons_self ..)
    have hr:=YQ hv (fun g y e=>by rw[e]at hpn;cases hpn) (fun e=>by rw[e]at hpn;cases hpn)
    have hput:=XZ.put (E x).cellsOf (ρ x).cells.toList z us off H (by rw[hr.1];simp) (fun j c hj=>by simpa using hr.2 j c hj) 0
    obtain⟨us',h1,h2⟩:=ZgR hpl ps _ cs _ hb hput (fun p hp=>hx p (List.mem_cons_of_mem _ hp))
    refine⟨us',?_,h2⟩
    simp only[List.map_cons,Instr.fill,hpl i off sz g hf]
    rw[if_neg (by rw[←hr.1,hc1,←H.1];simp;omega)]
    rw[←Array.foldl_toList]
    simpa using h1
   ·cases hb
  ·cases hb
theorem Zcc {α β:Type} (f:α→Sem β) (g:α→β) (w:World):∀(l:List α),(∀x∈l,(f x).run P w= .ok (g x) w)→(l.mapM f).run P w= .ok (l.map g) w
 |[],_=>by simp
 |a::l,hl=>by
  rw[List.mapM_cons]
  simp only[Sem.run_bind,hl a (List.mem_cons_self ..),Result.andThen_ok,Zcc f g w l (fun x hx=>hl x (List.mem_cons_of_mem _ hx)),Sem.run_pure,List.map_cons]
theorem ZnR {α β:Type} (f:α→Sem β) (g:α→β) (w:World) (xs:Array α) (hx:∀x∈xs,(f x).run P w= .ok (g x) w):(xs.mapM f).run P w= .ok (xs.map g) w:=by
 obtain⟨l⟩:=xs
 rw[List.mapM_toArray]
 simp only[Sem.run_map,Zcc f g w l (fun x h=>hx x (by simpa using h)),Result.andThen_ok,List.map_toArray]
end
end Go.Proofs.YtjgpiclllehgmaaGreat.Vm
namespace Go.Proofs.YtjgpiclllehgmaaGreat.Vm
open Go
section
variable {P:Program} {R:RC} {G:Nat→Nat→Nat→Prop} {h:List Zi}
theorem Zlp {t:TypeId} {T:TI} (hT:Zx P t=some T) {fs:List (Option (Nat×Nat×Bool))} (hk:T.k= .struct fs) {z:Value} (hz:T.zero=some z) (hall:fs.all Option.isSome=true)
  {E:Operand→AV} {ρ:Operand→Value} {ps:List (Nat×Operand)} {cs:List AV} (hb:Zcv fs E (Xr z).cellsOf ps=some cs) (hx:∀p∈ps,VR R (E p.2) (ρ p.2)∧plain (E p.2)=true):
  ∃u,(Instr.build t (ps.map fun p=>(p.1,ρ p.2)).toArray).run P R.w= .ok u R.w∧VR R (.agg cs) u:=by
 obtain⟨i,d,hi,hd,_,_,hzz,_⟩:=Xv hT
 obtain⟨fl,hu,rfl⟩:=ZbG hT hk
 have hsz:∀f∈fl,∃j,P.info? f.type=some j:=fun f hf=>by
  rw[List.all_eq_true]at hall
  have:=hall (ZaP P f) (List.mem_map.2 ⟨f,by simpa using hf,rfl⟩)
  obtain⟨⟨o,s,g⟩,ho⟩:=Option.isSome_iff_exists.1 this
  obtain⟨j,_,hj,_⟩:=Zby ho
  exact⟨j,hj⟩
 have hm:=ZnR (P:=P) (fun f:Field=>(do pure (f.offset,←sizeOf f.type):Sem (Nat×Nat))) (fun f=>(f.offset,((P.info? f.type).map (·.size)).getD 0)) R.w fl (fun f hf=>by
  obtain⟨j,hj⟩:=hsz f hf
  simp[Z6 hj,hj])
 obtain⟨us',h1,h2⟩:=ZgR (R:=R) (P:=P) (fl:=fl) (E:=E) (ρ:=ρ) (pl:=fun i=>(fl.map (fun f=>(f.offset,((P.info? f.type).map (·.size)).getD 0)))[i]?) (fun i o s g hf=>by
  rw[List.getElem?_map,Option.map_eq_some_iff]at hf
  obtain⟨f,hf1,hf2⟩:=hf
  obtain⟨j,_,hj,_,ho,hs,_⟩:=Zby hf2
  rw[Array.getElem?_toList]at hf1
  simp[hf1,hj,ho,hs]) ps _ cs _ hb (Y1 z) hx
 refine⟨.agg us',?_,.agg _ _ h2.1 h2.2⟩
 simp only[Instr.build,Sem.run_bind,zeroValue,Q4 hi,Result.andThen_ok,←hzz,hz,Sem.run_pure,Zv hu]
 rw[hm]
 simp only[Result.andThen_ok]
 rw[h1]
 rfl
theorem Zit {t:Unit→Bool} {a b v:AV} {cd:Cd} {ua ub:Value} (ha:VR R a ua) (hb:VR R b ub) (hv:ZkP t a b=some (v,cd)) (hcd:ZN cd):VR R v (if t ()then ua else ub):=by
 unfold ZkP at hv
 split at hv
 ·simp only[Option.some.injEq,Prod.mk.injEq]at hv
  obtain⟨rfl,rfl⟩:=hv
  rw[ha.bool_inv,hb.bool_inv]
  cases ht:t ()<;>simp only[if_true,if_false,Bool.false_eq_true]<;>exact .mkBool (by simp[ht])
 ·simp only[Option.some.injEq,Prod.mk.injEq]at hv
  obtain⟨rfl,rfl⟩:=hv
  have hg:=(Cn.out (hcd _ (List.mem_singleton.2 rfl)))
  cases ht:t ()
  ·simp only[if_false,Bool.false_eq_true]
   rw[hb.bool_inv]
   exact .mkBool (by simp[ht])
  ·simp only[if_true]
   rw[(ha.gd_inv (hg ht)).bool_inv]
   exact .mkBool (by simp[ht])
 ·simp only[Option.some.injEq,Prod.mk.injEq]at hv
  obtain⟨rfl,rfl⟩:=hv
  have hg:=(Cn.out (hcd _ (List.mem_singleton.2 rfl)))
  cases ht:t ()
  ·simp only[if_false,Bool.false_eq_true]
   rw[(hb.gd_inv (hg ht)).bool_inv]
   exact .mkBool (by simp[ht])
  ·simp only[if_true]
   rw[ha.bool_inv]
   exact .mkBool (by simp[ht])
 ·simp only[Option.some.injEq,Prod.mk.injEq]at hv
  obtain⟨rfl,rfl⟩:=hv
  have hg:=(Cn.out (hcd _ (List.mem_singleton.2 rfl)))
  cases ht:t ()
  ·simp only[if_false,Bool.false_eq_true]
   rw[hb.bool_inv]
   exact .mkBool (by simp[ht])
  ·simp only[if_true]
   rw[ha.ob_inv (hg ht)]
   exact .mkBool (by simp[ht])
 ·simp only[Option.some.injEq,Prod.mk.injEq]at hv
  obtain⟨rfl,rfl⟩:=hv
  have hg:=(Cn.out (hcd _ (List.mem_singleton.2 rfl)))
  cases ht:t ()
  ·simp only[if_false,Bool.false_eq_true]
   rw[hb.ob_inv (hg ht)]
   exact .mkBool (by simp[ht])
  ·simp only[if_true]
   rw[ha.bool_inv]
   exact .mkBool (by simp[ht])
 ·simp only[Option.some.injEq,Prod.mk.injEq]at hv
  obtain⟨rfl,rfl⟩:=hv
  have ht:t ()=true:=(Cn.out (hcd _ (List.mem_singleton.2 rfl)))
  rw[ht,if_pos rfl]
  exact ha
 ·simp only[Option.some.injEq,Prod.mk.injEq]at hv
  obtain⟨rfl,rfl⟩:=hv
  have ht:t ()=false:=(Cn.out (hcd _ (List.mem_singleton.2 rfl)))
  rw[ht,if_neg Bool.false_ne_true]
  exact hb
 ·cases hv
theorem Zn3 {c a b v:AV} {cd:Cd} {uc ua ub:Value} (hc:VR R c uc) (ha:VR R a ua) (hb:VR R b ub) (hv:ZkQ c a b=some (v,cd)) (hcd:ZN cd):
  ∃t:Bool,uc= .bool t∧VR R v (if t then ua else ub):=by
 unfold ZkQ at hv
 split at hv
 ·rename_i t
  exact⟨t (),hc.bool_inv,Zit ha hb hv hcd⟩
 ·rename_i g t
  split at hv
  ·rename_i v' cd' hv'
   simp only[Option.some.injEq,Prod.mk.injEq]at hv
   obtain⟨rfl,rfl⟩:=hv
   have hg:g ()=true:=Cn.out (hcd _ (List.mem_cons_self ..))
   exact⟨t (),hc.ob_inv hg,Zit ha hb hv' fun x hx=>hcd x (List.mem_cons_of_mem _ hx)⟩
  ·cases hv
 ·cases hv
theorem Zqq (H:HR G R h) {s:Nat} {n:Unit→Int} {f:(Unit→Int)→List AV} {u:Value} (hp:PR R.w R.ok (.isl s n f .none) u) (l e:Nat) (hle:l≤e) (hen:(e:Int)≤n ())
  (n' lo:Unit→Int) (hn':n' ()=(e:Int)-l) (hlo:lo ()=(l:Int)) (tk:Tk) (htk:tk= .none∨tk= .exact):
  (∃a:Option Addr,u= .slice a 0 0∧n ()=0∧l=0∧e=0∧PR R.w R.ok (.isl s n' (fun x=>f (fun _=>x ()+lo ())) tk) (.slice a 0 0))∨
   ∃b o len cap,u= .slice (some ⟨b,o,none⟩) len cap∧(len:Int)=n ()∧len≤cap∧∀o' cap',(o'=o+l*s∨(o'=o∧e=l))→e-l≤cap'→(tk= .exact→cap'=e-l)→
    PR R.w R.ok (.isl s n' (fun x=>f (fun _=>x ()+lo ())) tk) (.slice (some ⟨b,o',none⟩) (e-l) cap'):=by
 cases hp with
 |isl0 _ _ _ _ hz _=>exact .inl ⟨none,rfl,hz,by omega,by omega,.isl0 _ _ _ _ (by omega) (by rcases htk with rfl|rfl<;>rfl)⟩
 |islE _ _ _ _ a hz _=>exact .inl ⟨some a,rfl,hz,by omega,by omega,.islE _ _ _ _ a (by omega) htk⟩
 |isl _ _ _ _ b o len cap us hn hcap ht he hl hu1 hu2 hok=>
  refine .inr ⟨b,o,len,cap,rfl,hn.symm,hcap,fun o' cap' ho hc' hex=>?_⟩
  have hmul:l*s+(e-l)*s≤len*s:=by rw[←Nat.add_mul];exact Nat.mul_le_mul_right s (by omega)
  have hf:∀i:Nat,f (fun _=>(fun _:Unit=>(i:Int)) ()+lo ())=f (fun _=>((l+i:Nat):Int)):=fun i=>by
   congr 1
   funext _
   show(i:Int)+lo ()=_
   rw[hlo]
   omega
  refine .isl s n' _ tk b o' (e-l) cap' (fun i j=>us (l+i) j) (by rw[hn'];omega) hc' htk hex ?_ ?_ ?_ (by
   rcases ho with rfl|⟨rfl,rfl⟩
   ·exact H.sub hok (by omega) (by omega)
   ·exact H.sub hok (by omega) (by rw[Nat.sub_self,Nat.zero_mul];omega))
  ·intro i hi
   show(f (fun _=>(fun _:Unit=>(i:Int)) ()+lo ())).length=s
   rw[hf]
   exact hl _ (by omega)
  ·intro i j c hi hj
   replace hj:(f (fun _=>(fun _:Unit=>(i:Int)) ()+lo ()))[j]? =some c:=hj
   rw[hf]at hj
   have:=hu1 (l+i) j c (by omega) hj
   have ho:o'=o+l*s:=ho.resolve_right (fun⟨_,e'⟩=>by omega)
   rwa [show o'+i*s+j=o+(l+i)*s+j from by rw[Nat.add_mul];omega]
  ·intro i j c hi hj
   replace hj:(f (fun _=>(fun _:Unit=>(i:Int)) ()+lo ()))[j]? =some c:=hj
   rw[hf]at hj
   exact hu2 (l+i) j c (by omega) hj
theorem VR.isl_mk {s:Nat} {n:Unit→Int} {f:(Unit→Int)→List AV} {tk:Tk} {u:Value} (h:PR R.w R.ok (.isl s n f tk) u):VR R (.isl s n f tk) u:=.pure _ _ h
theorem Jq {t e:TypeId} {j:TypeInfo} (hu:P.underlying t=some (.slice e)) (hj:P.info? e=some j) (w:World) (a:Option Addr) (len cap:Nat) (lo hi mx:Option Value) (l x m:Nat)
  (hb:(Instr.sliceBounds true len cap lo hi mx).run P w= .ok (l,x,m) w):
  (Instr.sliceAt t (.slice a len cap) lo hi mx).run P w= .ok (.slice (if m=l then a else a.map (·.add (l*j.size))) (x-l) (m-l)) w:=by
 simp only[Instr.sliceAt,Sem.run_bind,Zv hu,Result.andThen_ok,Instr.slice,hb,Z6 hj,Sem.run_pure]
theorem ZeQ {t:TypeId} {T:TI} (hT:Zx P t=some T) (H:HR G R h) {x v:AV} {lo hi mx:Option AV} {ulo uhi umx:Option Value} {c:Cd} {u:Value} (hx:VR R x u)
  (h1:∀a,lo=some a→∃y,ulo=some y∧VR R a y) (h1':lo=none→ulo=none) (h2:∀a,hi=some a→∃y,uhi=some y∧VR R a y) (h2':hi=none→uhi=none)
  (h3:∀a,mx=some a→∃y,umx=some y∧VR R a y) (h3':mx=none→umx=none) (hv:Zew T x lo hi mx=some (v,c)) (hc:ZN c):
  ∃y,(Instr.sliceAt t u ulo uhi umx).run P R.w= .ok y R.w∧VR R v y:=by
 unfold Zew at hv
 split at hv
 case h_4=>cases hv
 case h_2=>
  rename_i el esz eb id s o n c hk
  obtain⟨j,hu,hj,hs,_⟩:=YZ hT hk
  split at hv
  ·cases hv
  rename_i hse
  have hse:s=esz:=Zz (by simpa using hse)
  subst hse
  cases hx with
  |pure _ _ hp=>cases hp
  |msl _ _ _ _ _ i len cap hid hlo hn hcp hle=>
  split at hv
  ·rename_i kl l
   obtain rfl:uhi=none:=h2' rfl
   obtain rfl:umx=none:=h3' rfl
   obtain⟨y,rfl,hy⟩:=h1 _ rfl
   obtain rfl:=hy.int_inv
   simp only[Option.some.injEq,Prod.mk.injEq]at hv
   obtain⟨rfl,rfl⟩:=hv
   obtain⟨hc1,hc2,hc3⟩:=(Cn.out (hc _ (List.mem_singleton.2 rfl)))
   obtain⟨l',hl'⟩:=Int.eq_ofNat_of_zero_le hc1
   refine⟨_,Jq hu hj R.w _ len cap _ _ _ l' len cap (by
    simp[Instr.sliceBounds,run_sliceBound,hl',show(l':Int)≤(len:Int)from by omega]),?_⟩
   have hadd:(if cap=l' then some (⟨(R.α id).b,(R.α id).o+i*s,none⟩:Addr)else(some (⟨(R.α id).b,(R.α id).o+i*s,none⟩:Addr)).map (·.add (l'*j.size)))=some ⟨(R.α id).b,(R.α id).o+(i+l')*s,none⟩:=by
    by_cases e:cap=l'
    ·have:l'=0:=by omega
     subst this
     rw[if_pos e,Nat.add_zero]
    ·rw[if_neg e,Option.map_some,QS,hs,Nat.add_mul,Nat.add_assoc]
   rw[hadd]
   exact .msl _ _ _ _ _ (i+l') (len-l') (cap-l') hid (by show o ()+l ()=_;omega) (by show n ()-l ()=_;omega) (by show c ()-l ()=_;omega) (by omega)
  ·rename_i kh x
   obtain rfl:ulo=none:=h1' rfl
   obtain rfl:umx=none:=h3' rfl
   obtain⟨y,rfl,hy⟩:=h2 _ rfl
   obtain rfl:=hy.int_inv
   simp only[Option.some.injEq,Prod.mk.injEq]at hv
   obtain⟨rfl,rfl⟩:=hv
   obtain⟨hc1,hc2⟩:=(Cn.out (hc _ (List.mem_singleton.2 rfl)))
   obtain⟨e',he'⟩:=Int.eq_ofNat_of_zero_le hc1
   refine⟨_,Jq hu hj R.w _ len cap _ _ _ 0 e' cap (by
    simp[Instr.sliceBounds,run_sliceBound,he',show(e':Int)≤(cap:Int)from by omega]),?_⟩
   have hadd:(if cap=0 then some (⟨(R.α id).b,(R.α id).o+i*s,none⟩:Addr)else(some (⟨(R.α id).b,(R.α id).o+i*s,none⟩:Addr)).map (·.add (0*j.size)))=some ⟨(R.α id).b,(R.α id).o+i*s,none⟩:=by
    split
    ·rfl
    ·rw[Option.map_some,QS,Nat.zero_mul,Nat.add_zero]
   rw[hadd]
   exact .msl _ _ _ _ _ i (e'-0) (cap-0) hid hlo (by omega) (by omega) (by omega)
  ·cases hv
 case h_3=>
  rename_i n esz id off hk
  obtain⟨e,j,hu,hj,hs⟩:=Zib hT hk
  split at hv
  case h_2=>cases hv
  split at hv
  case isFalse=>cases hv
  rename_i hcc
  simp only[Bool.and_eq_true]at hcc
  have hoff:=Zz hcc.2
  simp only[Option.some.injEq,Prod.mk.injEq]at hv
  obtain⟨rfl,rfl⟩:=hv
  obtain rfl:ulo=none:=h1' rfl
  obtain rfl:uhi=none:=h2' rfl
  obtain rfl:umx=none:=h3' rfl
  cases hx with
  |pure _ _ hp=>cases hp
  |ptr _ _ hid=>
  refine⟨.slice (some ⟨(R.α id).b,(R.α id).o+off/esz*esz,none⟩) n n,?_,.msl _ _ _ _ _ (off/esz) n n hid rfl rfl rfl (Nat.le_refl _)⟩
  have hadd:(if n=0 then(⟨(R.α id).b,(R.α id).o+off,none⟩:Addr)else Addr.add ⟨(R.α id).b,(R.α id).o+off,none⟩ (0*j.size))=⟨(R.α id).b,(R.α id).o+off,none⟩:=by
   split
   ·rfl
   ·rw[QS,Nat.zero_mul,Nat.add_zero]
  have hadd:=hadd
  simp only[Instr.sliceAt,Sem.run_bind,Zv hu,Result.andThen_ok,Instr.sureAddr,Sem.run_pure,Instr.sliceBounds,Z6 hj,hadd,Nat.sub_zero,hoff]
 rename_i el esz eb s n f tk hk
 obtain⟨j,hu,hj,hs,_⟩:=YZ hT hk
 split at hv
 ·cases hv
 rename_i hse
 have hse:s=esz:=Zz (by simpa using hse)
 subst hse
 have hp:=hx.isl_inv
 have hnn:0≤n ():=by cases hp<;>omega
 have fin:∀(l e:Nat) (n' lo':Unit→Int) (tk':Tk),l≤e→(e:Int)≤n ()→n' ()=(e:Int)-l→lo' ()=(l:Int)→(tk'= .none∨tk'= .exact)→
   (∀a len cap,u= .slice a len cap→(len:Int)=n ()→len≤cap→∃m,e≤m∧(tk'= .exact→m=e)∧(cap=0→m=0)∧(Instr.sliceBounds true len cap ulo uhi umx).run P R.w= .ok (l,e,m) R.w)→
   ∃y,(Instr.sliceAt t u ulo uhi umx).run P R.w= .ok y R.w∧VR R (.isl s n' (fun x=>f (fun _=>x ()+lo' ())) tk') y:=by
  intro l e n' lo' tk' hle hen hn' hlo htk hb
  rcases Zqq H hp l e hle hen n' lo' hn' hlo tk' htk with⟨a0,rfl,hn0,rfl,rfl,h4⟩|⟨b,o,len,cap,rfl,hlen,hcap,h4⟩
  ·obtain⟨m,hm1,_,hm2,hb⟩:=hb a0 0 0 rfl (by omega) (by omega)
   have:=hm2 rfl
   subst this
   exact⟨_,Jq hu hj R.w a0 0 0 ulo uhi umx 0 0 0 hb,.isl_mk (by simpa using h4)⟩
  ·obtain⟨m,hm1,hm2,_,hb⟩:=hb _ len cap rfl hlen hcap
   refine⟨_,Jq hu hj R.w _ len cap ulo uhi umx l e m hb,?_⟩
   by_cases hml:m=l
   ·rw[if_pos hml]
    exact .isl_mk (h4 o (m-l) (.inr ⟨rfl,by omega⟩) (by omega) (fun e'=>by rw[hm2 e']))
   ·rw[if_neg hml]
    simp only[Option.map_some,QS,hs]
    exact .isl_mk (h4 _ (m-l) (.inl rfl) (by omega) (fun e'=>by rw[hm2 e']))
 have hf0:(fun x:Unit→Int=>f (fun _=>x ()+(fun _:Unit=>(0:Int)) ()))=f:=by
  funext x
  congr 1
  funext _
  simp
 split at hv
 ·obtain rfl:ulo=none:=h1' rfl
  obtain rfl:uhi=none:=h2' rfl
  obtain rfl:umx=none:=h3' rfl
  simp only[Option.some.injEq,Prod.mk.injEq]at hv
  obtain⟨rfl,rfl⟩:=hv
  obtain⟨len,hlen⟩:=Int.eq_ofNat_of_zero_le hnn
  have:=fin 0 len n (fun _=>0) .none (by omega) (by omega) (by omega) rfl (by simp) (fun a ln cap _ hl hc0=>⟨cap,by omega,(fun h=>by cases h),fun e=>e,by
   have:ln=len:=by omega
   subst this
   simp[Instr.sliceBounds]⟩)
  rw[hf0]at this
  exact this
 ·rename_i kl l
  obtain rfl:uhi=none:=h2' rfl
  obtain rfl:umx=none:=h3' rfl
  obtain⟨y,rfl,hy⟩:=h1 _ rfl
  obtain rfl:=hy.int_inv
  simp only[Option.some.injEq,Prod.mk.injEq]at hv
  obtain⟨rfl,rfl⟩:=hv
  obtain⟨hc1,hc2⟩:=(Cn.out (hc _ (List.mem_singleton.2 rfl)))
  obtain⟨l',hl'⟩:=Int.eq_ofNat_of_zero_le hc1
  obtain⟨len,hlen⟩:=Int.eq_ofNat_of_zero_le hnn
  exact fin l' len _ l .none (by omega) (by omega) (by omega) hl' (by simp) (fun a ln cap _ hl hc0=>⟨cap,by omega,(fun h=>by cases h),fun e=>e,by
   have:ln=len:=by omega
   subst this
   simp[Instr.sliceBounds,run_sliceBound,hl',show(l':Int)≤(ln:Int)from by omega]⟩)
 ·rename_i kh x
  obtain rfl:ulo=none:=h1' rfl
  obtain rfl:umx=none:=h3' rfl
  obtain⟨y,rfl,hy⟩:=h2 _ rfl
  obtain rfl:=hy.int_inv
  simp only[Option.some.injEq,Prod.mk.injEq]at hv
  obtain⟨rfl,rfl⟩:=hv
  obtain⟨hc1,hc2⟩:=(Cn.out (hc _ (List.mem_singleton.2 rfl)))
  obtain⟨e',he'⟩:=Int.eq_ofNat_of_zero_le hc1
  have:=fin 0 e' x (fun _=>0) .none (by omega) (by omega) (by omega) rfl (by simp) (fun a ln cap _ hl hc0=>⟨cap,by omega,(fun h=>by cases h),fun e=>e,by
   simp[Instr.sliceBounds,run_sliceBound,he',show(e':Int)≤(cap:Int)from by omega]⟩)
  rw[hf0]at this
  exact this
 ·rename_i kl l kh x
  obtain rfl:umx=none:=h3' rfl
  obtain⟨y,rfl,hy⟩:=h1 _ rfl
  obtain⟨z,rfl,hz⟩:=h2 _ rfl
  obtain rfl:=hy.int_inv
  obtain rfl:=hz.int_inv
  simp only[Option.some.injEq,Prod.mk.injEq]at hv
  obtain⟨rfl,rfl⟩:=hv
  obtain⟨hc1,hc2,hc3⟩:=(Cn.out (hc _ (List.mem_singleton.2 rfl)))
  obtain⟨l',hl'⟩:=Int.eq_ofNat_of_zero_le hc1
  obtain⟨e',he'⟩:=Int.eq_ofNat_of_zero_le (show 0≤x () by omega)
  exact fin l' e' _ l .none (by omega) (by omega) (by omega) hl' (by simp) (fun a ln cap _ hl hc0=>⟨cap,by omega,(fun h=>by cases h),fun e=>e,by
   simp[Instr.sliceBounds,run_sliceBound,hl',he',show(e':Int)≤(cap:Int)from by omega,show(l':Int)≤(e':Int)from by omega]⟩)
 ·rename_i kh x km m
  obtain rfl:ulo=none:=h1' rfl
  obtain⟨y,rfl,hy⟩:=h2 _ rfl
  obtain⟨z,rfl,hz⟩:=h3 _ rfl
  obtain rfl:=hy.int_inv
  obtain rfl:=hz.int_inv
  simp only[Option.some.injEq,Prod.mk.injEq]at hv
  obtain⟨rfl,rfl⟩:=hv
  obtain⟨hc1,hc2,hc3⟩:=(Cn.out (hc _ (List.mem_singleton.2 rfl)))
  obtain⟨e',he'⟩:=Int.eq_ofNat_of_zero_le hc1
  have:=fin 0 e' x (fun _=>0) .exact (by omega) (by omega) (by omega) rfl (by simp) (fun a ln cap _ hl hc0=>⟨e',Nat.le_refl _,fun _=>rfl,fun e=>by omega,by
   simp[Instr.sliceBounds,run_sliceBound,he',←hc2,show(e':Int)≤(cap:Int)from by omega]⟩)
  rw[hf0]at this
  exact this
 ·cases hv
theorem Zml {R:RC} {a:Option AV} {c:Cd} {u:Option Value} (h:zb a=some c) (hc:ZN c) (h1:∀x,a=some x→∃y,u=some y∧VR R x y) (h0:a=none→u=none):u=none∨∃k,u=some (.int k 0):=by
 unfold zb at h
 split at h
 ·exact .inl (h0 rfl)
 ·simp only[Option.some.injEq]at h
  subst h
  obtain⟨y,rfl,hy⟩:=h1 _ rfl
  obtain rfl:=hy.int_inv
  exact .inr ⟨_,by rw[Cn.out (hc _ (List.mem_singleton.2 rfl))]⟩
 ·cases h
theorem Zlj {t:TypeId} {T:TI} (hT:Zx P t=some T) (H:HR G R h) {x v:AV} {lo hi mx:Option AV} {ulo uhi umx:Option Value} {c:Cd} {u:Value} (hx:VR R x u)
  (h1:∀a,lo=some a→∃y,ulo=some y∧VR R a y) (h1':lo=none→ulo=none) (h2:∀a,hi=some a→∃y,uhi=some y∧VR R a y) (h2':hi=none→uhi=none)
  (h3:∀a,mx=some a→∃y,umx=some y∧VR R a y) (h3':mx=none→umx=none) (hv:ZeR T x lo hi mx=some (v,c)) (hc:ZN c):
  ∃y,(Instr.sliceAt t u ulo uhi umx).run P R.w= .ok y R.w∧VR R v y:=by
 unfold ZeR at hv
 split at hv
 case h_2=>exact ZeQ hT H hx h1 h1' h2 h2' h3 h3' hv hc
 rename_i el esz eb s n f hk
 split at hv
 ·exact ZeQ hT H hx h1 h1' h2 h2' h3 h3' hv hc
 split at hv
 case h_2=>cases hv
 rename_i a b c' ha hb hc'
 split at hv
 case isFalse=>cases hv
 rename_i hmx
 simp only[Option.some.injEq,Prod.mk.injEq]at hv
 obtain⟨rfl,rfl⟩:=hv
 obtain⟨hc1,hc2⟩:=ZY hc
 obtain⟨hc2,hc3⟩:=ZY hc2
 obtain⟨j,hu,hj,hs,_⟩:=YZ hT hk
 have hnil:u= .slice none 0 0:=by
  cases hx with
  |pure _ _ hp=>
   cases hp with
   |isl0 _ _ _ _ hz _=>rfl
   |islE _ _ _ _ _ _ ht=>rcases ht with h|h<;>cases h
   |isl _ _ _ _ _ _ _ _ _ _ _ ht _ _ _ _ _=>rcases ht with h|h<;>cases h
 subst hnil
 refine⟨.slice none 0 0,?_,hx⟩
 have hno:uhi=none→umx=none:=fun e=>by
  cases mx with
  |none=>exact h3' rfl
  |some m=>
   cases hi with
   |none=>simp at hmx
   |some m=>obtain⟨y,e',_⟩:=h2 _ rfl;rw[e]at e';cases e'
 have:=Jq hu hj R.w none 0 0 ulo uhi umx 0 0 0 (by
  rcases Zml ha hc1 h1 h1' with rfl|⟨k1,rfl⟩<;>rcases Zml hb hc2 h2 h2' with rfl|⟨k2,rfl⟩<;>rcases Zml hc' hc3 h3 h3' with rfl|⟨k3,rfl⟩<;>first|(simp[Instr.sliceBounds,run_sliceBound];done)|(have:=hno rfl;cases this))
 simpa using this
end
end Go.Proofs.YtjgpiclllehgmaaGreat.Vm
namespace Go.Proofs.YtjgpiclllehgmaaGreat.Vm
open Go
def Zap (P:Program) (t:TypeId) (us:Array Value):Value:=match P.underlying t with
 |some d=>if ZaV d then .agg us else us.getD 0 undef
 |none=>undef
section
variable {P:Program} {R:RC} {w:World}
theorem XZ.part {cs:List AV} {us:Array Value} (H:XZ R cs us) (off k:Nat) (hk:off+k≤us.size):XZ R ((cs.drop off).take k) (us.extract off (off+k)):=by
 refine⟨by rw[List.length_take,List.length_drop,H.1];simp;omega,fun j c hj=>?_⟩
 rw[List.getElem?_take]at hj
 split at hj
 ·rename_i hlt
  rw[List.getElem?_drop]at hj
  have:=H.2 _ c hj
  rw[Array.getD_eq_getD_getElem?]at this⊢
  rw[Array.getElem?_extract,if_pos (by omega)]
  exact this
 ·cases hj
theorem Zbz:∀(k:Nat) {xs ys:List AV} {g:Unit→Bool},ZF xs ys=some g→∃g1 g2,ZF (xs.take k) (ys.take k)=some g1∧ZF (xs.drop k) (ys.drop k)=some g2∧g ()=(g1 ()&&g2 ())
 |0,xs,ys,g,h=>⟨fun _=>true,g,by simp[ZF],by simpa using h,by simp⟩
 |k+1,[],[],g,h=>by
  simp only[ZF,Option.some.injEq]at h
  subst h
  exact⟨fun _=>true,fun _=>true,by simp[ZF],by simp[ZF],rfl⟩
 |k+1,[],_::_,g,h=>by simp[ZF]at h
 |k+1,x::xs,[],g,h=>by cases x<;>simp[ZF]at h
 |k+1,x::xs,y::ys,g,h=>by
  cases x<;>cases y<;>simp only[ZF]at h<;>(try (cases h;done))
  rename_i kx nx ky ny
  split at h
  case isFalse=>cases h
  rename_i hkk
  simp only[Option.map_eq_some_iff]at h
  obtain⟨g',hg',rfl⟩:=h
  obtain⟨g1,g2,h1,h2,h3⟩:=Zbz k hg'
  exact⟨_,g2,by simp only[List.take_succ_cons,ZF,if_pos hkk,h1,Option.map_some];rfl,h2,by simp[h3,Bool.and_assoc]⟩
theorem Zbw {m:Nat} {t:TypeId} {s:Nat} (h:XH P m t s=true):∃d,P.underlying t=some d∧(ZaV d=false→s=1):=by
 cases m with
 |zero=>simp[XH]at h
 |succ m=>
  unfold XH at h
  split at h
  ·rename_i q hu;exact⟨_,hu,fun _=>Zz h⟩
  ·rename_i fs hu;exact⟨_,hu,fun h=>by simp[ZaV]at h⟩
  ·rename_i n e hu;exact⟨_,hu,fun h=>by simp[ZaV]at h⟩
  ·cases h
theorem JR {m:Nat} {t:TypeId} {i:TypeInfo} (h:XH P m t i.size=true) (hi:P.info? t=some i) (us:Array Value) (off:Nat) (hk:off+i.size≤us.size):(part t us off).run P w= .ok (Zap P t (us.extract off (off+i.size))) w:=by
 obtain⟨d,hu,h1⟩:=Zbw h
 unfold part Zap
 simp only[Sem.run_bind,J9 hu,Result.andThen_ok,hu]
 cases hd:ZaV d with
 |true=>simp[Z6 hi]
 |false=>
  have h1:=h1 hd
  have hlt:off<us.size:=by omega
  have e:us[off]? =some us[off]:=Array.getElem?_eq_getElem hlt
  have e2:(us.extract off (off+i.size)).getD 0 undef=us[off]:=by
   rw[Array.getD_eq_getD_getElem?,Array.getElem?_extract,if_pos (by omega),Nat.add_zero,e]
   rfl
  simp[e,e2]
theorem ZeY:∀(m:Nat) (t:TypeId) (s:Nat),XH P m t s=true→∀(d:Nat) (xs ys:List AV) (us vs:Array Value) (g:Unit→Bool),XZ R xs us→XZ R ys vs→us.size=s→vs.size=s→ZF xs ys=some g→
  (Op.equalIn (d+m) t (Zap P t us) (Zap P t vs)).run P w= .ok (g ()) w
 |0,_,_,h=>by simp[XH]at h
 |m+1,t,s,h=>by
  intro d xs ys us vs g hx hy hus hvs hg
  have IH:=ZeY m
  have one:∀(t:TypeId) (i:TypeInfo) (off:Nat) (xs ys:List AV) (us vs:Array Value) (g:Unit→Bool),XZ R xs us→XZ R ys vs→us.size=vs.size→P.info? t=some i→XH P m t i.size=true→off+i.size≤us.size→ZF ((xs.drop off).take i.size) ((ys.drop off).take i.size)=some g→
    ∃a b,(part t us off).run P w= .ok a w∧(part t vs off).run P w= .ok b w∧(Op.equalIn (d+m) t a b).run P w= .ok (g ()) w:=fun t i off xs ys us vs g hx hy huv hi hf hk hg=>
   ⟨_,_,JR hf hi us off hk,JR hf hi vs off (by omega),IH t i.size hf d _ _ _ _ g (hx.part off i.size hk) (hy.part off i.size (by omega)) (by simp;omega) (by simp;omega) hg⟩
  unfold XH at h
  split at h
  ·rename_i q hu
   have h:=Zz h
   subst h
   have hxl:xs.length=1:=by rw[hx.1,hus]
   have hyl:ys.length=1:=by rw[hy.1,hvs]
   obtain⟨x,rfl⟩:=List.length_eq_one_iff.1 hxl
   obtain⟨y,rfl⟩:=List.length_eq_one_iff.1 hyl
   cases x<;>cases y<;>simp only[ZF]at hg<;>(try (cases hg;done))
   rename_i kx nx ky ny
   split at hg
   case isFalse=>cases hg
   rename_i hkk
   obtain rfl:=Zdn hkk
   simp only[Option.map_some,Option.some.injEq]at hg
   subst hg
   have e1:=(hx.2 0 _ rfl).int_inv
   have e2:=(hy.2 0 _ rfl).int_inv
   simp only[Zap,hu,ZaV,Bool.false_eq_true,if_false,e1,e2]
   simp[Op.equalIn,Zv hu]
  ·rename_i fs hu
   simp only[Bool.and_eq_true,Bool.not_eq_true']at h
   have hfo:P.fieldsOf t=fs:=by simp[Program.fieldsOf,hu]
   simp only[Zap,hu,ZaV,if_true]
   rw[show d+(m+1)=(d+m)+1 from rfl,run_equalIn_struct w (d+m) t us vs (by rw[hfo];exact hu) h.1,hfo]
   have key:∀(fl:List Field) (off s:Nat) (g:Unit→Bool),Zdv P (XH P m) fl off s=true→off+s=us.size→ZF (xs.drop off) (ys.drop off)=some g→(Op.eqFields (d+m) us vs fl).run P w= .ok (g ()) w:=by
    intro fl
    induction fl with
    |nil=>
     intro off s g hf ho hg
     have hf:=Zz hf
     have e1:xs.drop off=[]:=List.drop_eq_nil_of_le (by rw[hx.1];omega)
     have e2:ys.drop off=[]:=List.drop_eq_nil_of_le (by rw[hy.1];omega)
     rw[e1,e2]at hg
     simp only[ZF,Option.some.injEq]at hg
     subst hg
     rfl
    |cons f fl ih=>
     intro off s g hf ho hg
     simp only[Zdv,Bool.and_eq_true,bne_iff_ne,ne_eq]at hf
     obtain⟨⟨hne,hoff⟩,hr⟩:=hf
     have hoff:=Zz hoff
     split at hr
     case h_2=>cases hr
     rename_i i hi
     simp only[Bool.and_eq_true]at hr
     obtain⟨⟨hsz,hfl⟩,hrest⟩:=hr
     have hsz:=Xc hsz
     obtain⟨g1,g2,h1,h2,h3⟩:=Zbz i.size hg
     obtain⟨a,b,p1,p2,p3⟩:=one f.type i off xs ys us vs g1 hx hy (by omega) hi hfl (by omega) h1
     rw[List.drop_drop,List.drop_drop]at h2
     have hrec:=ih (off+i.size) (s-i.size) g2 hrest (by omega) h2
     rw[h3]
     simp only[Op.eqFields,if_pos hne,Sem.run_bind,hoff,p1,p2,p3,Result.andThen_ok]
     cases g1 ()with
     |false=>simp
     |true=>
      simp only[Bool.not_true,Bool.false_eq_true,if_false,Bool.true_and]
      exact hrec
   exact key fs.toList 0 s g h.2 (by omega) (by simpa using hg)
  ·rename_i n e hu
   split at h
   case h_2=>cases h
   rename_i i hi
   simp only[Bool.and_eq_true]at h
   have hn:=Zz h.1
   have hc:P.cellsOf e=i.size:=by simp[Program.cellsOf,hi]
   simp only[Zap,hu,ZaV,if_true]
   rw[show d+(m+1)=(d+m)+1 from rfl,run_equalIn_array w (d+m) us vs hu hi,hc,List.range_eq_range']
   have key:∀(k j:Nat) (g:Unit→Bool),(j+k)*i.size=us.size→ZF (xs.drop (j*i.size)) (ys.drop (j*i.size))=some g→(Op.eqItems (d+m) e i.size us vs (List.range' j k)).run P w= .ok (g ()) w:=by
    intro k
    induction k with
    |zero=>
     intro j g ho hg
     rw[Nat.add_zero]at ho
     have e1:xs.drop (j*i.size)=[]:=List.drop_eq_nil_of_le (by rw[hx.1];omega)
     have e2:ys.drop (j*i.size)=[]:=List.drop_eq_nil_of_le (by rw[hy.1];omega)
     rw[e1,e2]at hg
     simp only[ZF,Option.some.injEq]at hg
     subst hg
     rfl
    |succ k ih=>
     intro j g ho hg
     obtain⟨g1,g2,h1,h2,h3⟩:=Zbz i.size hg
     have hfit:j*i.size+i.size≤us.size:=by
      have:(j+1)*i.size≤(j+(k+1))*i.size:=Nat.mul_le_mul_right _ (by omega)
      rw[Nat.succ_mul]at this
      omega
     obtain⟨a,b,p1,p2,p3⟩:=one e i (j*i.size) xs ys us vs g1 hx hy (by omega) hi h.2 hfit h1
     rw[List.drop_drop,List.drop_drop,←Nat.succ_mul]at h2
     have hrec:=ih (j+1) g2 (by rw[←ho];congr 1;omega) h2
     rw[h3,List.range'_succ]
     simp only[Op.eqItems,Sem.run_bind,p1,p2,p3,Result.andThen_ok]
     cases g1 ()with
     |false=>simp
     |true=>
      simp only[Bool.not_true,Bool.false_eq_true,if_false,Bool.true_and]
      exact hrec
   exact key n 0 g (by rw[Nat.zero_add];omega) (by simpa using hg)
  ·cases h
end
end Go.Proofs.YtjgpiclllehgmaaGreat.Vm
namespace Go.Proofs.YtjgpiclllehgmaaGreat.Vm
open Go
section
variable {P:Program} {R:RC} {G:Nat→Nat→Nat→Prop} {h:List Zi}
theorem Zi8 {E:Operand→AV} {ρ:Operand→Value} {xs:Array Operand} (hx:∀x∈xs,VR R (E x) (ρ x)):
  ∀j a,(xs.toList.map E)[j]? =some a→VR R a ((xs.toList.map ρ).getD j Go.undef):=fun j a hj=>by
 rw[List.getElem?_map,Option.map_eq_some_iff]at hj
 obtain⟨x,hx',rfl⟩:=hj
 rw[List.getD_eq_getElem?_getD,List.getElem?_map,hx',Option.map_some,Option.getD_some]
 exact hx x (by rw[←Array.mem_toList_iff];exact List.mem_of_getElem? hx')
theorem ZdH {E:Operand→AV} {ρ:Operand→Value} {xs:Array Operand} (hx:∀x∈xs,VR R (E x) (ρ x)):
  (xs.toList.map E).length=(xs.map ρ).size∧∀j a,(xs.toList.map E)[j]? =some a→VR R a ((xs.map ρ).getD j Go.undef):=by
 refine⟨by simp,fun j a hj=>?_⟩
 have:=Zi8 hx j a hj
 rw[Array.getD_eq_getD_getElem?]
 rwa [List.getD_eq_getElem?_getD,List.getElem?_map,Array.getElem?_toList,←Array.getElem?_map]at this
theorem Ye:∀(n:Nat) (xs:List Int),(Qp n xs).length=n
 |0,_=>rfl
 |n+1,xs=>by simp[Qp,Ye n]
theorem ZfM (R:RC):∀(n:Nat) (d:Unit→List Int),(YE n d).length=(Qp n (d ())).length∧∀(j:Nat) c,(YE n d)[j]? =some c→VR R c ((Qp n (d ())).getD j Go.undef)
 |0,d=>⟨rfl,fun j c h=>by simp[YE]at h⟩
 |n+1,d=>by
  obtain⟨h1,h2⟩:=ZfM R n fun _=>(d ()).tail
  refine⟨by simp[YE,Qp,h1],fun j c hj=>?_⟩
  cases j with
  |zero=>
   simp only[YE,List.getElem?_cons_zero,Option.some.injEq]at hj
   subst hj
   exact .pure _ _ (.int _ _)
  |succ j=>exact h2 j c hj
theorem ZbB (R:RC) (n:Nat) (d:Unit→List Int):XZ R (YE n d) (Qp n (d ())).toArray:=by
 obtain⟨h1,h2⟩:=ZfM R n d
 exact⟨by simpa using h1,fun j c hj=>by simpa using h2 j c hj⟩
theorem J5 (R:RC) (n:Nat) (d:Unit→List Int):VR R (ZdT n d) (Q2 n (d ())):=by
 cases n with
 |zero=>exact .pure _ _ (.int _ _)
 |succ n=>
  obtain⟨h1,h2⟩:=ZbB R (n+1) d
  exact .agg _ _ h1 h2
theorem ZfE:∀(n:Nat) (x y:List Int),x.length=n→y.length=n→∃g,ZF (YE n fun _=>x) (YE n fun _=>y)=some g∧g ()=decide (x=y)
 |0,x,y,hx,hy=>by
  rw[List.length_eq_zero_iff]at hx hy
  subst hx hy
  exact⟨_,rfl,rfl⟩
 |n+1,[],y,hx,hy=>by cases hx
 |n+1,a::x,[],hx,hy=>by cases hy
 |n+1,a::x,b::y,hx,hy=>by
  obtain⟨g,h1,h2⟩:=ZfE n x y (by simpa using hx) (by simpa using hy)
  refine⟨fun _=>a==b&&g (),?_,?_⟩
  ·simp only[YE,ZF,Jx,if_true,List.tail_cons,List.headD_cons]
   rw[h1]
   rfl
  ·rw[h2]
   by_cases hab:a=b
   ·subst hab;simp
   ·simp[hab]
theorem Zdp:∀ {cs:List AV} {g:Unit→List Int},Zdq cs=some g→(g ()).length=cs.length∧∀us:List Value,cs.length=us.length→(∀(j:Nat) c,cs[j]? =some c→VR R c (us.getD j Go.undef))→us=Qp cs.length (g ())
 |[],g,h=>by
  simp only[Zdq,Option.some.injEq]at h
  subst h
  refine⟨rfl,fun us hl _=>?_⟩
  rw[List.length_nil]at hl
  rw[List.length_eq_zero_iff.1 hl.symm]
  rfl
 |a::r,g,h=>by
  unfold Zdq at h
  split at h
  ·rename_i h0;cases h0
  ·rename_i a' r' h0
   cases h0
   split at h
   ·rename_i g' hg
    cases h
    obtain⟨h1,h2⟩:=Zdp hg
    refine⟨by simp[h1],fun us hl hr=>?_⟩
    match us,hl with
    |u::us,hl=>
     have e1:=(hr 0 _ rfl).int_inv
     simp only[List.getD_cons_zero]at e1
     rw[e1,h2 us (by simpa using hl) fun j c hj=>by simpa using hr (j+1) c (by simpa using hj)]
     simp[Qp,h1]
   ·cases h
  ·cases h
theorem ZcS {kt:TypeId} {ka:Nat} {k:AV} {g:Unit→List Int} {u:Value} (hg:Zgb (tyP P) kt ka k=some g) (hk:VR R k u):u=Q2 ka (g ())∧(g ()).length=ZiG ka∧keyT P kt ka=true:=by
 unfold Zgb at hg
 split at hg
 ·rename_i a
  split at hg
  ·rename_i hc
   simp only[Bool.and_eq_true]at hc
   have e:=Zz hc.1
   subst e
   cases hg
   exact⟨by rw[hk.int_inv];rfl,rfl,hc.2⟩
  ·cases hg
 ·rename_i cs
  split at hg
  ·rename_i hc
   simp only[Bool.and_eq_true]at hc
   obtain⟨⟨e,hlt⟩,hkt⟩:=hc
   have e:=Zz e
   have hlt:=JV hlt
   obtain⟨us,rfl,hl,hr⟩:=hk.agg_inv
   obtain⟨h1,h2⟩:=Zdp (R:=R) hg
   have h3:=h2 us.toList (by simpa using hl) fun j c hj=>by simpa using hr j c hj
   subst e
   obtain⟨m,hm⟩:∃m,cs.length=m+1:=⟨cs.length-1,by omega⟩
   rw[hm]at h1 h3 hkt⊢
   refine⟨?_,h1,hkt⟩
   show Value.agg us= .agg (Qp (m+1) (g ())).toArray
   rw[←h3]
  ·cases hg
 ·cases hg
theorem Zlo {kt:TypeId} {n:Nat} (h:keyT P kt (n+1)=true) {x y:List Int} (hx:x.length=n+1) (hy:y.length=n+1) (R:RC) (w:World):(Op.equal kt (Q2 (n+1) x) (Q2 (n+1) y)).run P w= .ok (decide (x=y)) w:=by
 simp only[keyT,Bool.and_eq_true]at h
 obtain⟨hfl,hag⟩:=h
 obtain⟨d,hd,_⟩:=Zbw hfl
 rw[hd]at hag
 obtain⟨g,g1,g2⟩:=ZfE (n+1) x y hx hy
 have:=ZeY (w:=w) 5 kt (n+1) hfl 9995 _ _ _ _ g (ZbB R (n+1) fun _=>x) (ZbB R (n+1) fun _=>y) (by simp[Ye]) (by simp[Ye]) g1
 rw[g2]at this
 simp only[Zap,hd,hag,if_true]at this
 exact this
theorem JK (em:Bool) {w:World}:∀(m:Nat) (t:TypeId) (s:Nat),XH P m t s=true→∀(d:Nat) (us:Array Value),us.size=s→(Instr.checkKey em (d+m) t (Zap P t us)).run P w= .ok () w
 |0,_,_,h=>by simp[XH]at h
 |m+1,t,s,h=>by
  intro d us hus
  have IH:=JK em (w:=w) m
  have one:∀(t:TypeId) (i:TypeInfo) (off:Nat),P.info? t=some i→XH P m t i.size=true→off+i.size≤us.size→∃a,(part t us off).run P w= .ok a w∧(Instr.checkKey em (d+m) t a).run P w= .ok () w:=fun t i off hi hf hk=>
   ⟨_,JR hf hi us off hk,IH t i.size hf d _ (by simp;omega)⟩
  unfold XH at h
  split at h
  ·rename_i q hu
   rw[show d+(m+1)=(d+m)+1 from rfl,Instr.checkKey]
   simp only[Sem.run_bind,Zv hu,Result.andThen_ok,Sem.run_pure]
  ·rename_i fs hu
   simp only[Bool.and_eq_true,Bool.not_eq_true']at h
   simp only[Zap,hu,ZaV,if_true]
   rw[show d+(m+1)=(d+m)+1 from rfl,Instr.checkKey]
   simp only[Sem.run_bind,Zv hu,Result.andThen_ok]
   rw[←Array.forIn_toList]
   have each:∀(fl:List Field) (off s:Nat),Zdv P (XH P m) fl off s=true→off+s=us.size→∀f∈fl,f.name≠ "_" ∧∃a,(part f.type us f.offset).run P w= .ok a w∧(Instr.checkKey em (d+m) f.type a).run P w= .ok () w:=by
    intro fl
    induction fl with
    |nil=>intro off s _ _ f hf;cases hf
    |cons f fl ih=>
     intro off s hf ho g hg
     simp only[Zdv,Bool.and_eq_true,bne_iff_ne,ne_eq]at hf
     obtain⟨⟨hne,hoff⟩,hr⟩:=hf
     have hoff:=Zz hoff
     split at hr
     case h_2=>cases hr
     rename_i i hi
     simp only[Bool.and_eq_true]at hr
     obtain⟨⟨hsz,hfl⟩,hrest⟩:=hr
     have hsz:=Xc hsz
     rcases List.mem_cons.1 hg with rfl|hg
     ·rw[hoff]
      exact⟨hne,one g.type i off hi hfl (by omega)⟩
     ·exact ih (off+i.size) (s-i.size) hrest (by omega) g hg
   have each:=each fs.toList 0 s h.2 (by omega)
   generalize fs.toList=fl at each
   induction fl with
   |nil=>simp
   |cons f fl ih=>
    obtain⟨hne,a,p1,p2⟩:=each f (List.mem_cons_self ..)
    simp only[List.forIn_cons,Sem.run_bind,ne_eq,hne,not_false_eq_true,if_true,p1,p2,Result.andThen_ok,Sem.run_pure]
    exact ih fun g hg=>each g (List.mem_cons_of_mem _ hg)
  ·rename_i n e hu
   split at h
   case h_2=>cases h
   rename_i i hi
   simp only[Bool.and_eq_true]at h
   have hn:=Zz h.1
   simp only[Zap,hu,ZaV,if_true]
   rw[show d+(m+1)=(d+m)+1 from rfl,Instr.checkKey]
   simp only[Sem.run_bind,Zv hu,Result.andThen_ok]
   simp only[Std.Legacy.Range.forIn_eq_forIn_range',Std.Legacy.Range.size,Nat.sub_zero,Nat.add_one_sub_one,Nat.div_one]
   have each:∀j∈List.range' 0 n,∃a,(part e us (j*i.size)).run P w= .ok a w∧(Instr.checkKey em (d+m) e a).run P w= .ok () w:=fun j hj=>by
    have hj:j<n:=by simpa using hj
    have:(j+1)*i.size≤n*i.size:=Nat.mul_le_mul_right _ (by omega)
    rw[Nat.succ_mul]at this
    exact one e i (j*i.size) hi h.2 (by omega)
   generalize List.range' 0 n=js at each
   induction js with
   |nil=>simp
   |cons j js ih=>
    obtain⟨a,p1,p2⟩:=each j (List.mem_cons_self ..)
    simp only[List.forIn_cons,Sem.run_bind,Z6 hi,p1,p2,Result.andThen_ok,Sem.run_pure]
    exact ih fun g hg=>each g (List.mem_cons_of_mem _ hg)
  ·cases h
theorem Zcd (em:Bool) {kt:TypeId} {ka:Nat} (h:keyT P kt ka=true) {x:List Int} (hx:x.length=ZiG ka) (w:World):(Instr.checkKey em 10000 kt (Q2 ka x)).run P w= .ok () w:=by
 cases ka with
 |zero=>
  unfold keyT at h
  simp only at h
  split at h
  ·rename_i hu
   have key:∀d,(Instr.checkKey em (d+1) kt (.int .i64 (x.headD 0))).run P w= .ok () w:=fun d=>by
    simp only[Instr.checkKey,Sem.run_bind,Zv hu,Result.andThen_ok,Sem.run_pure]
   exact key 9999
  ·cases h
 |succ n=>
  simp only[keyT,Bool.and_eq_true]at h
  obtain⟨hfl,hag⟩:=h
  obtain⟨d,hd,_⟩:=Zbw hfl
  rw[hd]at hag
  have:=JK em (w:=w) 5 kt (n+1) hfl 9995 (Qp (n+1) x).toArray (by simp[Ye])
  simp only[Zap,hd,hag,if_true]at this
  exact this
theorem ZcG {α:Type} {V:α→Value→Prop} {kt:TypeId} {ka:Nat} (h:keyT P kt ka=true) {x:List Int} (hx:x.length=ZiG ka) (R:RC) (w:World) {l:List (MapEntry×(List Int×α))} {es:Array MapEntry} {clk:Nat} {L:List (List Int×α)} (hm:Zo5 ka V l es clk L):
  ((Instr.findKey kt (Q2 ka x) es.toList).run P w= .ok none w∧∀p∈l,p.2.1≠x)∨∃(i:Nat) (p:MapEntry×(List Int×α)),l[i]? =some p∧p.2.1=x∧(Instr.findKey kt (Q2 ka x) es.toList).run P w= .ok (some (i,p.1.val)) w:=by
 rw[←hm.es]
 have hall:=hm.e
 clear hm
 cases ka with
 |zero=>
  unfold keyT at h
  simp only at h
  split at h
  case h_2=>cases h
  rename_i hu
  have key:∀(l:List (MapEntry×(List Int×α))) (i:Nat),(∀p∈l,p.1.key=Q2 0 p.2.1∧V p.2.2 p.1.val∧p.2.1.length=ZiG 0∧p.1.born<clk)→
    (Instr.findNow (.int .i64) (Q2 0 x) (l.map (·.1)) i=some none∧∀p∈l,p.2.1≠x)∨∃(k:Nat) (p:MapEntry×(List Int×α)),l[k]? =some p∧p.2.1=x∧Instr.findNow (.int .i64) (Q2 0 x) (l.map (·.1)) i=some (some (i+k,p.1.val)):=by
   intro l
   induction l with
   |nil=>exact fun i _=>.inl ⟨rfl,fun p hp=>by cases hp⟩
   |cons p l ih=>
    intro i hall
    obtain⟨k1,_,k2,_⟩:=hall p (List.mem_cons_self ..)
    obtain⟨a,rfl⟩:=List.length_eq_one_iff.1 hx
    obtain⟨b,hb⟩:=List.length_eq_one_iff.1 k2
    have hs:Instr.sameNow (.int .i64) (Q2 0 [a]) p.1.key=some (a==b):=by rw[k1,hb];simp[Instr.sameNow,Q2]
    by_cases hab:a=b
    ·subst hab
     refine .inr ⟨0,p,rfl,hb,?_⟩
     simp[Instr.findNow,hs]
    ·have hs':Instr.sameNow (.int .i64) (Q2 0 [a]) p.1.key=some false:=by rw[hs];simp[hab]
     have hstep:Instr.findNow (.int .i64) (Q2 0 [a]) ((p::l).map (·.1)) i=Instr.findNow (.int .i64) (Q2 0 [a]) (l.map (·.1)) (i+1):=by
      simp[Instr.findNow,hs']
     rcases ih (i+1) fun q hq=>hall q (List.mem_cons_of_mem _ hq)with⟨h1,h2⟩|⟨k,q,h1,h2,h3⟩
     ·refine .inl ⟨by rw[hstep,h1],fun q hq=>?_⟩
      rcases List.mem_cons.1 hq with rfl|hq
      ·rw[hb];simp only[ne_eq,List.cons.injEq,and_true];exact fun e=>hab e.symm
      ·exact h2 q hq
     ·exact .inr ⟨k+1,q,by simpa using h1,h2,by rw[hstep,h3];congr 3;omega⟩
  rcases key l 0 hall with⟨h1,h2⟩|⟨k,p,h1,h2,h3⟩
  ·exact .inl ⟨by simp only[Instr.findKey,Sem.run_bind,Zv hu,Result.andThen_ok,h1,Sem.run_pure],h2⟩
  ·exact .inr ⟨k,p,h1,h2,by simp only[Instr.findKey,Sem.run_bind,Zv hu,Result.andThen_ok,h3,Sem.run_pure,Nat.zero_add]⟩
 |succ n=>
  have hkt:=h
  simp only[keyT,Bool.and_eq_true]at h
  obtain⟨hfl,hag⟩:=h
  obtain⟨d,hd,_⟩:=Zbw hfl
  rw[hd]at hag
  have key:∀(l:List (MapEntry×(List Int×α))) (i:Nat),(∀p∈l,p.1.key=Q2 (n+1) p.2.1∧V p.2.2 p.1.val∧p.2.1.length=ZiG (n+1)∧p.1.born<clk)→
    ((Instr.findAsking kt (Q2 (n+1) x) (l.map (·.1)) i).run P w= .ok none w∧∀p∈l,p.2.1≠x)∨∃(k:Nat) (p:MapEntry×(List Int×α)),l[k]? =some p∧p.2.1=x∧(Instr.findAsking kt (Q2 (n+1) x) (l.map (·.1)) i).run P w= .ok (some (i+k,p.1.val)) w:=by
   intro l
   induction l with
   |nil=>exact fun i _=>.inl ⟨rfl,fun p hp=>by cases hp⟩
   |cons p l ih=>
    intro i hall
    obtain⟨k1,_,k2,_⟩:=hall p (List.mem_cons_self ..)
    have he:=Zlo hkt hx k2 R w
    rw[←k1]at he
    by_cases hab:x=p.2.1
    ·refine .inr ⟨0,p,rfl,hab.symm,?_⟩
     simp only[Instr.findAsking,List.map_cons,Sem.run_bind,he,Result.andThen_ok,decide_eq_true_eq]
     rw[if_pos hab]
     rfl
    ·rcases ih (i+1) fun q hq=>hall q (List.mem_cons_of_mem _ hq)with⟨h1,h2⟩|⟨k,q,h1,h2,h3⟩
     ·refine .inl ⟨by simp only[Instr.findAsking,List.map_cons,Sem.run_bind,he,Result.andThen_ok,decide_eq_true_eq,hab,if_false];exact h1,fun q hq=>?_⟩
      rcases List.mem_cons.1 hq with rfl|hq
      ·exact fun e=>hab e.symm
      ·exact h2 q hq
     ·exact .inr ⟨k+1,q,by simpa using h1,h2,by
       simp only[Instr.findAsking,List.map_cons,Sem.run_bind,he,Result.andThen_ok,decide_eq_true_eq,hab,if_false]
       rw[show i+(k+1)=i+1+k by omega]
       exact h3⟩
  have hnow:∀l:List MapEntry,l≠ []→Instr.findNow d (Q2 (n+1) x) l 0=none:=fun l hl=>by
   cases l with
   |nil=>exact absurd rfl hl
   |cons e l=>cases d<;>first|(simp[ZaV]at hag;done)|rfl
  cases l with
  |nil=>exact .inl ⟨by simp only[Instr.findKey,Sem.run_bind,Zv hd,Result.andThen_ok,List.map_nil,Instr.findNow,Sem.run_pure],fun p hp=>by cases hp⟩
  |cons p0 l=>
   have hn:=hnow ((p0::l).map (·.1)) (by simp)
   have hrun:∀r,(Instr.findAsking kt (Q2 (n+1) x) ((p0::l).map (·.1))).run P w= .ok r w→(Instr.findKey kt (Q2 (n+1) x) ((p0::l).map (·.1))).run P w= .ok r w:=fun r hr=>by
    simp only[Instr.findKey,Sem.run_bind,Zv hd,Result.andThen_ok,hn]
    exact hr
   rcases key (p0::l) 0 hall with⟨h1,h2⟩|⟨k,p,h1,h2,h3⟩
   ·exact .inl ⟨hrun _ h1,h2⟩
   ·exact .inr ⟨k,p,h1,h2,by rw[Nat.zero_add]at h3;exact hrun _ h3⟩
theorem ZbT {α:Type} {L:List (List Int×α)} (hn:(L.map (·.1)).Nodup) {k:List Int} {d:α} (h:(k,d)∈L):L.lookup k=some d:=by
 induction L with
 |nil=>cases h
 |cons p L ih=>
  obtain⟨a,b⟩:=p
  rw[List.map_cons,List.nodup_cons]at hn
  rcases List.mem_cons.1 h with h|h
  ·cases h
   simp[List.lookup]
  ·have:a≠k:=fun e=>hn.1 (List.mem_map.2 ⟨(k,d),h,e.symm⟩)
   rw[List.lookup,show(k==a)=false from by simpa using fun e=>this e.symm]
   exact ih hn.2 h
theorem ZiB {α:Type} {L:List (List Int×α)} {k:List Int} (h:∀p∈L,p.1≠k):L.lookup k=none:=by
 induction L with
 |nil=>rfl
 |cons p L ih=>
  obtain⟨a,b⟩:=p
  have:a≠k:=h (a,b) (List.mem_cons_self ..)
  rw[List.lookup,show(k==a)=false from by simpa using fun e=>this e.symm]
  exact ih fun q hq=>h q (List.mem_cons_of_mem _ hq)
theorem Zo5.keys {α:Type} {ka:Nat} {V:α→Value→Prop} {l:List (MapEntry×(List Int×α))} {es:Array MapEntry} {clk:Nat} {L:List (List Int×α)} (hm:Zo5 ka V l es clk L):(L.map (·.1)).Nodup:=by
 have:=hm.L.map (·.1)
 rw[List.map_map]at this
 exact this.nodup_iff.1 hm.nd
theorem ZdX {α:Type} {V:α→Value→Prop} {t kt et:TypeId} {ka:Nat} (hu:P.underlying t=some (.map kt et)) (hkt:keyT P kt ka=true) {x:List Int} (hx:x.length=ZiG ka) (R:RC) {w:World} {es:Array MapEntry} {clk:Nat} {L:List (List Int×α)} {m:Value} (hmv:(m= .map none∧es= #[])∨∃b,m= .map (some b)∧w.heap[b]? =some (.map es clk))
  (hm:ZdK ka V es clk L) {z:Value} {E:TI} (het:Zx P et=some E) (hz:E.zero=some z) (ok:Bool):
  ∃v,(Instr.lookup t m (Q2 ka x) ok).run P w= .ok (if ok then .tuple #[v,.bool (L.lookup x).isSome]else v) w∧((L.lookup x=none∧v=z)∨∃d,L.lookup x=some d∧V d v):=by
 obtain⟨l,hm⟩:=hm
 obtain⟨ie,de,hie,_,_,_,hze,_⟩:=Xv het
 have hck:=fun em=>Zcd (P:=P) em hkt hx w
 have hzr:(zeroValue et).run P w= .ok z w:=by simp[zeroValue,Q4 hie,←hze,hz]
 have hf:=ZcG hkt hx R w hm
 have main:∀r,(Instr.findKey kt (Q2 ka x) es.toList).run P w= .ok r w→(Instr.lookup t m (Q2 ka x) ok).run P w= .ok (match r with
   |some (_,v)=>if ok then .tuple #[v,.bool true]else v
   |none=>if ok then .tuple #[z,.bool false]else z) w:=fun r hr=>by
  have hgo:∀b,w.heap[b]? =some (.map es clk)→(getObj b).run P w= .ok (.map es clk) w:=fun b hb=>by simp[getObj,Sem.run,hb]
  unfold Instr.lookup
  rcases hmv with⟨rfl,rfl⟩|⟨b,rfl,hb⟩
  ·cases r with
   |none=>simp only[Sem.run_bind,Zv hu,Result.andThen_ok,Sem.run_pure,hck,hr,hzr]
   |some p=>simp only[Sem.run_bind,Zv hu,Result.andThen_ok,Sem.run_pure,hck,hr]
  ·cases r with
   |none=>simp only[Sem.run_bind,Zv hu,Result.andThen_ok,Sem.run_pure,hgo b hb,hck,hr,hzr]
   |some p=>simp only[Sem.run_bind,Zv hu,Result.andThen_ok,Sem.run_pure,hgo b hb,hck,hr]
 rcases hf with⟨h1,h2⟩|⟨i,p,h1,h2,h3⟩
 ·have hno:L.lookup x=none:=ZiB fun p hp e=>by
   have:p∈l.map (·.2):=hm.L.mem_iff.2 hp
   obtain⟨q,hq,rfl⟩:=List.mem_map.1 this
   exact h2 q hq e
  exact⟨z,by rw[hno];exact main none h1,.inl ⟨hno,rfl⟩⟩
 ·have hp:=List.mem_of_getElem? h1
  have hin:(x,p.2.2)∈L:=hm.L.mem_iff.1 (List.mem_map.2 ⟨p,hp,by rw[←h2]⟩)
  have hl:=ZbT hm.keys hin
  exact⟨p.1.val,by rw[hl];exact main _ h3,.inr ⟨p.2.2,hl,(hm.e p hp).2.1⟩⟩
theorem Zil {ok:Bool} {v:AV} {b:Unit→Bool} {u:Value} (h:VR R v u):VR R (ZnX ok v b) (if ok then .tuple #[u,.bool (b ())]else u):=by
 cases ok with
 |false=>exact h
 |true=>
  refine .tup _ _ rfl fun j c hj=>?_
  match j,hj with
  |0,hj=>simp at hj;subst hj;exact h
  |1,hj=>simp at hj;subst hj;exact .pure _ _ (.bool b)
theorem Zpe {z:Value} {n:Nat} (h:zN (some z)=some n):z=Q2 n []:=by
 unfold zN at h
 split at h
 ·rename_i z' h0
  cases h0
  split at h
  ·rename_i hz
   cases h
   rw[show z'=0 from by simpa using hz]
   rfl
  ·cases h
 ·rename_i cs h0
  cases h0
  split at h
  ·rename_i hc
   simp only[Bool.and_eq_true]at hc
   cases h
   have hlt:=JV hc.2
   obtain⟨m,hm⟩:∃m,cs.size=m+1:=⟨cs.size-1,by omega⟩
   rw[hm]
   show Value.agg cs= .agg (Qp (m+1) []).toArray
   have key:∀(l:List Value),l.all isZ=true→l=Qp l.length []:=by
    intro l
    induction l with
    |nil=>intro _;rfl
    |cons a l ih=>
     intro hl
     simp only[List.all_cons,Bool.and_eq_true]at hl
     have ha:a= .int .i64 0:=by
      have:=hl.1
      unfold isZ at this
      split at this
      ·rename_i q
       rw[show q=0 from by simpa using this]
      ·cases this
     rw[List.length_cons]
     show a::l= .int .i64 0::Qp l.length []
     rw[ha,←ih hl.2]
   have:=key cs.toList hc.1
   rw[Array.length_toList,hm]at this
   rw[←this]
  ·cases h
 ·cases h
theorem Zfo {t kt et:TypeId} {ka n:Nat} {L:Unit→List (List Int×List Int)} {k v:AV} {c:Cd} {ok:Bool} {m u:Value} (hu:P.underlying t=some (.map kt et)) (hv:ZcR (tyP P) kt et ka n L k ok=some (v,c)) (hk:VR R k u) {es:Array MapEntry} {clk:Nat}
  (hmv:(m= .map none∧es= #[])∨∃b,m= .map (some b)∧R.w.heap[b]? =some (.map es clk)) (hm:ZdK ka (fun xs v=>v=Q2 n xs) es clk (L ())):∃y,(Instr.lookup t m u ok).run P R.w= .ok y R.w∧VR R v y:=by
 unfold ZcR at hv
 split at hv
 case h_2=>cases hv
 rename_i g hg
 split at hv
 case isFalse=>cases hv
 rename_i hz
 cases hv
 obtain⟨rfl,h1,h2⟩:=ZcS hg hk
 unfold zIs at hz
 split at hz
 case h_2=>cases hz
 rename_i q hq
 have e:=Zz hz
 subst e
 have hq:zN ((Zx P et).bind (·.zero))=some q:=hq
 obtain⟨z,hz1⟩:∃z,(Zx P et).bind (·.zero)=some z:=by
  cases hh:(Zx P et).bind (·.zero)with
  |none=>rw[hh]at hq;cases hq
  |some z=>exact⟨z,rfl⟩
 rw[hz1]at hq
 obtain⟨T,hT,hT2⟩:=Option.bind_eq_some_iff.1 hz1
 obtain⟨y,k1,k2⟩:=ZdX hu h2 h1 R hmv hm hT hT2 ok
 refine⟨_,k1,Zil ?_⟩
 rcases k2 with⟨e1,e2⟩|⟨d,e1,e2⟩
 ·rw[e2,Zpe hq]
  have:=J5 R q fun _=>((L ()).lookup (g ())).getD []
  simp only[e1,Option.getD_none]at this⊢
  exact this
 ·rw[e2]
  have:=J5 R q fun _=>((L ()).lookup (g ())).getD []
  simp only[e1,Option.getD_some]at this⊢
  exact this
theorem ZdK.nil {α:Type} {ka:Nat} {V:α→Value→Prop}:ZdK ka V #[] 0 ([]:List (List Int×α)):=⟨[],rfl,.refl _,.nil,.nil,fun p hp=>by cases hp⟩
theorem Zbx (x:Int):∀(es:List MapEntry) (i:Nat),(∀e∈es,∃y b,e.key= .int .i64 y∧e.val= .bool b)→
  (Instr.findNow (.int .i64) (.int .i64 x) es i=some none∧(∀e∈es,e.key≠ .int .i64 x))∨
   ∃(k:Nat) (e:MapEntry),es[k]? =some e∧e.key= .int .i64 x∧(∀j e',j<k→es[j]? =some e'→e'.key≠ .int .i64 x)∧Instr.findNow (.int .i64) (.int .i64 x) es i=some (some (i+k,e.val))
 |[],i,_=>.inl ⟨rfl,fun e he=>by cases he⟩
 |e::es,i,hall=>by
  obtain⟨y,b,hk,hv⟩:=hall e (List.mem_cons_self ..)
  have hs:Instr.sameNow (.int .i64) (.int .i64 x) e.key=some (x==y):=by rw[hk];simp[Instr.sameNow]
  by_cases hxy:x=y
  ·subst hxy
   refine .inr ⟨0,e,rfl,hk,fun j e' hj=>by omega,?_⟩
   simp[Instr.findNow,hs]
  ·have hne:e.key≠ .int .i64 x:=by
    rw[hk]
    intro hh
    injection hh with _ hh
    exact hxy hh.symm
   have hs':Instr.sameNow (.int .i64) (.int .i64 x) e.key=some false:=by rw[hs];simp[hxy]
   have hstep:Instr.findNow (.int .i64) (.int .i64 x) (e::es) i=Instr.findNow (.int .i64) (.int .i64 x) es (i+1):=by
    simp[Instr.findNow,hs']
   rcases Zbx x es (i+1) (fun e' he'=>hall e' (List.mem_cons_of_mem _ he'))with⟨h1,h2⟩|⟨k,e1,h1,h2,h3,h4⟩
   ·exact .inl ⟨by rw[hstep,h1],fun e' he'=>by
     rcases List.mem_cons.1 he' with rfl|he'
     ·exact hne
     ·exact h2 e' he'⟩
   ·refine .inr ⟨k+1,e1,by simpa using h1,h2,fun j e' hj hje=>?_,by rw[hstep,h4];congr 3;omega⟩
    cases j with
    |zero=>simp only[List.getElem?_cons_zero,Option.some.injEq]at hje;subst hje;exact hne
    |succ j=>exact h3 j e' (by omega) (by simpa using hje)
theorem Zf5 (d:Nat) {kt:TypeId} (hk:P.underlying kt=some (.int .i64)) (b:Bool) (x:Int) (w:World):(Instr.checkKey b (d+1) kt (.int .i64 x)).run P w= .ok () w:=by
 simp only[Instr.checkKey,Sem.run_bind,Zv hk,Result.andThen_ok,Sem.run_pure]
theorem ZcH {kt:TypeId} (hk:P.underlying kt=some (.int .i64)) (b:Bool) (x:Int) (w:World):(Instr.checkKey b 10000 kt (.int .i64 x)).run P w= .ok () w:=Zf5 9999 hk b x w
theorem ZeX {w:World} {b:Nat} {es:Array MapEntry} {cl:Nat} (h:w.heap[b]? =some (.map es cl)):(getObj b).run P w= .ok (.map es cl) w:=by
 simp[getObj,Sem.run,h]
theorem VR.map_inv {id:Nat} {u:Value} (hv:VR R (.map id) u):u= .map (some (R.α id).b):=by
 cases hv with
 |pure _ _ hp=>cases hp
 |map _ _=>rfl
theorem ZlE (H:HR G R h) {t kt et:TypeId} {E:TI} {id:Nat} {n:Unit→Int} {f:(Unit→Int)→Unit→Bool} {m k:Value} (hm:VR R (.map id) m) (hk:VR R (.int .i64 n) k)
  (hu:P.underlying t=some (.map kt et)) (hi:h[id]? =some (.mapB f)) (hkt:P.underlying kt=some (.int .i64)) (het:Zx P et=some E) (hz:E.zero=some (.bool false)):
  (Instr.lookup t m k false).run P R.w= .ok (.bool (f n ())) R.w:=by
 obtain⟨es,cl,h1,h2,h3⟩:=H.blk id _ hi
 rw[hm.map_inv,hk.int_inv]
 obtain⟨ie,de,hie,_,_,_,hze,_⟩:=Xv het
 have hfn:f n=f (fun _=>n ()):=rfl
 have hck:=ZcH (P:=P) hkt es.isEmpty (n ()) R.w
 have hgo:=ZeX (P:=P) h1
 unfold Instr.lookup
 rcases Zbx (n ()) es.toList 0 h2 with⟨a1,a2⟩|⟨i,e,a1,a2,a3,a4⟩
 ·have hf:f n ()=false:=by
   rw[hfn]
   rcases h3 (n ())with⟨_,b2⟩|⟨i,e,b1,b2,_⟩
   ·exact b2
   ·exact absurd b2 (a2 e (List.mem_of_getElem? b1))
  simp only[Sem.run_bind,Zv hu,Result.andThen_ok,hgo,Sem.run_pure,hck,Instr.findKey,Zv hkt,a1,zeroValue,Q4 hie,←hze,hz,hf,Bool.false_eq_true,if_false]
 ·have hf:e.val= .bool (f n ()):=by
   rw[hfn]
   rcases h3 (n ())with⟨b1,_⟩|⟨i',e',b1,b2,b3,b4⟩
   ·exact absurd a2 (b1 e (List.mem_of_getElem? a1))
   ·have hii:i=i':=by
     rcases Nat.lt_trichotomy i i' with hl|hl|hl
     ·exact absurd a2 (b4 i e hl a1)
     ·exact hl
     ·exact absurd b2 (a3 i' e' hl b1)
    subst hii
    rw[a1]at b1
    cases b1
    exact b3
  simp only[Sem.run_bind,Zv hu,Result.andThen_ok,hgo,Sem.run_pure,hck,Instr.findKey,Zv hkt,a4,hf,Bool.false_eq_true,if_false]
theorem ZjU (H:HR G R h) {t:TypeId} {a b v:AV} {m k:Value} {ok:Bool} {c:Cd} (hm:VR R a m) (hk:VR R b k) (hv:Jj (tyP P) t a b ok h=some (v,c)) (hc:ZN c):∃y,(Instr.lookup t m k ok).run P R.w= .ok y R.w∧VR R v y:=by
 unfold Jj at hv
 split at hv
 case h_2=>cases hv
 rename_i kt et hu
 split at hv
 ·rename_i id
  split at hv
  ·rename_i f hi
   split at hv
   case h_2=>cases hv
   rename_i n hkt hz
   cases hv
   obtain⟨T,hT,hz⟩:=Option.bind_eq_some_iff.1 hz
   exact⟨_,ZlE H hm hk hu hi hkt hT hz,.pure _ _ (.bool _)⟩
  ·rename_i ka n L hi
   obtain⟨o,ho,_,es,clk,rfl,hg⟩:=H.blk id _ hi
   rw[hm.map_inv]
   exact Zfo hu hv hk (.inr ⟨_,rfl,ho⟩) hg
  ·rename_i ka kb n L hi
   split at hv
   case h_2=>cases hv
   rename_i g hg hz
   cases hv
   obtain⟨o,ho,_,es,clk,rfl,hgm⟩:=H.blk id _ hi
   obtain⟨rfl,h1,h2⟩:=ZcS hg hk
   obtain⟨T,hT,hz⟩:=Option.bind_eq_some_iff.1 hz
   obtain⟨y,k1,k2⟩:=ZdX (m:=m) hu h2 h1 R (.inr ⟨_,hm.map_inv,ho⟩) hgm hT hz ok
   refine⟨_,k1,Zil (b:=fun _=>((L ()).lookup (g ())).isSome) ?_⟩
   rcases k2 with⟨e1,e2⟩|⟨d,e1,e2⟩
   ·rw[e2]
    exact .pure _ _ (.imap0 _ _ _ (by simp[e1]))
   ·have:(fun _:Unit=>((L ()).lookup (g ())).getD [])=fun _=>d:=funext fun _=>by simp[e1]
    rw[this]
    exact .pure _ _ e2
  ·cases hv
 ·rename_i ka n L
  cases hm with
  |pure _ _ hp=>
   cases hp with
   |imap _ _ _ b es clk h1 h2 h3=>exact Zfo hu hv hk (.inr ⟨b,rfl,h1⟩) h2
   |imap0 _ _ _ h0=>exact Zfo hu hv hk (.inl ⟨rfl,rfl⟩) (clk:=0) (by rw[h0];exact ZdK.nil)
 ·cases hv
theorem ZgK:∀(l:List (MapEntry×(List Int×List Int))) {p:MapEntry×(List Int×List Int)},(l.map (·.1.born)).Nodup→p∈l→(l.map (·.1)).find? (·.born==p.1.born)=some p.1
 |[],p,_,hp=>by cases hp
 |q::l,p,hn,hp=>by
  rw[List.map_cons,List.nodup_cons]at hn
  rcases List.mem_cons.1 hp with rfl|hp
  ·simp
  ·have hne:(q.1.born==p.1.born)=false:=by
    simpa using fun e=>hn.1 (List.mem_map.2 ⟨p,hp,e.symm⟩)
   rw[List.map_cons,List.find?_cons,hne]
   exact ZgK l hn.2 hp
theorem ZlT (H:HR G R h) {a v:AV} {u:Value} {c:Cd} (ha:VR R a u) (hv:ZhK h a=some (v,c)) (hc:ZN c):∃y,(Instr.entry u).run P R.w= .ok y R.w∧VR R v y:=by
 unfold ZhK at hv
 split at hv
 case h_2=>cases hv
 rename_i id
 split at hv
 case h_2=>cases hv
 rename_i ka n L seen cur hi
 cases hv
 have hs:seen ()≠ []:=(Cn.out (hc _ (List.mem_singleton.2 rfl)))
 obtain⟨o,ho,_,⟨_,e,_⟩|⟨m,es,clk,sn,l,rfl,h2,h3,h4,h5,h6⟩⟩:=H.blk id _ hi
 ·exact absurd e hs
 obtain⟨p,hp,hb,hcur⟩:=h6 hs
 have hf:=ZgK l h4.bn hp
 rw[h4.es]at hf
 cases ha with
 |pure _ _ hp=>cases hp
 |mit _ _ h0=>
  have g1:(getObj (R.α id).b).run P R.w= .ok (.mapIter (some m) clk sn clk) R.w:=by simp[getObj,Sem.run,ho]
  have g2:(getObj m).run P R.w= .ok (.map es clk) R.w:=by simp[getObj,Sem.run,h2]
  have hf':es.find? (fun x=>x.born==p.1.born)=some p.1:=by rw[←Array.find?_toList];exact hf
  refine⟨.tuple #[p.1.key,p.1.val],?_,?_⟩
  ·simp only[Instr.entry,Sem.run_bind,g1,Result.andThen_ok,hb,g2,bne_self_eq_false,Bool.false_eq_true,if_false,Sem.run_pure,hf']
  ·obtain⟨k1,k2,_⟩:=h4.e p hp
   rw[k1,k2,hcur]
   refine .tup _ _ rfl fun j c hj=>?_
   match j,hj with
   |0,hj=>simp at hj;subst hj;exact J5 R ka fun _=>(cur ()).1
   |1,hj=>simp at hj;subst hj;exact J5 R n fun _=>(cur ()).2
theorem ZcF (d:Nat) (t:TypeId) (e:TypeId) (a:Option Addr) (n c:Nat) (hu:P.underlying t=some (.slice e)):
  (Op.equalIn (d+1) t (.slice a n c) (.slice none 0 0)).run P R.w= .ok a.isNone R.w:=by
 cases a<;>simp only[Op.equalIn,Sem.run_bind,Zv hu,Result.andThen_ok,Sem.run_pure,Option.isNone]
theorem Zbg (t:TypeId) (e:TypeId) (x y:Operand) (a:Option Addr) (n c:Nat) (hu:P.underlying t=some (.slice e)):
  ((do eqGuard .eql t x y (.slice a n c) (.slice none 0 0);binOp .eql t (.slice a n c) (.slice none 0 0)):Sem Value).run P R.w= .ok (.bool a.isNone) R.w:=by
 have h1:(eqGuard .eql t x y (.slice a n c) (.slice none 0 0)).run P R.w= .ok () R.w:=by simp[eqGuard]
 have h2:(Op.equal t (.slice a n c) (.slice none 0 0)).run P R.w= .ok a.isNone R.w:=ZcF 9999 t e a n c hu
 simp only[Sem.run_bind,h1,Result.andThen_ok,binOp,h2,Sem.run_pure]
theorem Zbf (t:TypeId) (e:TypeId) (x y:Operand) (a:Option Addr) (n c:Nat) (hu:P.underlying t=some (.slice e)):
  ((do eqGuard .neq t x y (.slice a n c) (.slice none 0 0);binOp .neq t (.slice a n c) (.slice none 0 0)):Sem Value).run P R.w= .ok (.bool (!a.isNone)) R.w:=by
 have h1:(eqGuard .neq t x y (.slice a n c) (.slice none 0 0)).run P R.w= .ok () R.w:=by simp[eqGuard]
 have h2:(Op.equal t (.slice a n c) (.slice none 0 0)).run P R.w= .ok a.isNone R.w:=ZcF 9999 t e a n c hu
 simp only[Sem.run_bind,h1,Result.andThen_ok,binOp,h2,Sem.run_pure]
theorem ZlS {op:BinOp} {t e:TypeId} (hu:P.underlying t=some (.slice e)) {a v:AV} {c:Cd} {u:Value} (ha:VR R a u) (x y:Operand) (hv:Zcr op a=some (v,c)) (hc:ZN c):
  ∃w,((do eqGuard op t x y u (.slice none 0 0);binOp op t u (.slice none 0 0)):Sem Value).run P R.w= .ok w R.w∧VR R v w:=by
 unfold Zcr at hv
 split at hv
 ·rename_i s n f
  have:u= .slice none 0 0:=by
   cases ha with
   |pure _ _ hp=>
    cases hp with
    |isl0 _ _ _ _ _ _=>rfl
    |islE _ _ _ _ _ _ ht=>rcases ht with h|h<;>cases h
    |isl _ _ _ _ _ _ _ _ _ _ _ ht _ _ _ _ _=>rcases ht with h|h<;>cases h
  subst this
  split at hv<;>(try (cases hv;done))<;>simp only[Option.some.injEq,Prod.mk.injEq]at hv<;>obtain⟨rfl,rfl⟩:=hv
  ·exact⟨_,Zbg t e x y none 0 0 hu,.mkBool rfl⟩
  ·exact⟨_,Zbf t e x y none 0 0 hu,.mkBool rfl⟩
 ·rename_i s n f
  obtain⟨a0,ln,cp,rfl⟩:∃a0 ln cp,u= .slice (some a0) ln cp:=by
   cases ha with
   |pure _ _ hp=>
    cases hp with
    |isl0 _ _ _ _ _ ht=>cases ht
    |islE _ _ _ _ _ _ ht=>rcases ht with h|h<;>cases h
    |isl _ _ _ _ _ _ _ _ _ _ _ ht _ _ _ _ _=>rcases ht with h|h<;>cases h
   |nn _ _ _ _ hp hv=>
    cases hp with
    |isl0 _ _ _ _ _ _=>exact absurd rfl hv
    |islE _ _ _ _ a _ _=>exact⟨a,0,0,rfl⟩
    |isl _ _ _ _ b o len cap us _ _ _ _ _ _ _ _=>exact⟨_,len,cap,rfl⟩
  split at hv<;>(try (cases hv;done))<;>simp only[Option.some.injEq,Prod.mk.injEq]at hv<;>obtain⟨rfl,rfl⟩:=hv
  ·exact⟨_,Zbg t e x y (some a0) ln cp hu,.mkBool rfl⟩
  ·exact⟨_,Zbf t e x y (some a0) ln cp hu,.mkBool rfl⟩
 ·rename_i s n f tk _ _
  have hp:=ha.isl_inv
  split at hv<;>(try (cases hv;done))<;>simp only[Option.some.injEq,Prod.mk.injEq]at hv<;>obtain⟨rfl,rfl⟩:=hv
  all_goals
   have hn:=(Cn.out (hc _ (List.mem_singleton.2 rfl)))
   cases hp with
   |isl0 _ _ _ _ h _=>omega
   |islE _ _ _ _ _ h _=>omega
   |isl _ _ _ _ b o len cap us _ _ _ _ _ _ _ _=>
    first
     |exact⟨_,Zbg t e x y _ len cap hu,.mkBool rfl⟩
     |exact⟨_,Zbf t e x y _ len cap hu,.mkBool rfl⟩
 ·cases hv
theorem Zl6 {op:BinOp} {t ty:TypeId} {x y:Operand} {yt:TypeId} {dst:Option Tmp} {pos:String} {after:Array Edge} {guard:Option (Nat×Bool)} {ax ay:AV} {ρ:Operand→Value}
  (hx:VR R ax (ρ x)) (hy:VR R ay (ρ y)) (hny:Zdj y=true→ρ y= .slice none 0 0) {v:AV} {c:Cd} (hv:ZdG P op t (Zdj y) ax ay=some (v,c)) (hc:ZN c):
  ∃u,(execOp ρ {dst,op:=.binOp op t x y yt,type:=ty,pos,after,guard}).run P R.w= .ok (.value u) R.w∧VR R v u:=by
 have fin:∀vv,(∃u,((do eqGuard op t x y (ρ x) (ρ y);binOp op t (ρ x) (ρ y)):Sem Value).run P R.w= .ok u R.w∧VR R vv u)→
   ∃u,(execOp ρ {dst,op:=.binOp op t x y yt,type:=ty,pos,after,guard}).run P R.w= .ok (.value u) R.w∧VR R vv u:=by
  rintro vv ⟨u,h1,h2⟩
  refine⟨u,?_,h2⟩
  show((do eqGuard op t x y (ρ x) (ρ y);binOp op t (ρ x) (ρ y))>>=fun z=>(pure (.value z):Sem Next)).run P R.w=_
  rw[Sem.run_bind,h1]
  rfl
 apply fin
 unfold ZdG at hv
 split at hv
 ·rename_i hn
  split at hv
  ·rename_i el hu
   rw[hny hn]
   exact ZlS hu hx x y hv hc
  ·cases hv
 ·split at hv
  ·rename_i k a k' b
   have key:∀vv,(∃u,(binOp op t (.int k (a ())) (.int k' (b ()))).run P R.w= .ok u R.w∧VR R vv u)→∃u,((do eqGuard op t x y (ρ x) (ρ y);binOp op t (ρ x) (ρ y)):Sem Value).run P R.w= .ok u R.w∧VR R vv u:=by
    rintro vv ⟨u,h1,h2⟩
    refine⟨u,?_,h2⟩
    rw[Sem.run_bind,hx.int_inv,hy.int_inv,Zf4,Result.andThen_ok,h1]
   split at hv
   ·exact key _ (Zgp .shl t k k' a b v c hv hc)
   ·exact key _ (Zgp .shr t k k' a b v c hv hc)
   ·split at hv
    ·rename_i hkk
     obtain rfl:=Zdn hkk
     exact key _ (ZqN op t k a b v c hv hc)
    ·cases hv
  ·rename_i xs ys
   obtain⟨us,hu,hl1,hr1⟩:=hx.agg_inv
   obtain⟨vs,hv',hl2,hr2⟩:=hy.agg_inv
   split at hv
   ·rename_i hcd
    simp only[Jz,Bool.and_eq_true,Bool.not_eq_true']at hcd
    obtain⟨⟨⟨hfl,hgt⟩,hag⟩,hn2⟩:=hcd
    have hn2:=Zz hn2
    have key:∀g,ZF xs ys=some g→(Op.equalIn (9995+5) t (.agg us) (.agg vs)).run P R.w= .ok (g ()) R.w:=fun g hg=>by
     have:=ZeY (w:=R.w) 5 t xs.length hfl 9995 xs ys us vs g ⟨hl1,hr1⟩ ⟨hl2,hr2⟩ hl1.symm (by omega) hg
     obtain⟨d,hd,_⟩:=Zbw hfl
     rw[hd]at hag
     simpa [Zap,hd,hag]using this
    rw[hu,hv']
    split at hv
    ·simp only[Option.map_eq_some_iff,Prod.mk.injEq]at hv
     obtain⟨g,hg,rfl,rfl⟩:=hv
     refine⟨.bool (g ()),?_,.pure _ _ (.bool g)⟩
     rw[Sem.run_bind,run_eqGuard_agg R.w .eql t x y us vs hgt,Result.andThen_ok,run_eql_struct,key g hg]
     rfl
    ·simp only[Option.map_eq_some_iff,Prod.mk.injEq]at hv
     obtain⟨g,hg,rfl,rfl⟩:=hv
     refine⟨.bool (!g ()),?_,.mkBool rfl⟩
     rw[Sem.run_bind,run_eqGuard_agg R.w .neq t x y us vs hgt,Result.andThen_ok,run_neq_struct,key g hg]
     rfl
    ·cases hv
   ·cases hv
  ·rename_i a b
   rw[hx.bool_inv,hy.bool_inv]
   split at hv
   case h_2=>cases hv
   rename_i hu
   have key:(Op.equal t (.bool (a ())) (.bool (b ()))).run P R.w= .ok (a ()==b ()) R.w:=run_equalIn_bool' R.w 9999 t _ _ hu
   split at hv
   ·cases hv
    refine⟨.bool (a ()==b ()),?_,.mkBool rfl⟩
    show((pure ():Sem Unit)>>=fun _=>(Op.equal t (.bool (a ())) (.bool (b ()))>>=fun x=>(pure (.bool x):Sem Value))).run P R.w=_
    rw[Sem.run_bind,Sem.run_pure,Result.andThen_ok,Sem.run_bind,key]
    rfl
   ·cases hv
    refine⟨.bool (!(a ()==b ())),?_,.mkBool rfl⟩
    show((pure ():Sem Unit)>>=fun _=>(Op.equal t (.bool (a ())) (.bool (b ()))>>=fun x=>(pure (.bool (!x)):Sem Value))).run P R.w=_
    rw[Sem.run_bind,Sem.run_pure,Result.andThen_ok,Sem.run_bind,key]
    rfl
   ·cases hv
  ·cases hv
theorem Zgw {y:Operand} (h:Zdj y=true):y= .const (.slice none 0 0):=by
 unfold Zdj at h
 split at h
 ·rfl
 ·cases h
theorem Zsv (H:HR G R h) {o:Oper} {E:Operand→AV} {ρ:Operand→Value} (hK:∀v,ρ (.const v)=v) (hE:∀x∈o.op.operands,VR R (E x) (ρ x)) {v:AV} {c:Cd} (hv:Y6 P E h o.op=some (v,c)) (hc:ZN c):
  ∃u,(execOp ρ o).run P R.w= .ok (.value u) R.w∧VR R v u:=by
 obtain⟨dst,op,ty,pos,after,guard⟩:=o
 dsimp only at hE hv
 cases op with
 |move x=>
  simp only[Y6,Option.some.injEq,Prod.mk.injEq]at hv
  obtain⟨rfl,rfl⟩:=hv
  exact⟨ρ x,rfl,hE x (by simp[Op.operands])⟩
 |assign x=>
  simp only[Y6,Option.some.injEq,Prod.mk.injEq]at hv
  obtain⟨rfl,rfl⟩:=hv
  exact⟨ρ x,rfl,hE x (by simp[Op.operands])⟩
 |pick a b d=>
  simp only[Y6]at hv
  obtain⟨t,ht,hvr⟩:=Zn3 (hE a (by simp[Op.operands])) (hE b (by simp[Op.operands])) (hE d (by simp[Op.operands])) hv hc
  refine⟨_,?_,hvr⟩
  simp[execOp,ht,asBool]
 |nilCheck x=>
  simp only[Y6]at hv
  have hx:=hE x (by simp[Op.operands])
  split at hv
  ·rename_i i o heq
   simp only[Option.some.injEq,Prod.mk.injEq]at hv
   obtain⟨rfl,rfl⟩:=hv
   rw[heq]at hx
   refine⟨ρ x,?_,hx⟩
   generalize hρ:ρ x=u at hx
   cases hx with
   |pure _ _ hp=>cases hp
   |ptr _ _ hid=>simp only[execOp,hρ];rfl
  ·rename_i i o heq
   simp only[Option.some.injEq,Prod.mk.injEq]at hv
   obtain⟨rfl,rfl⟩:=hv
   rw[heq]at hx
   refine⟨ρ x,?_,hx⟩
   generalize hρ:ρ x=u at hx
   cases hx with
   |pure _ _ hp=>
   cases hp with
   |iptr _ _ _ _ _ _ _ _=>simp only[execOp,hρ];rfl
  ·rename_i i s e o heq
   simp only[Option.some.injEq,Prod.mk.injEq]at hv
   obtain⟨rfl,rfl⟩:=hv
   rw[heq]at hx
   refine⟨ρ x,?_,hx⟩
   generalize hρ:ρ x=u at hx
   cases hx with
   |pure _ _ hp=>cases hp
   |aptr _ _ _ _ _ _ _=>simp only[execOp,hρ];rfl
  ·rename_i i s n e o heq
   simp only[Option.some.injEq,Prod.mk.injEq]at hv
   obtain⟨rfl,rfl⟩:=hv
   rw[heq]at hx
   refine⟨ρ x,?_,hx⟩
   generalize hρ:ρ x=u at hx
   cases hx with
   |pure _ _ hp=>cases hp
   |gptr _ _ _ _ _ _ _ _ _=>simp only[execOp,hρ];rfl
  ·cases hv
 |load t a=>
  simp only[Y6]at hv
  split at hv
  ·rename_i T hT
   obtain⟨x,h1,h2⟩:=ZiE hT H (hE a (by simp[Op.operands])) hv hc
   exact⟨x,by simp[execOp,h1],h2⟩
  ·cases hv
 |fieldAddr t x f=>
  simp only[Y6]at hv
  split at hv
  ·rename_i T hT
   obtain⟨y,h1,h2⟩:=Zge hT (hE x (by simp[Op.operands])) hv
   exact⟨y,by simp[execOp,h1],h2⟩
  ·cases hv
 |indexAddr t x i=>
  simp only[Y6]at hv
  split at hv
  ·rename_i T hT
   obtain⟨y,h1,h2⟩:=Zgc hT H (hE x (by simp[Op.operands])) (hE i (by simp[Op.operands])) hv hc
   exact⟨y,by simp[execOp,h1],h2⟩
  ·cases hv
 |binOp op t x y yt=>
  exact Zl6 (hE x (by simp[Op.operands])) (hE y (by simp[Op.operands])) (fun h=>by rw[Zgw h];exact hK _) (by simpa only[Y6]using hv) hc
 |unOp op t x=>
  have hx:=hE x (by simp[Op.operands])
  cases op with
  |not=>
   simp only[Y6]at hv
   split at hv
   ·rename_i a ha
    rw[ha]at hx
    simp only[Option.some.injEq,Prod.mk.injEq]at hv
    obtain⟨rfl,rfl⟩:=hv
    exact⟨.bool (!a ()),by simp[execOp,hx.bool_inv,Op.unary],.mkBool rfl⟩
   ·cases hv
  |neg=>
   simp only[Y6]at hv
   split at hv
   ·rename_i k a ha
    rw[ha]at hx
    simp only[Option.some.injEq]at hv
    obtain rfl:=(Prod.mk.inj hv).1
    obtain rfl:=(Prod.mk.inj hv).2
    exact⟨_,by simp[execOp,hx.int_inv,Op.unary,Op.intArith],ZbP k _ hc⟩
   ·cases hv
  |_=>simp[Y6]at hv
 |convert s d x=>
  have hx:=hE x (by simp[Op.operands])
  simp only[Y6]at hv
  split at hv
  ·rename_i k a S D ha hS hD
   rw[ha]at hx
   split at hv
   ·rename_i k' hk
    simp only[Option.some.injEq]at hv
    obtain rfl:=(Prod.mk.inj hv).1
    obtain rfl:=(Prod.mk.inj hv).2
    obtain⟨_,ds,_,hds,_⟩:=Xv hS
    have hdd:=ZmN hD hk
    refine⟨_,?_,ZbP k' _ hc⟩
    simp[execOp,hx.int_inv,convert,Zv hds,Zv hdd,Conv.intToInt]
   ·cases hv
  ·cases hv
 |extract x i=>
  have hx:=hE x (by simp[Op.operands])
  simp only[Y6]at hv
  split at hv
  ·rename_i vs ha
   rw[ha]at hx
   split at hv
   ·rename_i a hi
    simp only[Option.some.injEq,Prod.mk.injEq]at hv
    obtain⟨rfl,rfl⟩:=hv
    obtain⟨us,hu,hl,hr⟩:=hx.tup_inv
    have hlt:i<us.size:=by rw[←hl];exact(List.getElem?_eq_some_iff.1 hi).1
    have:=hr i a hi
    rw[Array.getD_eq_getD_getElem?,Array.getElem?_eq_getElem hlt,Option.getD_some]at this
    exact⟨us[i],by simp[execOp,hu,Instr.extract,Array.getElem?_eq_getElem hlt],this⟩
   ·cases hv
  ·cases hv
 |build t ps=>
  simp only[Y6]at hv
  split at hv
  ·rename_i T hT
   split at hv
   ·rename_i fs z hk hz
    split at hv
    ·rename_i hall
     simp only[Bool.and_eq_true]at hall
     simp only[Option.map_eq_some_iff,Prod.mk.injEq]at hv
     obtain⟨cs,hb,rfl,rfl⟩:=hv
     obtain⟨u,h1,h2⟩:=Zlp (ρ:=ρ) (R:=R) hT hk hz hall.1 hb (fun p hp=>⟨hE p.2 (by simp only[Op.operands];rw[←Array.mem_toList_iff];exact List.mem_map.2 ⟨p,hp,rfl⟩),by
      have:=hall.2
      rw[List.all_eq_true]at this
      exact this p hp⟩)
     refine⟨u,?_,h2⟩
     have he:(ps.toList.map fun p=>(p.1,ρ p.2)).toArray=ps.map fun(i,x)=>(i,ρ x):=by
      obtain⟨l⟩:=ps
      simp
     rw[he]at h1
     simp[execOp,h1]
    ·cases hv
   ·cases hv
  ·cases hv
 |index t x i=>
  simp only[Y6]at hv
  split at hv
  case h_3=>cases hv
  case h_2=>
   rename_i cs k e n el h1 h2 hu
   split at hv
   case h_2=>cases hv
   rename_i T hT
   split at hv
   case isFalse=>cases hv
   rename_i hcd
   simp only[Bool.and_eq_true,Bool.not_eq_true']at hcd
   obtain⟨⟨hsz,hag⟩,hn⟩:=hcd
   have hsz:=Zz hsz
   have hn:=Zz hn
   split at hv
   case h_2=>cases hv
   rename_i v' hsel
   cases hv
   obtain⟨r1,r2⟩:=(Cn.out (hc _ (List.mem_singleton.2 rfl)))
   have hx:=hE x (by simp[Op.operands])
   have hi:=hE i (by simp[Op.operands])
   rw[h1]at hx
   rw[h2]at hi
   obtain⟨us,hu1,hl,hr⟩:=hx.agg_inv
   obtain⟨j,d,hj,hd,hs,_,_,hg⟩:=Xv hT
   obtain⟨q,hq⟩:=Int.eq_ofNat_of_zero_le r1
   have hlt:q<us.size:=by omega
   have hqn:q<n:=by omega
   refine⟨us[q],?_,ZkH hsel hq (by omega) fun c hcc=>?_⟩
   ·have hj1:j.size=1:=by omega
    have e:us[q]? =some us[q]:=Array.getElem?_eq_getElem hlt
    have:(Instr.index t (ρ x) (ρ i)).run P R.w= .ok us[q] R.w:=by
     rw[hu1,hi.int_inv]
     simp[Instr.index,asIntOf,Zv hu,hq,hqn,Z6 hj,hj1,part,J9 hd,←hg,hag,e]
    show((Instr.index t (ρ x) (ρ i))>>=fun z=>(pure (.value z):Sem Next)).run P R.w=_
    rw[Sem.run_bind,this]
    rfl
   ·have:=hr q c hcc
    rwa [Array.getD_eq_getD_getElem?,Array.getElem?_eq_getElem hlt,Option.getD_some]at this
  rename_i s k e h1 h2 hu
  simp only[Option.some.injEq,Prod.mk.injEq]at hv
  obtain⟨rfl,rfl⟩:=hv
  obtain⟨hc1,hc2⟩:=(Cn.out (hc _ (List.mem_singleton.2 rfl)))
  have hx:=hE x (by simp[Op.operands])
  have hi:=hE i (by simp[Op.operands])
  rw[h1]at hx
  rw[h2]at hi
  have hi:=hi.int_inv
  have hx:ρ x= .string (s ()):=by
   generalize ρ x=u at hx
   cases hx with
   |pure _ _ hp=>cases hp;rfl
  obtain⟨n,hn⟩:=Int.eq_ofNat_of_zero_le hc1
  have hlt:n<(s ()).size:=by omega
  refine⟨.int .u8 ((s ())[n].toNat:Nat),?_,VR.mkInt ?_⟩
  ·show((Instr.index t (ρ x) (ρ i))>>=fun z=>(pure (.value z):Sem Next)).run P R.w=_
   have:(Instr.index t (ρ x) (ρ i)).run P R.w= .ok (.int .u8 ((s ())[n].toNat:Nat)) R.w:=by
    rw[hx,hi]
    simp[Instr.index,asIntOf,Zv hu,hn,hlt]
   rw[Sem.run_bind,this]
   rfl
  ·simp[hn,hlt]
 |field t x i=>
  have hx:=hE x (by simp[Op.operands])
  simp only[Y6]at hv
  split at hv
  ·rename_i T hT
   split at hv
   ·rename_i fs cs hk ha
    rw[ha]at hx
    obtain⟨us,hu,hl,hr⟩:=hx.agg_inv
    obtain⟨fl,hfu,rfl⟩:=ZbG hT hk
    split at hv
    ·rename_i off sz g hf
     rw[List.getElem?_map,Option.map_eq_some_iff]at hf
     obtain⟨f,hf1,hf2⟩:=hf
     rw[Array.getElem?_toList]at hf1
     obtain⟨j,d,hj,hd,ho,hs,hg⟩:=Zby hf2
     split at hv
     ·rename_i hgt
      split at hv
      ·rename_i hle
       have hle:=Xc hle
       simp only[Option.some.injEq,Prod.mk.injEq]at hv
       obtain⟨rfl,rfl⟩:=hv
       refine⟨.agg (us.extract off (off+sz)),by simp[execOp,hu,Instr.field,Zv hfu,hf1,asAgg,part,J9 hd,hg,hgt,Z6 hj,ho,hs],.agg _ _ (by simp;omega) (fun k a hk'=>?_)⟩
       rw[List.getElem?_take]at hk'
       split at hk'
       ·rename_i hlt
        rw[List.getElem?_drop]at hk'
        have:=hr _ _ hk'
        rw[Array.getD_eq_getD_getElem?,Array.getElem?_extract]
        rw[Array.getD_eq_getD_getElem?]at this
        rw[if_pos (by omega)]
        exact this
       ·cases hk'
      ·cases hv
     ·rename_i hgt
      split at hv
      ·rename_i a hi
       simp only[Option.some.injEq,Prod.mk.injEq]at hv
       obtain⟨rfl,rfl⟩:=hv
       have hlt:off<us.size:=by rw[←hl];exact(List.getElem?_eq_some_iff.1 hi).1
       have:=hr off a hi
       rw[Array.getD_eq_getD_getElem?,Array.getElem?_eq_getElem hlt,Option.getD_some]at this
       have hgf:g=false:=by simpa using hgt
       exact⟨us[off],by simp[execOp,hu,Instr.field,Zv hfu,hf1,asAgg,part,J9 hd,hg,hgf,ho,Array.getElem?_eq_getElem hlt],this⟩
      ·cases hv
    ·cases hv
   ·cases hv
  ·cases hv
 |makeFunc fn first cap=>
  cases fn with
  |func f=>
   simp only[Y6,Option.some.injEq,Prod.mk.injEq]at hv
   obtain⟨rfl,rfl⟩:=hv
   obtain⟨l1,r1⟩:=ZdH (E:=E) (ρ:=ρ) (xs:=first) (R:=R) (fun x hx=>hE x (by simp[Op.operands,hx]))
   obtain⟨l2,r2⟩:=ZdH (E:=E) (ρ:=ρ) (xs:=cap) (R:=R) (fun x hx=>hE x (by simp[Op.operands,hx]))
   exact⟨.func (.func f) (first.map ρ) (cap.map ρ),by simp[execOp,Instr.makeFunc],.fn f _ _ _ _ l1 l2 r1 r2⟩
  |_=>simp[Y6]at hv
 |slice t x lo hi mx=>
  simp only[Y6]at hv
  split at hv
  ·rename_i T hT
   have side:∀(y:Option Operand),(∀z,y=some z→VR R (E z) (ρ z))→(∀a,y.map E=some a→∃w,y.map ρ=some w∧VR R a w)∧(y.map E=none→y.map ρ=none):=by
    intro y hy
    cases y with
    |none=>exact⟨(fun a h=>by cases h),fun _=>rfl⟩
    |some z=>exact⟨fun a h=>by simp only[Option.map_some,Option.some.injEq]at h;subst h;exact⟨_,rfl,hy z rfl⟩,fun h=>by cases h⟩
   obtain⟨s1,s1'⟩:=side lo (fun z hz=>hE z (by simp[Op.operands,hz]))
   obtain⟨s2,s2'⟩:=side hi (fun z hz=>hE z (by simp[Op.operands,hz]))
   obtain⟨s3,s3'⟩:=side mx (fun z hz=>hE z (by simp[Op.operands,hz]))
   obtain⟨y,h1,h2⟩:=Zlj hT H (hE x (by simp[Op.operands])) s1 s1' s2 s2' s3 s3' hv hc
   exact⟨y,by simp[execOp,h1],h2⟩
  ·cases hv
 |lookup t m k ok=>
  simp only[Y6]at hv
  obtain⟨y,h1,h2⟩:=ZjU H (hE m (by simp[Op.operands])) (hE k (by simp[Op.operands])) hv hc
  exact⟨y,by simp[execOp,h1],h2⟩
 |entry x=>
  simp only[Y6]at hv
  obtain⟨y,h1,h2⟩:=ZlT (P:=P) H (hE x (by simp[Op.operands])) hv hc
  exact⟨y,by simp[execOp,h1],h2⟩
 |call cl=>
  obtain⟨callee,args,argTypes⟩:=cl
  cases callee with
  |builtin b=>
   have hx:∀x∈args,VR R (E x) (ρ x):=fun x hx=>hE x (by simp[Op.operands,Call.operands,hx])
   have hrel:=Zi8 hx
   have runB:∀(s:Sem Value) (u:Value),s.run P R.w= .ok u R.w→(do let x←s;pure (Next.value x):Sem Next).run P R.w= .ok (.value u) R.w:=fun s u hs=>by rw[Sem.run_bind,hs];rfl
   cases b with
   |len=>
    simp only[Y6]at hv
    have one:∀x,args.toList.map E=[x]→∃u,args.map ρ= #[u]∧VR R x u:=fun x hxx=>by
     rw[hxx]at hrel
     have:=hrel 0 x rfl
     obtain⟨l⟩:=args
     match l,hxx with
     |[z],hxx=>exact⟨ρ z,by simp,by simpa using this⟩
    split at hv
    ·rename_i s n f tk t ts ha ht
     obtain⟨u,hu,hxu⟩:=one _ ha
     have hp:=hxu.isl_inv
     have h0:argTypes[0]? =some t:=by rw[←Array.getElem?_toList,ht];rfl
     split at hv
     ·rename_i el hsl
      simp only[Option.some.injEq,Prod.mk.injEq]at hv
      obtain⟨rfl,rfl⟩:=hv
      refine⟨.int .i64 (n ()),runB _ _ ?_,.mkInt rfl⟩
      show(Builtin.len_ argTypes ty (args.map ρ)).run P R.w=_
      rw[hu]
      cases hp with
      |isl0 _ _ _ _ hz _=>simp[Builtin.len_,h0,Zv hsl,goInt,hz]
      |islE _ _ _ _ _ hz _=>simp[Builtin.len_,h0,Zv hsl,goInt,hz]
      |isl _ _ _ _ b o len cap us hn _ _ _ _ _ _ _=>simp[Builtin.len_,h0,Zv hsl,goInt,hn]
     ·cases hv
    ·rename_i id s lo n cp t ts ha ht
     obtain⟨u,hu,hxu⟩:=one _ ha
     have h0:argTypes[0]? =some t:=by rw[←Array.getElem?_toList,ht];rfl
     split at hv
     ·rename_i el hsl
      simp only[Option.some.injEq,Prod.mk.injEq]at hv
      obtain⟨rfl,rfl⟩:=hv
      refine⟨.int .i64 (n ()),runB _ _ ?_,.mkInt rfl⟩
      show(Builtin.len_ argTypes ty (args.map ρ)).run P R.w=_
      rw[hu]
      cases hxu with
      |pure _ _ hp=>cases hp
      |msl _ _ _ _ _ i len cap hid hlo hn hc' hle=>simp[Builtin.len_,h0,Zv hsl,goInt,hn]
     ·cases hv
    ·rename_i id n t ts ha ht
     obtain⟨u,hu,hxu⟩:=one _ ha
     have h0:argTypes[0]? =some t:=by rw[←Array.getElem?_toList,ht];rfl
     split at hv
     ·rename_i el hsl
      simp only[Option.some.injEq,Prod.mk.injEq]at hv
      obtain⟨rfl,rfl⟩:=hv
      refine⟨.int .i64 (n ()),runB _ _ ?_,.mkInt rfl⟩
      show(Builtin.len_ argTypes ty (args.map ρ)).run P R.w=_
      rw[hu]
      cases hxu with
      |pure _ _ hp=>cases hp
      |gsl _ _ a l c' hid hn he hl=>simp[Builtin.len_,h0,Zv hsl,goInt,hl.1]
     ·cases hv
    ·cases hv
   |max=>
    simp only[Y6]at hv
    split at hv
    ·rename_i k x r ha
     have hl:args.toList.map ρ=(ρ<$>args.toList):=rfl
     rw[ha]at hrel
     obtain⟨l⟩:=args
     match l,ha with
     |z::zs,ha=>
      simp only[List.map_cons,List.cons.injEq]at ha
      obtain⟨ha1,ha2⟩:=ha
      have h0:=(hrel 0 _ rfl).int_inv
      simp only[List.map_cons,List.getD_cons_zero]at h0
      obtain⟨u,h1,h2⟩:=Zhy (P:=P) (R:=R) true r (zs.map ρ) k x v c hv (by rw[←ha2];simp) (fun j a hj=>by simpa using hrel (j+1) a (by simpa using hj))
      refine⟨u,runB _ _ ?_,h2⟩
      show(Builtin.max_ argTypes ty _).run P R.w=_
      simpa [Builtin.max_,h0]using h1
    ·cases hv
   |min=>
    simp only[Y6]at hv
    split at hv
    ·rename_i k x r ha
     rw[ha]at hrel
     obtain⟨l⟩:=args
     match l,ha with
     |z::zs,ha=>
      simp only[List.map_cons,List.cons.injEq]at ha
      obtain⟨ha1,ha2⟩:=ha
      have h0:=(hrel 0 _ rfl).int_inv
      simp only[List.map_cons,List.getD_cons_zero]at h0
      obtain⟨u,h1,h2⟩:=Zhy (P:=P) (R:=R) false r (zs.map ρ) k x v c hv (by rw[←ha2];simp) (fun j a hj=>by simpa using hrel (j+1) a (by simpa using hj))
      refine⟨u,runB _ _ ?_,h2⟩
      show(Builtin.min_ argTypes ty _).run P R.w=_
      simpa [Builtin.min_,h0]using h1
    ·cases hv
   |_=>simp[Y6]at hv
  |_=>simp[Y6]at hv
 |_=>simp[Y6]at hv
end
end Go.Proofs.YtjgpiclllehgmaaGreat.Vm
