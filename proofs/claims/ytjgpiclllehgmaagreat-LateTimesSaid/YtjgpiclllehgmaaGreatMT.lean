/- Lemmas. -/
import Derived.Test.YtjgpiclllehgmaaGreatM2
set_option linter.all false
open Bool renaming and_eq_true->aT,and_self->gj,false_eq_true->aX
open Option.some renaming injEq->aC
namespace Go.Proofs.YtjgpiclllehgmaaGreat
namespace Vm
open Go
structure Tb where
 ti:TypeId->Option TI
 un:TypeId->Option TypeDesc
 eqs:TypeId->Nat->Bool
 kp:Bool:=false
 rs:Bool:=false
 rd:Bool:=false
 gh:List (Nat×Nat):=[]
 cuts:List Nat:=[]
 gr:Bool:=false
 ks:Option (List Nat):=none
 fl:Bool:=false
 hand:List Nat:=[]
 lp:Bool:=false
 nb:Nat:=0
structure Tb.Of (T:Tb) (P:Program):Prop where
 ti:∀t i,T.ti t=some i->ZC P t=some i
 un:∀t d,T.un t=some d->P.underlying t=some d
 eqs:∀t n,T.eqs t n=true->J9 P t n=true
def Tb.ty (T:Tb):TyF:=⟨T.un,T.ti,fun A n=>match n with
 |0=>(match T.un A with
  |some (.int .i64)=>true
  |_=>false)
 |n+1=>T.eqs A (n+1)⟩
def YW (T:Tb) (e:TypeId) (s:Nat):Bool:=match T.ti e with
 |some i=>(match i.zero with
  |some z=>ZD z.cells.size s&&ZD i.size s&&Z7 i.bytes 1000000
  |none=>false)
 |none=>false
def Zi6 (T:Tb) (op:BinOp) (t:TypeId) (A:Bool) (x y:AV):Option (AV×Cd):=
 if A then(match T.un t with
  |some (.slice _)=>Zdb op x
  |_=>none)
 else match x,y with
  |.int k a,.int k' b=>(match op with
   |.shl|.shr=>Zil op k a b
   |_=>if J5 k k' then Ztc op k a b else none)
  |.agg xs,.agg ys=>if T.eqs t xs.length&&ZD xs.length ys.length then
     (match op with
     |.eql=>(ZK xs ys).map fun g=>(.bool g,[])
     |.neq=>(ZK xs ys).map fun g=>(.bool (fun _=> !g ()),[])
     |_=>none)else none
  |.bool a,.bool b=>(match T.un t with
   |some .bool=>(match op with
    |.eql=>some (.bool (fun _=>a ()==b ()),[])
    |.neq=>some (.bool (fun _=>a () !=b ()),[])
    |_=>none)
   |_=>none)
  |_,_=>none
def ZgN (T:Tb) (E:Operand->AV) (h:List Zh):Op->Option (AV×Cd)
 |.move x|.assign x=>some (E x,[])
 |.nilCheck x=>(match E x with
  |.ptr i o=>some (.ptr i o,[])
  |.iptr c o=>some (.iptr c o,[])
  |.aptr id s e o=>some (.aptr id s e o,[])
  |.gptr id s n e o=>some (.gptr id s n e o,[])
  |.nptr id s e k o=>some (.nptr id s e k o,[])
  |_=>none)
 |.pick c a b=>Zmy (E c) (E a) (E b)
 |.load t a=>(match T.ti t with
  |some I=>ZhJ I h (E a)
  |none=>none)
 |.fieldAddr t x f=>(match T.ti t with
  |some I=>Jc I (E x) f
  |none=>none)
 |.indexAddr t x i=>(match T.ti t with
  |some I=>J6 I (E x) (E i)
  |none=>none)
 |.binOp J t x y _=>Zi6 T J t (Zeg y) (E x) (E y)
 |.unOp .not _ x=>(match E x with
  |.bool a=>some (.bool (fun _=> !a ()),[])
  |_=>none)
 |.unOp .neg _ x=>(match E x with
  |.int k a=>some (Zfl k fun _=>0-a ())
  |_=>none)
 |.convert s d x=>(match E x,T.ti s,T.ti d with
  |.int _ a,some _,some D=>(match D.k with
   |.int k=>some (Zfl k a)
   |_=>none)
  |_,_,_=>none)
 |.extract x i=>(match E x with
  |.tup H=>(match H[i]? with
   |some v=>some (v,[])
   |none=>none)
  |_=>none)
 |.build t ps=>(match T.ti t with
  |some I=>(match I.k,I.zero with
   |.struct fs,some z=>if fs.all Option.isSome&&ps.toList.all (fun p=>plain (E p.2))then(Zdh fs E (Xy z).cellsOf ps.toList).map (fun cs=>(.agg cs,[]))else none
   |_,_=>none)
  |none=>none)
 |.index t x i=>(match E x,E i,T.un t with
  |.str s,.int _ e,some .string=>some (.int .u8 fun _=>((((s ())[(e ()).toNat]?).map UInt8.toNat).getD 0:Nat),[dd fun _=>0<=e ()/\e ()<((s ()).size:Int)])
  |.agg cs,.int _ e,some (.array n el)=>(match T.ti el with
   |some I=>if ZD I.size 1&& !I.agg&&ZD cs.length n then(match Zm8 cs e with
    |some v=>some (v,bnd e n)
    |none=>none)else none
   |none=>none)
  |_,_,_=>none)
 |.lookup t m k ok=>JL T.ty t (E m) (E k) ok h
 |.entry x=>ZiV h (E x)
 |.field t x i=>(match T.ti t with
  |some I=>(match I.k,E x with
   |.struct fs,.agg cs=>(match fs[i]? with
    |some (some (off,sz,g))=>if g then(if Z7 (off+sz) cs.length then some (.agg ((cs.drop off).take sz),[])else none)else(match cs[off]? with
     |some v=>some (v,[])
     |none=>none)
    |_=>none)
   |_,_=>none)
  |none=>none)
 |.makeFunc (.func f) a b=>some (.fn f (a.toList.map E) (b.toList.map E),[])
 |.slice t x lo A G=>(match T.ti t with
  |some I=>ZfR I (E x) (lo.map E) (A.map E) (G.map E)
  |none=>none)
 |.call {callee:=.builtin .len,args,argTypes}=>(match args.toList.map E,argTypes.toList with
  |[.isl _ n _ _],t::_=>(match T.un t with
   |some (.slice _)=>some (.int .i64 n,[])
   |_=>none)
  |[.msl _ _ _ n _],t::_=>(match T.un t with
   |some (.slice _)=>some (.int .i64 n,[])
   |_=>none)
  |[.gsl _ n],t::_=>(match T.un t with
   |some (.slice _)=>some (.int .i64 n,[])
   |_=>none)
  |[.nsub _ _ n],t::_=>(match T.un t with
   |some (.slice _)=>some (.int .i64 n,[])
   |_=>none)
  |_,_=>none)
 |.call {callee:=.builtin .max,args,.. }=>(match args.toList.map E with
  |.int k x::r=>Zgq k true r x
  |_=>none)
 |.call {callee:=.builtin .min,args,.. }=>(match args.toList.map E with
  |.int k x::r=>Zgq k false r x
  |_=>none)
 |_=>none
def Zg2 (T:Tb) (t G:TypeId) (dst A:AV) (h:List Zh):Option (AV×List Zh×Cd):=
 match T.un t,T.un G with
 |some (.slice e),some (.slice _)=>(match dst,A with
  |.isl s₁ n f tk,.isl sz m g _=>if YW T e sz then(match tk with
   |.nil=>some (.isl sz (fun _=>n ()+m ()) (ZV n f g) (.own h.length),h++[.tok sz fun _=>n ()+m ()],[dd fun _=>n ()+m ()<=1000000])
   |.exact=>if ZD s₁ sz then(if T.gr then some (.gsl h.length (fun _=>n ()+m ()),h++[.gar sz (fun _=>n ()+m ()) (ZV n f g)],[dd fun _=>n ()=0,dd fun _=>n ()+m ()<=1000000])else some (.isl sz (fun _=>n ()+m ()) (ZV n f g) (.own h.length),h++[.tok sz fun _=>n ()+m ()],[dd fun _=>n ()+m ()<=1000000]))else none
   |.own id=>if ZD s₁ sz then(match h[id]? with
    |some (.tok s hw)=>if ZD s sz then some (.isl sz (fun _=>n ()+m ()) (ZV n f g) (.own id),h.set id (.tok sz fun _=>n ()+m ()),[dd fun _=>n ()=hw (),dd fun _=>n ()+m ()<=1000000])else none
    |_=>none)else none
   |.none=>none
   |.nn=>none)else none
  |.gsl id n,.isl sz m g _=>if YW T e sz then(match h[id]? with
   |some (.gar s n0 f)=>if ZD s sz then some (.gsl id (fun _=>n0 ()+m ()),h.set id (.gar sz (fun _=>n0 ()+m ()) (ZV n0 f g)),[dd fun _=>n ()=n0 (),dd fun _=>n0 ()+m ()<=1000000])else none
   |_=>none)else none
  |.gsl q n,.lit s cs=>Za3 (YW T e s) q n s cs h
  |.isl s n f .exact,.nsub id a l=>ZcK (T.gr&&YW T e s) s n f id a l h
  |_,_=>none)
 |_,_=>none
def Yj (T:Tb) (E:Operand->AV) (t:TypeId) (n:Nat) (ps:List (Nat×Operand)):Option AV:=
 match T.ti t with
 |some I=>(match I.k with
  |.slice e s _=>if YW T e s&&ZD ps.length n&&Z7 (n*s) 16777216 then(match ZcC E s 0 ps with
   |some A=>some (ZgB s A)
   |none=>ZiN E s ps)else none
  |_=>none)
 |none=>none
def ZqB (T:Tb) (E:Operand->AV) (h:List Zh):Op->Option (AV×List Zh×Cd)
 |.alloc t=>(match T.ti t with
  |some I=>(match I.zero with
   |some z=>some (.ptr h.length 0,h++[.cells (Xy z).cellsOf],[])
   |none=>none)
  |none=>none)
 |.box _ x=>if plain (E x)then some (.ptr h.length 0,h++[.cells (E x).cellsOf],[])else none
 |.store t a x=>(match E a,T.ti t with
  |.ptr id off,some I=>(match Jm h id with
   |some cs=>if plain (E x)&&ZD (E x).cellsOf.length I.size&&Z7 (off+I.size) cs.length&&(E x).cellsOf.all Zlw then some (.undef,h.set id (.cells (putC cs off (E x).cellsOf)),[])else none
   |none=>none)
  |.aptr id s e off,some I=>ZcJ I id s e off (E x) h
  |.gptr id s n e off,some I=>ZcE I id s n e off (E x) h
  |.nptr id s e k off,some I=>ZcF I id s e k off (E x) h
  |_,_=>none)
 |.makeSlice t n c=>(match T.ti t with
  |some I=>(if T.gr then ZaT else Ja) I (match I.k with
   |.slice e _ _=>(T.ti e).bind (·.zero)
   |_=>none) (E n) (E c) h
  |none=>none)
 |.buildSlice t n ps=>(Yj T E t n ps.toList).map fun v=>(v,h,[])
 |.makeMap t none=>(match ZaS T.ty t with
  |some b=>some (.map h.length,h++[b],[])
  |none=>none)
 |.mapUpdate t m k x=>XJ T.ty t (E m) (E k) (E x) h
 |.range t x=>(match E x,T.un t with
  |.imap ka n L,some (.map _ _)=>some (.mit h.length,h++[.gob (.mapIt ka n L (fun _=>[]) fun _=>([],[]))],[])
  |_,_=>none)
 |.call {callee:=.builtin .append,args,argTypes}=>(match args.toList,argTypes.toList with
  |[x,y],[t,t']=>Zg2 T t t' (E x) (E y) h
  |_,_=>none)
 |.call {callee:=.builtin .copy,args,argTypes}=>(match args.toList,argTypes.toList with
  |[x,y],t::_=>(match T.un t with
   |some (.slice e)=>(match T.ti e with
    |some J=>ZmM J.size (E x) (E y) h
    |none=>none)
   |_=>none)
  |_,_=>none)
 |.call {callee:=.builtin .clear,args,argTypes}=>(match args.toList,argTypes.toList with
  |[x],t::_=>(match T.un t with
   |some (.slice e)=>(match T.ti e with
    |some J=>ZgS J.zero J.size (E x) h
    |none=>none)
   |_=>none)
  |_,_=>none)
 |_=>none
section
variable {P:Program} {T:Tb}
theorem Za6 (hT:T.Of P) {e:TypeId} {s:Nat} (h:YW T e s=true):Zap P e s=true:=by
 unfold YW at h;split at h
 ·rename_i i G;have:=hT.ti _ _ G;unfold ZC at this;split at this
  ·rename_i j d A H;simp only[aC]at this;subst this;unfold Zap;rw[A];exact h
  cases this
 cases h
theorem ZlZ (hT:T.Of P) {op:BinOp} {t:TypeId} {I:Bool} {x y:AV} {r:AV×Cd} (h:Zi6 T op t I x y=some r):ZeD P op t I x y=some r:=by
 unfold Zi6 at h;unfold ZeD;split at h
 ·rename_i G;rw[if_pos G];cases A:T.un t with
  |none=>rw[A]at h;cases h
  |some d=>rw[A]at h;rw[hT.un _ _ A];exact h
 rename_i G;rw[if_neg G];split at h
 ·exact h
 ·rename_i J S;split at h
  ·rename_i H;simp only[aT]at H;simp only[aT];rw[if_pos ⟨hT.eqs _ _ H.1,H.2⟩];exact h
  cases h
 ·split at h
  ·rename_i A;rw[hT.un _ _ A];exact h
  cases h
 cases h
theorem Tb.Of.ty (hT:T.Of P):T.ty.le (tyP P):=⟨hT.un,hT.ti,fun t n h=>by
 cases n with
 |zero=>
  have h:(match T.un t with
   |some (.int .i64)=>true
   |_=>false)=true:=h
  show(match P.underlying t with
   |some (.int .i64)=>true
   |_=>false)=true
  cases hu:T.un t with
  |none=>rw[hu]at h;cases h
  |some d=>rw[hu]at h;rw[hT.un _ _ hu];exact h
 |succ n=>
  have:=hT.eqs _ _ h;simp only[J9,aT]at this;show keyT P t (n+1)=true;simp only[keyT,aT]
  exact⟨this.1.1,this.2⟩⟩
section
variable {A B:TyF}
theorem Zfy (H:A.le B) {I:TypeId} {J:Nat} {k:AV} {g:Unit->List Int} (h:Zhk A I J k=some g):Zhk B I J k=some g:=by
 unfold Zhk at h|-;split at h
 ·split at h
  ·rename_i G;simp only[aT]at G;simp only[G.1,H.kT _ _ G.2,gj,if_true];exact h
  cases h
 ·split at h
  ·rename_i G;simp only[aT]at G;simp only[G.1.1,G.1.2,H.kT _ _ G.2,gj,if_true];exact h
  cases h
 cases h
theorem ZcI (G:A.le B) {H:TypeId} {z:Value} (h:(A.ti H).bind (·.zero)=some z):(B.ti H).bind (·.zero)=some z:=by
 obtain⟨T,J,I⟩:=Option.bind_eq_some_iff.1 h;rw[G.ti _ _ J];exact I
theorem Zog (H:A.le B) {G:TypeId} {n:Nat} (h:zN ((A.ti G).bind (·.zero))=some n):zN ((B.ti G).bind (·.zero))=some n:=by
 cases hz:(A.ti G).bind (·.zero)with
 |none=>rw[hz]at h;cases h
 |some z=>rw[hz]at h;rw[ZcI H hz];exact h
theorem Zux (H:A.le B) {G:TypeId} {n:Nat} (h:zIs A G n=true):zIs B G n=true:=by
 unfold zIs at h|-;split at h
 ·rename_i m hm;rw[Zog H hm];exact h
 cases h
theorem ZjS (G:A.le B) {I J:TypeId} {H n:Nat} {L:Unit->List (List Int×List Int)} {k:AV} {ok:Bool} {r:AV×Cd} (h:ZdG A I J H n L k ok=some r):ZdG B I J H n L k ok=some r:=by
 unfold ZdG at h|-;split at h
 ·rename_i g U;rw[Zfy G U];split at h
  ·rename_i S;simp only[Zux G S,if_true];exact h
  cases h
 cases h
theorem Zls (G:A.le B) {t:TypeId} {m k:AV} {ok:Bool} {h:List Zh} {r:AV×Cd} (hv:JL A t m k ok h=some r):JL B t m k ok h=some r:=by
 unfold JL at hv|-;split at hv;case h_2=>cases hv
 rename_i U V S;simp only[G.un _ _ S];split at hv
 ·split at hv
  ·rename_i f H;try simp only[H]
   split at hv
   ·rename_i J I;simp only[G.un _ _ J,ZcI G I];exact hv
   cases hv
  ·rename_i H;try simp only[H]
   exact ZjS G hv
  ·rename_i H;try simp only[H]
   split at hv
   ·rename_i J I;simp only[Zfy G J,ZcI G I];exact hv
   cases hv
  cases hv
 ·exact ZjS G hv
 cases hv
theorem ZgA (H:A.le B) {G:TypeId} {n:Nat} (h:ZjY A G=some n):ZjY B G=some n:=Zog H h
theorem ZjP (G:A.le B) {t:TypeId} {b:Zh} (h:ZaS A t=some b):ZaS B t=some b:=by
 unfold ZaS at h|-;split at h;case h_2=>cases h
 rename_i kt et Z;simp only[G.un _ _ Z];split at h
 ·rename_i H;simp only[ZcI G H];exact h
 ·rename_i H;simp only[ZcI G H];split at h
  ·rename_i V;simp only[G.un _ _ V];split at h
   ·rename_i U I Y;simp only[ZgA G U,ZgA G I,Zog G Y];exact h
   cases h
  cases h
 rename_i z S J;split at h
 ·rename_i ka n U I;cases H:(A.ti et).bind (·.zero)with
  |none=>rw[H]at I;cases I
  |some z=>
   rw[ZcI G H];rw[H]at I S J;split
   ·rename_i e;exact absurd e (S _)
   ·rename_i e;exact absurd e J
   simp only[ZgA G U,I];exact h
 cases h
theorem Zhj (G:A.le B) {t:TypeId} {m k x:AV} {h:List Zh} {r:AV×List Zh×Cd} (hv:XJ A t m k x h=some r):XJ B t m k x h=some r:=by
 unfold XJ at hv|-;split at hv;case h_2=>cases hv
 rename_i U V id S;simp only[G.un _ _ S];split at hv
 ·rename_i H;try simp only[H]
  split at hv
  ·rename_i I;simp only[G.un _ _ I];exact hv
  cases hv
 ·rename_i H;try simp only[H]
  split at hv
  ·rename_i I J;simp only[Zfy G I,J];exact hv
  cases hv
 ·rename_i H;try simp only[H]
  split at hv
  ·rename_i I;simp only[Zfy G I];exact hv
  cases hv
 cases hv
end
theorem ZmL (hT:T.Of P) {E:Operand->AV} {h:List Zh} {op:Op} {r:AV×Cd} (hv:ZgN T E h op=some r):Jv P E h op=some r:=by
 have one:∀ {α:Type} {t:TypeId} {f:TI->Option α} {x:α},(match T.ti t with
   |some I=>f I
   |none=>none)=some x->(match ZC P t with
   |some I=>f I
   |none=>none)=some x:=by
  intro α t f x h;cases A:T.ti t with
  |none=>rw[A]at h;cases h
  |some i=>rw[A]at h;rw[hT.ti _ _ A];exact h
 cases op with
 |load t a=>exact one (f:=fun I=>ZhJ I h (E a)) hv
 |fieldAddr t x f=>exact one (f:=fun I=>Jc I (E x) f) hv
 |indexAddr t x i=>exact one (f:=fun I=>J6 I (E x) (E i)) hv
 |build t ps=>
  simp only[ZgN]at hv;simp only[Jv];cases A:T.ti t with
  |none=>simp only[A]at hv;cases hv
  |some i=>simp only[A]at hv;simp only[hT.ti _ _ A];exact hv
 |field t x i=>
  simp only[ZgN]at hv;simp only[Jv];cases A:T.ti t with
  |none=>simp only[A]at hv;cases hv
  |some i=>simp only[A]at hv;simp only[hT.ti _ _ A];exact hv
 |unOp op _ x=>cases op<;>exact hv
 |makeFunc f a b=>cases f<;>exact hv
 |slice t x lo A U=>exact one (f:=fun I=>ZfR I (E x) (lo.map E) (A.map E) (U.map E)) hv
 |index t x i=>
  simp only[ZgN]at hv;simp only[Jv];split at hv
  ·rename_i H G J;simp only[H,G,hT.un _ _ J];exact hv
  ·rename_i H G J;simp only[H,G,hT.un _ _ J]
   exact one (f:=fun I=>if ZD I.size 1&& !I.agg&&ZD _ _ then(match Zm8 _ _ with
    |some v=>some (v,bnd _ _)
    |none=>none)else none) hv
  cases hv
 |lookup t m k ok=>exact Zls hT.ty hv
 |entry x=>exact hv
 |binOp op t x y _=>exact ZlZ hT hv
 |convert s d x=>
  simp only[ZgN]at hv;simp only[Jv];cases A:T.ti s with
  |none=>simp only[A]at hv;split at hv<;>first|cases hv|(rename_i h _;cases h)
  |some i=>
   cases hj:T.ti d with
   |none=>simp only[A,hj]at hv;split at hv<;>first|cases hv|(rename_i h;cases h)
   |some j=>simp only[A,hj]at hv;simp only[hT.ti _ _ A,hT.ti _ _ hj];exact hv
 |call c=>
  obtain⟨S,V,Y⟩:=c;cases S with
  |builtin b=>
   cases b with
   |len=>
    simp only[ZgN]at hv;simp only[Jv];split at hv
    ·split at hv
     ·rename_i H G _ _ J;simp only[H,G,hT.un _ _ J];exact hv
     cases hv
    ·split at hv
     ·rename_i H G _ _ J;simp only[H,G,hT.un _ _ J];exact hv
     cases hv
    ·split at hv
     ·rename_i H G _ _ J;simp only[H,G,hT.un _ _ J];exact hv
     cases hv
    ·split at hv
     ·rename_i H G _ _ J;simp only[H,G,hT.un _ _ J];exact hv
     cases hv
    cases hv
   |_=>exact hv
  |_=>exact hv
 |_=>exact hv
theorem Zky (hT:T.Of P) {t G:TypeId} {x y:AV} {h:List Zh} {r:AV×List Zh×Cd} (hv:Zg2 T t G x y h=some r):ZdS T.gr P t G x y h=some r:=by
 unfold Zg2 at hv;unfold ZdS;split at hv;case h_2=>cases hv
 rename_i e J I H;simp only[hT.un _ _ I,hT.un _ _ H];split at hv;case h_5=>cases hv
 case h_4=>
  rename_i s n f id a l;have A:(T.gr&&YW T e s)=true:=by
   cases A:T.gr&&YW T e s with
   |true=>rfl
   |false=>rw[A]at hv;simp[ZcK]at hv
  rw[A]at hv;simp only[aT]at A;simp only[A.1,Za6 hT A.2,gj];exact hv
 case h_3=>
  rename_i q n s cs;have A:YW T e s=true:=by
   cases A:YW T e s with
   |true=>rfl
   |false=>rw[A]at hv;simp[Za3]at hv
  rw[A]at hv;simp only[Za6 hT A];exact hv
 all_goals
  split at hv;case isFalse=>cases hv
  rename_i A;simp only[Za6 hT A,if_true];exact hv
theorem JD (hT:T.Of P) {E:Operand->AV} {t:TypeId} {n:Nat} {ps:List (Nat×Operand)} {r:AV} (hv:Yj T E t n ps=some r):Ya P E t n ps=some r:=by
 unfold Yj at hv;unfold Ya;cases hi:T.ti t with
 |none=>simp only[hi]at hv;cases hv
 |some i=>
  simp only[hi]at hv;simp only[hT.ti _ _ hi];split at hv
  ·rename_i G;simp only[G];split at hv
   ·rename_i A;simp only[aT]at A|-;rw[if_pos ⟨⟨Za6 hT A.1.1,A.1.2⟩,A.2⟩];exact hv
   cases hv
  cases hv
theorem ZsR (hT:T.Of P) {E:Operand->AV} {h:List Zh} {op:Op} {r:AV×List Zh×Cd} (hv:ZqB T E h op=some r):evE T.gr P E h op=some r:=by
 unfold ZqB at hv;split at hv
 ·rename_i t;simp only[evE];cases A:T.ti t with
  |none=>simp only[A]at hv;cases hv
  |some i=>simp only[A]at hv;simp only[hT.ti _ _ A];exact hv
 ·exact hv
 ·rename_i t a x;simp only[evE];split at hv
  ·rename_i S A;simp only[S,hT.ti _ _ A];exact hv
  ·rename_i S A;simp only[S,hT.ti _ _ A];exact hv
  ·rename_i S A;simp only[S,hT.ti _ _ A];exact hv
  ·rename_i S A;simp only[S,hT.ti _ _ A];exact hv
  cases hv
 ·rename_i t n c;simp only[evE];cases A:T.ti t with
  |none=>simp only[A]at hv;cases hv
  |some I=>
   simp only[A]at hv;simp only[hT.ti _ _ A];obtain⟨k,ag,sz,by_,z⟩:=I;cases k with
   |slice e s b=>
    simp only at hv|-;cases he:T.ti e with
    |none=>
     simp only[he,Option.bind_none]at hv;cases hg:T.gr<;>simp only[hg,if_true,aX,if_false]at hv
     ·unfold Ja at hv;split at hv
      ·rename_i H;cases H
      cases hv
     unfold ZaT at hv;split at hv
     ·rename_i H;cases H
     cases hv
    |some J=>
     simp only[he]at hv;simp only[hT.ti _ _ he];exact hv
   |_=>
    simp only at hv;cases hg:T.gr<;>simp only[hg,if_true,aX,if_false]at hv
    ·unfold Ja at hv;split at hv
     ·rename_i H;cases H
     cases hv
    unfold ZaT at hv;split at hv
    ·rename_i H;cases H
    cases hv
 ·rename_i t n ps;simp only[evE];cases U:Yj T E t n ps.toList with
  |none=>simp only[U]at hv;cases hv
  |some v=>simp only[U]at hv;rw[JD hT U];exact hv
 ·rename_i t;simp only[evE];split at hv
  ·rename_i b U;rw[ZjP hT.ty U];exact hv
  cases hv
 ·simp only[evE];exact Zhj hT.ty hv
 ·rename_i t x;simp only[evE];split at hv
  ·rename_i G Y;simp only[G,hT.un _ _ Y];exact hv
  cases hv
 ·simp only[evE];split at hv
  ·rename_i G V;simp only[G,V];exact Zky hT hv
  cases hv
 ·simp only[evE];split at hv;case h_2=>cases hv
  rename_i G V;simp only[G,V];split at hv;case h_2=>cases hv
  rename_i Y;split at hv;case h_2=>cases hv
  rename_i Z;simp only[hT.un _ _ Y,hT.ti _ _ Z];exact hv
 ·simp only[evE];split at hv;case h_2=>cases hv
  rename_i G V;simp only[G,V];split at hv;case h_2=>cases hv
  rename_i Y;split at hv;case h_2=>cases hv
  rename_i Z;simp only[hT.un _ _ Y,hT.ti _ _ Z];exact hv
 cases hv
end
end Vm
end Go.Proofs.YtjgpiclllehgmaaGreat
