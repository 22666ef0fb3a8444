/- Lemmas. -/
import Derived.Test.YtjgpiclllehgmaaGreatM2
set_option linter.all false
open Bool renaming and_eq_true->aS,and_self->gn,false_eq_true->aX
open Option.some renaming injEq->aD
namespace Go.Proofs.YtjgpiclllehgmaaGreat
namespace Vm
open Go
structure Tb where
 ti:TypeId->Option TI
 un:TypeId->Option TypeDesc
 eqs:TypeId->Nat->Bool
 kp:Bool:=false
 rs:Bool:=false
 rd:Bool:=false
 gh:List (Nat×Nat):=[]
 cuts:List Nat:=[]
 gr:Bool:=false
 ks:Option (List Nat):=none
 nov:Bool:=false
 fl:Bool:=false
 hand:List Nat:=[]
 lp:Bool:=false
 nb:Nat:=0
structure Tb.Of (T:Tb) (P:Program):Prop where
 ti:∀t i,T.ti t=some i->ZI P t=some i
 un:∀t d,T.un t=some d->P.underlying t=some d
 eqs:∀t n,T.eqs t n=true->Zak P t n=true
def Tb.ty (T:Tb):TyF:=⟨T.un,T.ti,λA n=>match n with
 |0=>(match T.un A with
  |some (.int .i64)=>true
  |_=>false)
 |n+1=>T.eqs A (n+1)⟩
def Y7 (T:Tb) (e:TypeId) (s:Nat):Bool:=match T.ti e with
 |some i=>(match i.zero with
  |some z=>ZK z.cells.size s&&ZK i.size s&&Qd i.bytes 1000000
  |none=>false)
 |none=>false
def Zju (T:Tb) (op:BinOp) (t:TypeId) (A:Bool) (x y:AV):Option (AV×Cd):=
 if A then(match T.un t with
  |some (.slice _)=>Zdk op x
  |_=>none)
 else match x,y with
  |.int k a,.int k' b=>(match op with
   |.shl|.shr=>ZiL op k a b
   |_=>if Jl k k' then Ztz op k a b else none)
  |.agg xs,.agg ys=>if T.eqs t xs.length&&ZK xs.length ys.length then
     (match op with
     |.eql=>(ZO xs ys).map λg=>(.bool g,[])
     |.neq=>(ZO xs ys).map λg=>(.bool (λ_=> !g ()),[])
     |_=>none)else none
  |.bool a,.bool b=>(match T.un t with
   |some .bool=>(match op with
    |.eql=>some (.bool (λ_=>a ()==b ()),[])
    |.neq=>some (.bool (λ_=>a () !=b ()),[])
    |_=>none)
   |_=>none)
  |_,_=>none
def Zg0 (T:Tb) (E:Operand->AV) (h:List Zi):Op->Option (AV×Cd)
 |.move x|.assign x=>some (E x,[])
 |.nilCheck x=>(match E x with
  |.ptr i o=>some (.ptr i o,[])
  |.iptr c o=>some (.iptr c o,[])
  |.aptr id s e o=>some (.aptr id s e o,[])
  |.gptr id s n e o=>some (.gptr id s n e o,[])
  |.nptr id s e k o=>some (.nptr id s e k o,[])
  |_=>none)
 |.pick c a b=>ZmU (E c) (E a) (E b)
 |.load t a=>(match T.ti t with
  |some I=>Zh6 I h (E a)
  |none=>none)
 |.fieldAddr t x f=>(match T.ti t with
  |some I=>Jn I (E x) f
  |none=>none)
 |.indexAddr t x i=>(match T.ti t with
  |some I=>Zah I (E x) (E i)
  |none=>none)
 |.binOp A t x y _=>Zju T A t (Zes y) (E x) (E y)
 |.unOp .not _ x=>(match E x with
  |.bool a=>some (.bool (λ_=> !a ()),[])
  |_=>none)
 |.unOp .neg _ x=>(match E x with
  |.int k a=>some (Zfy k λ_=>0-a ())
  |_=>none)
 |.convert s d x=>(match E x,T.ti s,T.ti d with
  |.int _ a,some _,some D=>(match D.k with
   |.int k=>some (Zfy k a)
   |_=>none)
  |_,_,_=>none)
 |.extract x i=>(match E x with
  |.tup G=>(match G[i]? with
   |some v=>some (v,[])
   |none=>none)
  |_=>none)
 |.build t ps=>(match T.ti t with
  |some I=>(match I.k,I.zero with
   |.struct fs,some z=>if fs.all Option.isSome&&ps.toList.all (λp=>plain (E p.2))then(Zdr fs E (XQ z).cellsOf ps.toList).map (λcs=>(.agg cs,[]))else none
   |_,_=>none)
  |none=>none)
 |.index t x i=>(match E x,E i,T.un t with
  |.str s,.int _ e,some .string=>some (.int .u8 λ_=>((((s ())[(e ()).toNat]?).map UInt8.toNat).getD 0:Nat),[dd λ_=>0<=e ()/\e ()<((s ()).size:Int)])
  |.agg cs,.int _ e,some (.array n el)=>(match T.ti el with
   |some I=>if ZK I.size 1&& !I.agg&&ZK cs.length n then(match Zny cs e with
    |some v=>some (v,bnd e n)
    |none=>none)else none
   |none=>none)
  |_,_,_=>none)
 |.lookup t m k ok=>JX T.ty t (E m) (E k) ok h
 |.entry x=>Zjl h (E x)
 |.field t x i=>(match T.ti t with
  |some I=>(match I.k,E x with
   |.struct fs,.agg cs=>(match fs[i]? with
    |some (some (off,sz,g))=>if g then(if Qd (off+sz) cs.length then some (.agg ((cs.drop off).take sz),[])else none)else(match cs[off]? with
     |some v=>some (v,[])
     |none=>none)
    |_=>none)
   |_,_=>none)
  |none=>none)
 |.makeFunc (.func f) a b=>some (.fn f (a.toList.map E) (b.toList.map E),[])
 |.slice t x lo J H=>(match T.ti t with
  |some I=>Zf5 I (E x) (lo.map E) (J.map E) (H.map E)
  |none=>none)
 |.call {callee:=.builtin .len,args,argTypes}=>(match args.toList.map E,argTypes.toList with
  |[.isl _ n _ _],t::_=>(match T.un t with
   |some (.slice _)=>some (.int .i64 n,[])
   |_=>none)
  |[.msl _ _ _ n _],t::_=>(match T.un t with
   |some (.slice _)=>some (.int .i64 n,[])
   |_=>none)
  |[.gsl _ n],t::_=>(match T.un t with
   |some (.slice _)=>some (.int .i64 n,[])
   |_=>none)
  |[.nsub _ _ n],t::_=>(match T.un t with
   |some (.slice _)=>some (.int .i64 n,[])
   |_=>none)
  |_,_=>none)
 |.call {callee:=.builtin .max,args,.. }=>(match args.toList.map E with
  |.int k x::r=>ZgE k true r x
  |_=>none)
 |.call {callee:=.builtin .min,args,.. }=>(match args.toList.map E with
  |.int k x::r=>ZgE k false r x
  |_=>none)
 |_=>none
def Zhh (T:Tb) (t G:TypeId) (dst A:AV) (h:List Zi):Option (AV×List Zi×Cd):=
 match T.un t,T.un G with
 |some (.slice e),some (.slice _)=>(match dst,A with
  |.isl s₁ n f tk,.isl sz m g _=>if Y7 T e sz then(match tk with
   |.nil=>some (.isl sz (λ_=>n ()+m ()) (Z2 n f g) (.own h.length),h++[.tok sz λ_=>n ()+m ()],[dd λ_=>n ()+m ()<=1000000])
   |.exact=>if ZK s₁ sz then(if T.gr then some (.gsl h.length (λ_=>n ()+m ()),h++[.gar sz (λ_=>n ()+m ()) (Z2 n f g)],[dd λ_=>n ()=0,dd λ_=>n ()+m ()<=1000000])else some (.isl sz (λ_=>n ()+m ()) (Z2 n f g) (.own h.length),h++[.tok sz λ_=>n ()+m ()],[dd λ_=>n ()+m ()<=1000000]))else none
   |.own id=>if ZK s₁ sz then(match h[id]? with
    |some (.tok s hw)=>if ZK s sz then some (.isl sz (λ_=>n ()+m ()) (Z2 n f g) (.own id),h.set id (.tok sz λ_=>n ()+m ()),[dd λ_=>n ()=hw (),dd λ_=>n ()+m ()<=1000000])else none
    |_=>none)else none
   |.none=>none
   |.nn=>none)else none
  |.gsl id n,.isl sz m g _=>if Y7 T e sz then(match h[id]? with
   |some (.gar s n0 f)=>if ZK s sz then some (.gsl id (λ_=>n0 ()+m ()),h.set id (.gar sz (λ_=>n0 ()+m ()) (Z2 n0 f g)),[dd λ_=>n ()=n0 (),dd λ_=>n0 ()+m ()<=1000000])else none
   |_=>none)else none
  |.gsl q n,.lit s cs=>Zba (Y7 T e s) q n s cs h
  |.isl s n f .exact,.nsub id a l=>ZcR (T.gr&&Y7 T e s) s n f id a l h
  |_,_=>none)
 |_,_=>none
def Yv (T:Tb) (E:Operand->AV) (t:TypeId) (n:Nat) (ps:List (Nat×Operand)):Option AV:=
 match T.ti t with
 |some I=>(match I.k with
  |.slice e s _=>if Y7 T e s&&ZK ps.length n&&Qd (n*s) 16777216 then(match ZcI E s 0 ps with
   |some A=>some (ZgO s A)
   |none=>Zjd E s ps)else none
  |_=>none)
 |none=>none
def ZqY (T:Tb) (E:Operand->AV) (h:List Zi):Op->Option (AV×List Zi×Cd)
 |.alloc t=>(match T.ti t with
  |some I=>(match I.zero with
   |some z=>some (.ptr h.length 0,h++[.cells (XQ z).cellsOf],[])
   |none=>none)
  |none=>none)
 |.box _ x=>if plain (E x)then some (.ptr h.length 0,h++[.cells (E x).cellsOf],[])else none
 |.store t a x=>(match E a,T.ti t with
  |.ptr id off,some I=>(match Jw h id with
   |some cs=>if plain (E x)&&ZK (E x).cellsOf.length I.size&&Qd (off+I.size) cs.length&&(E x).cellsOf.all ZlU then some (.undef,h.set id (.cells (putC cs off (E x).cellsOf)),[])else none
   |none=>none)
  |.aptr id s e off,some I=>ZcQ I id s e off (E x) h
  |.gptr id s n e off,some I=>ZcK I id s n e off (E x) h
  |.nptr id s e k off,some I=>ZcL I id s e k off (E x) h
  |_,_=>none)
 |.makeSlice t n c=>(match T.ti t with
  |some I=>(if T.gr then Za1 else Jk) I (match I.k with
   |.slice e _ _=>(T.ti e).bind (·.zero)
   |_=>none) (E n) (E c) h
  |none=>none)
 |.buildSlice t n ps=>(Yv T E t n ps.toList).map λv=>(v,h,[])
 |.makeMap t none=>(match Za0 T.ty t with
  |some b=>some (.map h.length,h++[b],[])
  |none=>none)
 |.mapUpdate t m k x=>X0 T.ty t (E m) (E k) (E x) h
 |.range t x=>(match E x,T.un t with
  |.imap ka n L,some (.map _ _)=>some (.mit h.length,h++[.gob (.mapIt ka n L (λ_=>[]) λ_=>([],[]))],[])
  |_,_=>none)
 |.call {callee:=.builtin .append,args,argTypes}=>(match args.toList,argTypes.toList with
  |[x,y],[t,t']=>Zhh T t t' (E x) (E y) h
  |_,_=>none)
 |.call {callee:=.builtin .copy,args,argTypes}=>(match args.toList,argTypes.toList with
  |[x,y],t::_=>(match T.un t with
   |some (.slice e)=>(match T.ti e with
    |some J=>Znd J.size (E x) (E y) h
    |none=>none)
   |_=>none)
  |_,_=>none)
 |.call {callee:=.builtin .clear,args,argTypes}=>(match args.toList,argTypes.toList with
  |[x],t::_=>(match T.un t with
   |some (.slice e)=>(match T.ti e with
    |some J=>Zg6 J.zero J.size (E x) h
    |none=>none)
   |_=>none)
  |_,_=>none)
 |_=>none
section
variable {P:Program} {T:Tb}
theorem Zbd (hT:T.Of P) {e:TypeId} {s:Nat} (h:Y7 T e s=true):Zay P e s=true:=by
 unfold Y7 at h;split at h
 ·rename_i i G;have:=hT.ti _ _ G;unfold ZI at this;split at this
  ·rename_i j d A H;simp only[aD]at this;subst this;unfold Zay;rw[A];exact h
  cases this
 cases h
theorem Zmo (hT:T.Of P) {op:BinOp} {t:TypeId} {I:Bool} {x y:AV} {r:AV×Cd} (h:Zju T op t I x y=some r):ZeQ P op t I x y=some r:=by
 unfold Zju at h;unfold ZeQ;split at h
 ·rename_i H;rw[iQ H];cases A:T.un t with
  |none=>rw[A]at h;cases h
  |some d=>rw[A]at h;rw[hT.un _ _ A];exact h
 rename_i H;rw[iP H];split at h
 ·exact h
 ·rename_i S J;split at h
  ·rename_i G;simp only[aS]at G;simp only[aS];rw[iQ ⟨hT.eqs _ _ G.1,G.2⟩];exact h
  cases h
 ·split at h
  ·rename_i A;rw[hT.un _ _ A];exact h
  cases h
 cases h
theorem Tb.Of.ty (hT:T.Of P):T.ty.le (tyP P):=⟨hT.un,hT.ti,λt n h=>by
 cases n with
 |zero=>
  have h:(match T.un t with
   |some (.int .i64)=>true
   |_=>false)=true:=h
  show(match P.underlying t with
   |some (.int .i64)=>true
   |_=>false)=true
  cases hu:T.un t with
  |none=>rw[hu]at h;cases h
  |some d=>rw[hu]at h;rw[hT.un _ _ hu];exact h
 |succ n=>
  have:=hT.eqs _ _ h;simp only[Zak,aS]at this;show keyT P t (n+1)=true;simp only[keyT,aS]
  exact⟨this.1.1,this.2⟩⟩
section
variable {A B:TyF}
theorem ZfL (H:A.le B) {J:TypeId} {I:Nat} {k:AV} {g:Unit->List Int} (h:ZhA A J I k=some g):ZhA B J I k=some g:=by
 unfold ZhA at h|-;split at h
 ·split at h
  ·rename_i G;simp only[aS]at G;simp only[G.1,H.kT _ _ G.2,gn,if_true];exact h
  cases h
 ·split at h
  ·rename_i G;simp only[aS]at G;simp only[G.1.1,G.1.2,H.kT _ _ G.2,gn,if_true];exact h
  cases h
 cases h
theorem ZcP (H:A.le B) {G:TypeId} {z:Value} (h:(A.ti G).bind (·.zero)=some z):(B.ti G).bind (·.zero)=some z:=by
 obtain⟨T,I,J⟩:=Option.bind_eq_some_iff.1 h;rw[H.ti _ _ I];exact J
theorem ZoD (H:A.le B) {G:TypeId} {n:Nat} (h:zN ((A.ti G).bind (·.zero))=some n):zN ((B.ti G).bind (·.zero))=some n:=by
 cases hz:(A.ti G).bind (·.zero)with
 |none=>rw[hz]at h;cases h
 |some z=>rw[hz]at h;rw[ZcP H hz];exact h
theorem ZuP (G:A.le B) {H:TypeId} {n:Nat} (h:zIs A H n=true):zIs B H n=true:=by
 unfold zIs at h|-;split at h
 ·rename_i m hm;rw[ZoD G hm];exact h
 cases h
theorem Zkg (G:A.le B) {I J:TypeId} {H n:Nat} {L:Unit->List (List Int×List Int)} {k:AV} {ok:Bool} {r:AV×Cd} (h:ZdQ A I J H n L k ok=some r):ZdQ B I J H n L k ok=some r:=by
 unfold ZdQ at h|-;split at h
 ·rename_i g S;rw[ZfL G S];split at h
  ·rename_i U;simp only[ZuP G U,if_true];exact h
  cases h
 cases h
theorem ZlQ (G:A.le B) {t:TypeId} {m k:AV} {ok:Bool} {h:List Zi} {r:AV×Cd} (hv:JX A t m k ok h=some r):JX B t m k ok h=some r:=by
 unfold JX at hv|-;split at hv;case h_2=>cases hv
 rename_i U V S;simp only[G.un _ _ S];split at hv
 ·split at hv
  ·rename_i f H;try simp only[H]
   split at hv
   ·rename_i J I;simp only[G.un _ _ J,ZcP G I];exact hv
   cases hv
  ·rename_i H;try simp only[H]
   exact Zkg G hv
  ·rename_i H;try simp only[H]
   split at hv
   ·rename_i J I;simp only[ZfL G J,ZcP G I];exact hv
   cases hv
  cases hv
 ·exact Zkg G hv
 cases hv
theorem ZgN (G:A.le B) {H:TypeId} {n:Nat} (h:Zkm A H=some n):Zkm B H=some n:=ZoD G h
theorem Zkc (G:A.le B) {t:TypeId} {b:Zi} (h:Za0 A t=some b):Za0 B t=some b:=by
 unfold Za0 at h|-;split at h;case h_2=>cases h
 rename_i kt et Y;simp only[G.un _ _ Y];split at h
 ·rename_i H;simp only[ZcP G H];exact h
 ·rename_i H;simp only[ZcP G H];split at h
  ·rename_i V;simp only[G.un _ _ V];split at h
   ·rename_i U I Z;simp only[ZgN G U,ZgN G I,ZoD G Z];exact h
   cases h
  cases h
 rename_i z S J;split at h
 ·rename_i ka n U I;cases H:(A.ti et).bind (·.zero)with
  |none=>rw[H]at I;cases I
  |some z=>
   rw[ZcP G H];rw[H]at I S J;split
   ·rename_i e;exact absurd e (S _)
   ·rename_i e;exact absurd e J
   simp only[ZgN G U,I];exact h
 cases h
theorem Zhz (G:A.le B) {t:TypeId} {m k x:AV} {h:List Zi} {r:AV×List Zi×Cd} (hv:X0 A t m k x h=some r):X0 B t m k x h=some r:=by
 unfold X0 at hv|-;split at hv;case h_2=>cases hv
 rename_i U V id S;simp only[G.un _ _ S];split at hv
 ·rename_i I;try simp only[I]
  split at hv
  ·rename_i H;simp only[G.un _ _ H];exact hv
  cases hv
 ·rename_i I;try simp only[I]
  split at hv
  ·rename_i H J;simp only[ZfL G H,J];exact hv
  cases hv
 ·rename_i I;try simp only[I]
  split at hv
  ·rename_i H;simp only[ZfL G H];exact hv
  cases hv
 cases hv
end
theorem Znb (hT:T.Of P) {E:Operand->AV} {h:List Zi} {op:Op} {r:AV×Cd} (hv:Zg0 T E h op=some r):JG P E h op=some r:=by
 have one:∀ {α:Type} {t:TypeId} {f:TI->Option α} {x:α},(match T.ti t with
   |some I=>f I
   |none=>none)=some x->(match ZI P t with
   |some I=>f I
   |none=>none)=some x:=by
  intro α t f x h;cases A:T.ti t with
  |none=>rw[A]at h;cases h
  |some i=>rw[A]at h;rw[hT.ti _ _ A];exact h
 cases op with
 |load t a=>exact one (f:=λI=>Zh6 I h (E a)) hv
 |fieldAddr t x f=>exact one (f:=λI=>Jn I (E x) f) hv
 |indexAddr t x i=>exact one (f:=λI=>Zah I (E x) (E i)) hv
 |build t ps=>
  simp only[Zg0]at hv;simp only[JG];cases A:T.ti t with
  |none=>simp only[A]at hv;cases hv
  |some i=>simp only[A]at hv;simp only[hT.ti _ _ A];exact hv
 |field t x i=>
  simp only[Zg0]at hv;simp only[JG];cases A:T.ti t with
  |none=>simp only[A]at hv;cases hv
  |some i=>simp only[A]at hv;simp only[hT.ti _ _ A];exact hv
 |unOp op _ x=>cases op<;>exact hv
 |makeFunc f a b=>cases f<;>exact hv
 |slice t x lo A U=>exact one (f:=λI=>Zf5 I (E x) (lo.map E) (A.map E) (U.map E)) hv
 |index t x i=>
  simp only[Zg0]at hv;simp only[JG];split at hv
  ·rename_i H G J;simp only[H,G,hT.un _ _ J];exact hv
  ·rename_i H G J;simp only[H,G,hT.un _ _ J]
   exact one (f:=λI=>if ZK I.size 1&& !I.agg&&ZK _ _ then(match Zny _ _ with
    |some v=>some (v,bnd _ _)
    |none=>none)else none) hv
  cases hv
 |lookup t m k ok=>exact ZlQ hT.ty hv
 |entry x=>exact hv
 |binOp op t x y _=>exact Zmo hT hv
 |convert s d x=>
  simp only[Zg0]at hv;simp only[JG];cases A:T.ti s with
  |none=>simp only[A]at hv;split at hv<;>first|cases hv|(rename_i h _;cases h)
  |some i=>
   cases hj:T.ti d with
   |none=>simp only[A,hj]at hv;split at hv<;>first|cases hv|(rename_i h;cases h)
   |some j=>simp only[A,hj]at hv;simp only[hT.ti _ _ A,hT.ti _ _ hj];exact hv
 |call c=>
  obtain⟨S,V,Y⟩:=c;cases S with
  |builtin b=>
   cases b with
   |len=>
    simp only[Zg0]at hv;simp only[JG];split at hv
    ·split at hv
     ·rename_i H G _ _ J;simp only[H,G,hT.un _ _ J];exact hv
     cases hv
    ·split at hv
     ·rename_i H G _ _ J;simp only[H,G,hT.un _ _ J];exact hv
     cases hv
    ·split at hv
     ·rename_i H G _ _ J;simp only[H,G,hT.un _ _ J];exact hv
     cases hv
    ·split at hv
     ·rename_i H G _ _ J;simp only[H,G,hT.un _ _ J];exact hv
     cases hv
    cases hv
   |_=>exact hv
  |_=>exact hv
 |_=>exact hv
theorem ZkV (hT:T.Of P) {t G:TypeId} {x y:AV} {h:List Zi} {r:AV×List Zi×Cd} (hv:Zhh T t G x y h=some r):Zd1 T.gr P t G x y h=some r:=by
 unfold Zhh at hv;unfold Zd1;split at hv;case h_2=>cases hv
 rename_i e J I H;simp only[hT.un _ _ I,hT.un _ _ H];split at hv;case h_5=>cases hv
 case h_4=>
  rename_i s n f id a l;have A:(T.gr&&Y7 T e s)=true:=by
   cases A:T.gr&&Y7 T e s with
   |true=>rfl
   |false=>rw[A]at hv;simp[ZcR]at hv
  rw[A]at hv;simp only[aS]at A;simp only[A.1,Zbd hT A.2,gn];exact hv
 case h_3=>
  rename_i q n s cs;have A:Y7 T e s=true:=by
   cases A:Y7 T e s with
   |true=>rfl
   |false=>rw[A]at hv;simp[Zba]at hv
  rw[A]at hv;simp only[Zbd hT A];exact hv
 all_goals
  split at hv;case isFalse=>cases hv
  rename_i A;simp only[Zbd hT A,if_true];exact hv
theorem JP (hT:T.Of P) {E:Operand->AV} {t:TypeId} {n:Nat} {ps:List (Nat×Operand)} {r:AV} (hv:Yv T E t n ps=some r):Yn P E t n ps=some r:=by
 unfold Yv at hv;unfold Yn;cases hi:T.ti t with
 |none=>simp only[hi]at hv;cases hv
 |some i=>
  simp only[hi]at hv;simp only[hT.ti _ _ hi];split at hv
  ·rename_i G;simp only[G];split at hv
   ·rename_i A;simp only[aS]at A|-;rw[iQ ⟨⟨Zbd hT A.1.1,A.1.2⟩,A.2⟩];exact hv
   cases hv
  cases hv
theorem Ztb (hT:T.Of P) {E:Operand->AV} {h:List Zi} {op:Op} {r:AV×List Zi×Cd} (hv:ZqY T E h op=some r):evE T.gr P E h op=some r:=by
 unfold ZqY at hv;split at hv
 ·rename_i t;simp only[evE];cases A:T.ti t with
  |none=>simp only[A]at hv;cases hv
  |some i=>simp only[A]at hv;simp only[hT.ti _ _ A];exact hv
 ·exact hv
 ·rename_i t a x;simp only[evE];split at hv
  ·rename_i G A;simp only[G,hT.ti _ _ A];exact hv
  ·rename_i G A;simp only[G,hT.ti _ _ A];exact hv
  ·rename_i G A;simp only[G,hT.ti _ _ A];exact hv
  ·rename_i G A;simp only[G,hT.ti _ _ A];exact hv
  cases hv
 ·rename_i t n c;simp only[evE];cases A:T.ti t with
  |none=>simp only[A]at hv;cases hv
  |some I=>
   simp only[A]at hv;simp only[hT.ti _ _ A];obtain⟨k,ag,sz,by_,z⟩:=I;cases k with
   |slice e s b=>
    simp only at hv|-;cases he:T.ti e with
    |none=>
     simp only[he,Option.bind_none]at hv;cases hg:T.gr<;>simp only[hg,if_true,aX,if_false]at hv
     ·unfold Jk at hv;split at hv
      ·rename_i H;cases H
      cases hv
     unfold Za1 at hv;split at hv
     ·rename_i H;cases H
     cases hv
    |some J=>
     simp only[he]at hv;simp only[hT.ti _ _ he];exact hv
   |_=>
    simp only at hv;cases hg:T.gr<;>simp only[hg,if_true,aX,if_false]at hv
    ·unfold Jk at hv;split at hv
     ·rename_i H;cases H
     cases hv
    unfold Za1 at hv;split at hv
    ·rename_i H;cases H
    cases hv
 ·rename_i t n ps;simp only[evE];cases Y:Yv T E t n ps.toList with
  |none=>simp only[Y]at hv;cases hv
  |some v=>simp only[Y]at hv;rw[JP hT Y];exact hv
 ·rename_i t;simp only[evE];split at hv
  ·rename_i b Y;rw[Zkc hT.ty Y];exact hv
  cases hv
 ·simp only[evE];exact Zhz hT.ty hv
 ·rename_i t x;simp only[evE];split at hv
  ·rename_i S V;simp only[S,hT.un _ _ V];exact hv
  cases hv
 ·simp only[evE];split at hv
  ·rename_i S U;simp only[S,U];exact ZkV hT hv
  cases hv
 ·simp only[evE];split at hv;case h_2=>cases hv
  rename_i S U;simp only[S,U];split at hv;case h_2=>cases hv
  rename_i V;split at hv;case h_2=>cases hv
  rename_i Z;simp only[hT.un _ _ V,hT.ti _ _ Z];exact hv
 ·simp only[evE];split at hv;case h_2=>cases hv
  rename_i S U;simp only[S,U];split at hv;case h_2=>cases hv
  rename_i V;split at hv;case h_2=>cases hv
  rename_i Z;simp only[hT.un _ _ V,hT.ti _ _ Z];exact hv
 cases hv
end
end Vm
end Go.Proofs.YtjgpiclllehgmaaGreat
