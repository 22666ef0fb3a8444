/- The abstract machine: the same operations, with the types' facts out of a table. -/
import Derived.Test.YtjgpiclllehgmaaGreatM2
set_option linter.unusedSimpArgs false
set_option linter.unusedVariables false
namespace Go.Proofs.YtjgpiclllehgmaaGreat.Vm
open Go
structure Tb where
 ti:TypeId→Option TI
 un:TypeId→Option TypeDesc
 eqs:TypeId→Nat→Bool
 kp:Bool:=false
 rs:Bool:=false
 rd:Bool:=false
 gh:List (Nat×Nat):=[]
 cuts:List Nat:=[]
 gr:Bool:=false
 ks:Option (List Nat):=none
 fl:Bool:=false
 hand:List Nat:=[]
 lp:Bool:=false
 nb:Nat:=0
structure Tb.Of (T:Tb) (P:Program):Prop where
 ti:∀t i,T.ti t=some i→Zx P t=some i
 un:∀t d,T.un t=some d→P.underlying t=some d
 eqs:∀t n,T.eqs t n=true→Jz P t n=true
def Tb.ty (T:Tb):TyF:=⟨T.un,T.ti,fun kt n=>match n with
 |0=>(match T.un kt with
  |some (.int .i64)=>true
  |_=>false)
 |n+1=>T.eqs kt (n+1)⟩
def Zcy (T:Tb) (e:TypeId) (s:Nat):Bool:=match T.ti e with
 |some i=>(match i.zero with
  |some z=>ZC z.cells.size s&&ZC i.size s&&Z4 i.bytes 1000000
  |none=>false)
 |none=>false
def ZhW (T:Tb) (op:BinOp) (t:TypeId) (nl:Bool) (x y:AV):Option (AV×Cd):=
 if nl then(match T.un t with
  |some (.slice _)=>Zcr op x
  |_=>none)
 else match x,y with
  |.int k a,.int k' b=>(match op with
   |.shl|.shr=>Zhd op k a b
   |_=>if Jx k k' then ZqO op k a b else none)
  |.agg xs,.agg ys=>if T.eqs t xs.length&&ZC xs.length ys.length then
     (match op with
     |.eql=>(ZF xs ys).map fun g=>(.bool g,[])
     |.neq=>(ZF xs ys).map fun g=>(.bool (fun _=> !g ()),[])
     |_=>none)else none
  |.bool a,.bool b=>(match T.un t with
   |some .bool=>(match op with
    |.eql=>some (.bool (fun _=>a ()==b ()),[])
    |.neq=>some (.bool (fun _=>a () !=b ()),[])
    |_=>none)
   |_=>none)
  |_,_=>none
def ZfD (T:Tb) (E:Operand→AV) (h:List Zi):Op→Option (AV×Cd)
 |.move x|.assign x=>some (E x,[])
 |.nilCheck x=>(match E x with
  |.ptr i o=>some (.ptr i o,[])
  |.iptr c o=>some (.iptr c o,[])
  |.aptr id s e o=>some (.aptr id s e o,[])
  |.gptr id s n e o=>some (.gptr id s n e o,[])
  |_=>none)
 |.pick c a b=>ZkQ (E c) (E a) (E b)
 |.load t a=>(match T.ti t with
  |some I=>ZgC I h (E a)
  |none=>none)
 |.fieldAddr t x f=>(match T.ti t with
  |some I=>YN I (E x) f
  |none=>none)
 |.indexAddr t x i=>(match T.ti t with
  |some I=>Jy I (E x) (E i)
  |none=>none)
 |.binOp op t x y _=>ZhW T op t (Zdj y) (E x) (E y)
 |.unOp .not _ x=>(match E x with
  |.bool a=>some (.bool (fun _=> !a ()),[])
  |_=>none)
 |.unOp .neg _ x=>(match E x with
  |.int k a=>some (Zem k fun _=>0-a ())
  |_=>none)
 |.convert s d x=>(match E x,T.ti s,T.ti d with
  |.int _ a,some _,some D=>(match D.k with
   |.int k=>some (Zem k a)
   |_=>none)
  |_,_,_=>none)
 |.extract x i=>(match E x with
  |.tup vs=>(match vs[i]? with
   |some v=>some (v,[])
   |none=>none)
  |_=>none)
 |.build t ps=>(match T.ti t with
  |some I=>(match I.k,I.zero with
   |.struct fs,some z=>if fs.all Option.isSome&&ps.toList.all (fun p=>plain (E p.2))then(Zcv fs E (Xr z).cellsOf ps.toList).map (fun cs=>(.agg cs,[]))else none
   |_,_=>none)
  |none=>none)
 |.index t x i=>(match E x,E i,T.un t with
  |.str s,.int _ e,some .string=>some (.int .u8 fun _=>((((s ())[(e ()).toNat]?).map UInt8.toNat).getD 0:Nat),[dd fun _=>0≤e ()∧e ()<((s ()).size:Int)])
  |.agg cs,.int _ e,some (.array n el)=>(match T.ti el with
   |some I=>if ZC I.size 1&& !I.agg&&ZC cs.length n then(match Zll cs e with
    |some v=>some (v,bnd e n)
    |none=>none)else none
   |none=>none)
  |_,_,_=>none)
 |.lookup t m k ok=>Jj T.ty t (E m) (E k) ok h
 |.entry x=>ZhK h (E x)
 |.field t x i=>(match T.ti t with
  |some I=>(match I.k,E x with
   |.struct fs,.agg cs=>(match fs[i]? with
    |some (some (off,sz,g))=>if g then(if Z4 (off+sz) cs.length then some (.agg ((cs.drop off).take sz),[])else none)else(match cs[off]? with
     |some v=>some (v,[])
     |none=>none)
    |_=>none)
   |_,_=>none)
  |none=>none)
 |.makeFunc (.func f) a b=>some (.fn f (a.toList.map E) (b.toList.map E),[])
 |.slice t x lo hi mx=>(match T.ti t with
  |some I=>ZeR I (E x) (lo.map E) (hi.map E) (mx.map E)
  |none=>none)
 |.call {callee:=.builtin .len,args,argTypes}=>(match args.toList.map E,argTypes.toList with
  |[.isl _ n _ _],t::_=>(match T.un t with
   |some (.slice _)=>some (.int .i64 n,[])
   |_=>none)
  |[.msl _ _ _ n _],t::_=>(match T.un t with
   |some (.slice _)=>some (.int .i64 n,[])
   |_=>none)
  |[.gsl _ n],t::_=>(match T.un t with
   |some (.slice _)=>some (.int .i64 n,[])
   |_=>none)
  |_,_=>none)
 |.call {callee:=.builtin .max,args,.. }=>(match args.toList.map E with
  |.int k x::r=>Zfm k true r x
  |_=>none)
 |.call {callee:=.builtin .min,args,.. }=>(match args.toList.map E with
  |.int k x::r=>Zfm k false r x
  |_=>none)
 |_=>none
def ZfT (T:Tb) (t t':TypeId) (dst src:AV) (h:List Zi):Option (AV×List Zi×Cd):=
 match T.un t,T.un t' with
 |some (.slice e),some (.slice _)=>(match dst,src with
  |.isl s₁ n f tk,.isl sz m g _=>if Zcy T e sz then(match tk with
   |.nil=>some (.isl sz (fun _=>n ()+m ()) (QM n f g) (.own h.length),h++[.tok sz fun _=>n ()+m ()],[dd fun _=>n ()+m ()≤1000000])
   |.exact=>if ZC s₁ sz then(if T.gr then some (.gsl h.length (fun _=>n ()+m ()),h++[.gar sz (fun _=>n ()+m ()) (QM n f g)],[dd fun _=>n ()=0,dd fun _=>n ()+m ()≤1000000])else some (.isl sz (fun _=>n ()+m ()) (QM n f g) (.own h.length),h++[.tok sz fun _=>n ()+m ()],[dd fun _=>n ()+m ()≤1000000]))else none
   |.own id=>if ZC s₁ sz then(match h[id]? with
    |some (.tok s hw)=>if ZC s sz then some (.isl sz (fun _=>n ()+m ()) (QM n f g) (.own id),h.set id (.tok sz fun _=>n ()+m ()),[dd fun _=>n ()=hw (),dd fun _=>n ()+m ()≤1000000])else none
    |_=>none)else none
   |.none=>none
   |.nn=>none)else none
  |.gsl id n,.isl sz m g _=>if Zcy T e sz then(match h[id]? with
   |some (.gar s n0 f)=>if ZC s sz then some (.gsl id (fun _=>n0 ()+m ()),h.set id (.gar sz (fun _=>n0 ()+m ()) (QM n0 f g)),[dd fun _=>n ()=n0 (),dd fun _=>n0 ()+m ()≤1000000])else none
   |_=>none)else none
  |_,_=>none)
 |_,_=>none
def XY (T:Tb) (E:Operand→AV) (t:TypeId) (n:Nat) (ps:List (Nat×Operand)):Option AV:=
 match T.ti t with
 |some I=>(match I.k with
  |.slice e s _=>if Zcy T e s&&ZC ps.length n&&Z4 (n*s) 16777216 then(match ZbU E s 0 ps with
   |some rows=>some (Zcq s rows)
   |none=>ZhD E s ps)else none
  |_=>none)
 |none=>none
def ZoA (T:Tb) (E:Operand→AV) (h:List Zi):Op→Option (AV×List Zi×Cd)
 |.alloc t=>(match T.ti t with
  |some I=>(match I.zero with
   |some z=>some (.ptr h.length 0,h++[.cells (Xr z).cellsOf],[])
   |none=>none)
  |none=>none)
 |.box _ x=>if plain (E x)then some (.ptr h.length 0,h++[.cells (E x).cellsOf],[])else none
 |.store t a x=>(match E a,T.ti t with
  |.ptr id off,some I=>(match YW h id with
   |some cs=>if plain (E x)&&ZC (E x).cellsOf.length I.size&&Z4 (off+I.size) cs.length&&(E x).cellsOf.all Zoj then some (.undef,h.set id (.cells (putC cs off (E x).cellsOf)),[])else none
   |none=>none)
  |.aptr id s e off,some I=>Zb0 I id s e off (E x) h
  |.gptr id s n e off,some I=>ZbW I id s n e off (E x) h
  |_,_=>none)
 |.makeSlice t n c=>(match T.ti t with
  |some I=>(if T.gr then Zah else YL) I (match I.k with
   |.slice e _ _=>(T.ti e).bind (·.zero)
   |_=>none) (E n) (E c) h
  |none=>none)
 |.buildSlice t n ps=>(XY T E t n ps.toList).map fun v=>(v,h,[])
 |.makeMap t none=>(match Zag T.ty t with
  |some b=>some (.map h.length,h++[b],[])
  |none=>none)
 |.mapUpdate t m k x=>Xx T.ty t (E m) (E k) (E x) h
 |.range t x=>(match E x,T.un t with
  |.imap ka n L,some (.map _ _)=>some (.mit h.length,h++[.gob (.mapIt ka n L (fun _=>[]) fun _=>([],[]))],[])
  |_,_=>none)
 |.call {callee:=.builtin .append,args,argTypes}=>(match args.toList,argTypes.toList with
  |[x,y],[t,t']=>ZfT T t t' (E x) (E y) h
  |_,_=>none)
 |.call {callee:=.builtin .copy,args,argTypes}=>(match args.toList,argTypes.toList with
  |[x,y],t::_=>(match T.un t with
   |some (.slice e)=>(match T.ti e with
    |some J=>Zk4 J.size (E x) (E y) h
    |none=>none)
   |_=>none)
  |_,_=>none)
 |.call {callee:=.builtin .clear,args,argTypes}=>(match args.toList,argTypes.toList with
  |[x],t::_=>(match T.un t with
   |some (.slice e)=>(match T.ti e with
    |some J=>ZfJ J.zero J.size (E x) h
    |none=>none)
   |_=>none)
  |_,_=>none)
 |_=>none
section
variable {P:Program} {T:Tb}
theorem ZeH (hT:T.Of P) {e:TypeId} {s:Nat} (h:Zcy T e s=true):Zcj P e s=true:=by
 unfold Zcy at h
 split at h
 ·rename_i i hi
  have:=hT.ti _ _ hi
  unfold Zx at this
  split at this
  ·rename_i j d hj hd
   simp only[Option.some.injEq]at this
   subst this
   unfold Zcj
   rw[hj]
   exact h
  ·cases this
 ·cases h
theorem Zkp (hT:T.Of P) {op:BinOp} {t:TypeId} {nl:Bool} {x y:AV} {r:AV×Cd} (h:ZhW T op t nl x y=some r):ZdG P op t nl x y=some r:=by
 unfold ZhW at h
 unfold ZdG
 split at h
 ·rename_i hn
  rw[if_pos hn]
  cases hu:T.un t with
  |none=>rw[hu]at h;cases h
  |some d=>rw[hu]at h;rw[hT.un _ _ hu];exact h
 ·rename_i hn
  rw[if_neg hn]
  split at h
  ·exact h
  ·rename_i xs ys
   split at h
   ·rename_i hc
    simp only[Bool.and_eq_true]at hc
    simp only[Bool.and_eq_true]
    rw[if_pos ⟨hT.eqs _ _ hc.1,hc.2⟩]
    exact h
   ·cases h
  ·split at h
   ·rename_i hu
    rw[hT.un _ _ hu]
    exact h
   ·cases h
  ·cases h
theorem Tb.Of.ty (hT:T.Of P):T.ty.le (tyP P):=⟨hT.un,hT.ti,fun t n h=>by
 cases n with
 |zero=>
  have h:(match T.un t with
   |some (.int .i64)=>true
   |_=>false)=true:=h
  show(match P.underlying t with
   |some (.int .i64)=>true
   |_=>false)=true
  cases hu:T.un t with
  |none=>rw[hu]at h;cases h
  |some d=>rw[hu]at h;rw[hT.un _ _ hu];exact h
 |succ n=>
  have:=hT.eqs _ _ h
  simp only[Jz,Bool.and_eq_true]at this
  show keyT P t (n+1)=true
  simp only[keyT,Bool.and_eq_true]
  exact⟨this.1.1,this.2⟩⟩
section
variable {A B:TyF}
theorem Zez (hAB:A.le B) {kt:TypeId} {ka:Nat} {k:AV} {g:Unit→List Int} (h:Zgb A kt ka k=some g):Zgb B kt ka k=some g:=by
 unfold Zgb at h⊢
 split at h
 ·split at h
  ·rename_i hc
   simp only[Bool.and_eq_true]at hc
   simp only[hc.1,hAB.kT _ _ hc.2,Bool.and_self,if_true]
   exact h
  ·cases h
 ·split at h
  ·rename_i hc
   simp only[Bool.and_eq_true]at hc
   simp only[hc.1.1,hc.1.2,hAB.kT _ _ hc.2,Bool.and_self,if_true]
   exact h
  ·cases h
 ·cases h
theorem ZbZ (hAB:A.le B) {et:TypeId} {z:Value} (h:(A.ti et).bind (·.zero)=some z):(B.ti et).bind (·.zero)=some z:=by
 obtain⟨T,h1,h2⟩:=Option.bind_eq_some_iff.1 h
 rw[hAB.ti _ _ h1]
 exact h2
theorem Zmm (hAB:A.le B) {et:TypeId} {n:Nat} (h:zN ((A.ti et).bind (·.zero))=some n):zN ((B.ti et).bind (·.zero))=some n:=by
 cases hz:(A.ti et).bind (·.zero)with
 |none=>rw[hz]at h;cases h
 |some z=>rw[hz]at h;rw[ZbZ hAB hz];exact h
theorem Zr5 (hAB:A.le B) {et:TypeId} {n:Nat} (h:zIs A et n=true):zIs B et n=true:=by
 unfold zIs at h⊢
 split at h
 ·rename_i m hm
  rw[Zmm hAB hm]
  exact h
 ·cases h
theorem ZiC (hAB:A.le B) {kt et:TypeId} {ka n:Nat} {L:Unit→List (List Int×List Int)} {k:AV} {ok:Bool} {r:AV×Cd} (h:ZcR A kt et ka n L k ok=some r):ZcR B kt et ka n L k ok=some r:=by
 unfold ZcR at h⊢
 split at h
 ·rename_i g hg
  rw[Zez hAB hg]
  split at h
  ·rename_i hz
   simp only[Zr5 hAB hz,if_true]
   exact h
  ·cases h
 ·cases h
theorem ZjV (hAB:A.le B) {t:TypeId} {m k:AV} {ok:Bool} {h:List Zi} {r:AV×Cd} (hv:Jj A t m k ok h=some r):Jj B t m k ok h=some r:=by
 unfold Jj at hv⊢
 split at hv
 case h_2=>cases hv
 rename_i kt et hu
 simp only[hAB.un _ _ hu]
 split at hv
 ·split at hv
  ·rename_i f hi
   try simp only[hi]
   split at hv
   ·rename_i h1 h2
    simp only[hAB.un _ _ h1,ZbZ hAB h2]
    exact hv
   ·cases hv
  ·rename_i hi
   try simp only[hi]
   exact ZiC hAB hv
  ·rename_i hi
   try simp only[hi]
   split at hv
   ·rename_i h1 h2
    simp only[Zez hAB h1,ZbZ hAB h2]
    exact hv
   ·cases hv
  ·cases hv
 ·exact ZiC hAB hv
 ·cases hv
theorem Zfs (hAB:A.le B) {kt:TypeId} {n:Nat} (h:ZiH A kt=some n):ZiH B kt=some n:=Zmm hAB h
theorem Ziy (hAB:A.le B) {t:TypeId} {b:Zi} (h:Zag A t=some b):Zag B t=some b:=by
 unfold Zag at h⊢
 split at h
 case h_2=>cases h
 rename_i kt et hu
 simp only[hAB.un _ _ hu]
 split at h
 ·rename_i hz
  simp only[ZbZ hAB hz]
  exact h
 ·rename_i hz
  simp only[ZbZ hAB hz]
  split at h
  ·rename_i hu2
   simp only[hAB.un _ _ hu2]
   split at h
   ·rename_i h1 h2 h3
    simp only[Zfs hAB h1,Zfs hAB h2,Zmm hAB h3]
    exact h
   ·cases h
  ·cases h
 ·rename_i z hz1 hz2
  split at h
  ·rename_i ka n h1 h2
   cases hz:(A.ti et).bind (·.zero)with
   |none=>rw[hz]at h2;cases h2
   |some z=>
    rw[ZbZ hAB hz]
    rw[hz]at h2 hz1 hz2
    split
    ·rename_i e;exact absurd e (hz1 _)
    ·rename_i e;exact absurd e hz2
    ·simp only[Zfs hAB h1,h2]
     exact h
  ·cases h
theorem Zga (hAB:A.le B) {t:TypeId} {m k x:AV} {h:List Zi} {r:AV×List Zi×Cd} (hv:Xx A t m k x h=some r):Xx B t m k x h=some r:=by
 unfold Xx at hv⊢
 split at hv
 case h_2=>cases hv
 rename_i kt et id hu
 simp only[hAB.un _ _ hu]
 split at hv
 ·rename_i hi
  try simp only[hi]
  split at hv
  ·rename_i h1
   simp only[hAB.un _ _ h1]
   exact hv
  ·cases hv
 ·rename_i hi
  try simp only[hi]
  split at hv
  ·rename_i h1 h2
   simp only[Zez hAB h1,h2]
   exact hv
  ·cases hv
 ·rename_i hi
  try simp only[hi]
  split at hv
  ·rename_i h1
   simp only[Zez hAB h1]
   exact hv
  ·cases hv
 ·cases hv
end
theorem Zk3 (hT:T.Of P) {E:Operand→AV} {h:List Zi} {op:Op} {r:AV×Cd} (hv:ZfD T E h op=some r):Y6 P E h op=some r:=by
 have one:∀ {α:Type} {t:TypeId} {f:TI→Option α} {x:α},(match T.ti t with
   |some I=>f I
   |none=>none)=some x→(match Zx P t with
   |some I=>f I
   |none=>none)=some x:=by
  intro α t f x h
  cases hi:T.ti t with
  |none=>rw[hi]at h;cases h
  |some i=>rw[hi]at h;rw[hT.ti _ _ hi];exact h
 cases op with
 |load t a=>exact one (f:=fun I=>ZgC I h (E a)) hv
 |fieldAddr t x f=>exact one (f:=fun I=>YN I (E x) f) hv
 |indexAddr t x i=>exact one (f:=fun I=>Jy I (E x) (E i)) hv
 |build t ps=>
  simp only[ZfD]at hv
  simp only[Y6]
  cases hi:T.ti t with
  |none=>simp only[hi]at hv;cases hv
  |some i=>simp only[hi]at hv;simp only[hT.ti _ _ hi];exact hv
 |field t x i=>
  simp only[ZfD]at hv
  simp only[Y6]
  cases hi:T.ti t with
  |none=>simp only[hi]at hv;cases hv
  |some i=>simp only[hi]at hv;simp only[hT.ti _ _ hi];exact hv
 |unOp op _ x=>cases op<;>exact hv
 |makeFunc f a b=>cases f<;>exact hv
 |slice t x lo hi mx=>exact one (f:=fun I=>ZeR I (E x) (lo.map E) (hi.map E) (mx.map E)) hv
 |index t x i=>
  simp only[ZfD]at hv
  simp only[Y6]
  split at hv
  ·rename_i h1 h2 hu
   simp only[h1,h2,hT.un _ _ hu]
   exact hv
  ·rename_i h1 h2 hu
   simp only[h1,h2,hT.un _ _ hu]
   exact one (f:=fun I=>if ZC I.size 1&& !I.agg&&ZC _ _ then(match Zll _ _ with
    |some v=>some (v,bnd _ _)
    |none=>none)else none) hv
  ·cases hv
 |lookup t m k ok=>exact ZjV hT.ty hv
 |entry x=>exact hv
 |binOp op t x y _=>exact Zkp hT hv
 |convert s d x=>
  simp only[ZfD]at hv
  simp only[Y6]
  cases hi:T.ti s with
  |none=>simp only[hi]at hv;split at hv<;>first|cases hv|(rename_i h _;cases h)
  |some i=>
   cases hj:T.ti d with
   |none=>simp only[hi,hj]at hv;split at hv<;>first|cases hv|(rename_i h;cases h)
   |some j=>simp only[hi,hj]at hv;simp only[hT.ti _ _ hi,hT.ti _ _ hj];exact hv
 |call c=>
  obtain⟨callee,args,ats⟩:=c
  cases callee with
  |builtin b=>
   cases b with
   |len=>
    simp only[ZfD]at hv
    simp only[Y6]
    split at hv
    ·split at hv
     ·rename_i h1 h2 _ _ hu
      simp only[h1,h2,hT.un _ _ hu]
      exact hv
     ·cases hv
    ·split at hv
     ·rename_i h1 h2 _ _ hu
      simp only[h1,h2,hT.un _ _ hu]
      exact hv
     ·cases hv
    ·split at hv
     ·rename_i h1 h2 _ _ hu
      simp only[h1,h2,hT.un _ _ hu]
      exact hv
     ·cases hv
    ·cases hv
   |_=>exact hv
  |_=>exact hv
 |_=>exact hv
theorem Zi9 (hT:T.Of P) {t t':TypeId} {x y:AV} {h:List Zi} {r:AV×List Zi×Cd} (hv:ZfT T t t' x y h=some r):Zc0 T.gr P t t' x y h=some r:=by
 unfold ZfT at hv
 unfold Zc0
 split at hv
 case h_2=>cases hv
 rename_i e e' hu hu'
 simp only[hT.un _ _ hu,hT.un _ _ hu']
 split at hv
 case h_3=>cases hv
 all_goals
  split at hv
  case isFalse=>cases hv
  rename_i hz
  simp only[ZeH hT hz,if_true]
  exact hv
theorem Jb (hT:T.Of P) {E:Operand→AV} {t:TypeId} {n:Nat} {ps:List (Nat×Operand)} {r:AV} (hv:XY T E t n ps=some r):XS P E t n ps=some r:=by
 unfold XY at hv
 unfold XS
 cases hi:T.ti t with
 |none=>simp only[hi]at hv;cases hv
 |some i=>
  simp only[hi]at hv
  simp only[hT.ti _ _ hi]
  split at hv
  ·rename_i hk
   simp only[hk]
   split at hv
   ·rename_i hz
    simp only[Bool.and_eq_true]at hz⊢
    rw[if_pos ⟨⟨ZeH hT hz.1.1,hz.1.2⟩,hz.2⟩]
    exact hv
   ·cases hv
  ·cases hv
theorem Zqw (hT:T.Of P) {E:Operand→AV} {h:List Zi} {op:Op} {r:AV×List Zi×Cd} (hv:ZoA T E h op=some r):evE T.gr P E h op=some r:=by
 unfold ZoA at hv
 split at hv
 ·rename_i t
  simp only[evE]
  cases hi:T.ti t with
  |none=>simp only[hi]at hv;cases hv
  |some i=>simp only[hi]at hv;simp only[hT.ti _ _ hi];exact hv
 ·exact hv
 ·rename_i t a x
  simp only[evE]
  split at hv
  ·rename_i ha hi
   simp only[ha,hT.ti _ _ hi]
   exact hv
  ·rename_i ha hi
   simp only[ha,hT.ti _ _ hi]
   exact hv
  ·rename_i ha hi
   simp only[ha,hT.ti _ _ hi]
   exact hv
  ·cases hv
 ·rename_i t n c
  simp only[evE]
  cases hi:T.ti t with
  |none=>simp only[hi]at hv;cases hv
  |some I=>
   simp only[hi]at hv
   simp only[hT.ti _ _ hi]
   obtain⟨k,ag,sz,by_,z⟩:=I
   cases k with
   |slice e s b=>
    simp only at hv⊢
    cases he:T.ti e with
    |none=>
     simp only[he,Option.bind_none]at hv
     cases hg:T.gr<;>simp only[hg,if_true,Bool.false_eq_true,if_false]at hv
     ·unfold YL at hv
      split at hv
      ·rename_i h4;cases h4
      ·cases hv
     ·unfold Zah at hv
      split at hv
      ·rename_i h4;cases h4
      ·cases hv
    |some J=>
     simp only[he]at hv
     simp only[hT.ti _ _ he]
     exact hv
   |_=>
    simp only at hv
    cases hg:T.gr<;>simp only[hg,if_true,Bool.false_eq_true,if_false]at hv
    ·unfold YL at hv
     split at hv
     ·rename_i h4;cases h4
     ·cases hv
    ·unfold Zah at hv
     split at hv
     ·rename_i h4;cases h4
     ·cases hv
 ·rename_i t n ps
  simp only[evE]
  cases hb:XY T E t n ps.toList with
  |none=>simp only[hb]at hv;cases hv
  |some v=>simp only[hb]at hv;rw[Jb hT hb];exact hv
 ·rename_i t
  simp only[evE]
  split at hv
  ·rename_i b hb
   rw[Ziy hT.ty hb]
   exact hv
  ·cases hv
 ·simp only[evE]
  exact Zga hT.ty hv
 ·rename_i t x
  simp only[evE]
  split at hv
  ·rename_i h1 hu
   simp only[h1,hT.un _ _ hu]
   exact hv
  ·cases hv
 ·simp only[evE]
  split at hv
  ·rename_i h1 h2
   simp only[h1,h2]
   exact Zi9 hT hv
  ·cases hv
 ·simp only[evE]
  split at hv
  case h_2=>cases hv
  rename_i h1 h2
  simp only[h1,h2]
  split at hv
  case h_2=>cases hv
  rename_i hu
  split at hv
  case h_2=>cases hv
  rename_i hJ
  simp only[hT.un _ _ hu,hT.ti _ _ hJ]
  exact hv
 ·simp only[evE]
  split at hv
  case h_2=>cases hv
  rename_i h1 h2
  simp only[h1,h2]
  split at hv
  case h_2=>cases hv
  rename_i hu
  split at hv
  case h_2=>cases hv
  rename_i hJ
  simp only[hT.un _ _ hu,hT.ti _ _ hJ]
  exact hv
 ·cases hv
end
end Go.Proofs.YtjgpiclllehgmaaGreat.Vm
