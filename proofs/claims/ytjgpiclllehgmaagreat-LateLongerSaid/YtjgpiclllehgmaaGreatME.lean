/- The operations that the abstract machine knows touch memory plainly. -/
import Derived.Test.YtjgpiclllehgmaaGreatMT
import Derived.Test.YtjgpiclllehgmaaGreatCxSteps
set_option linter.unusedSimpArgs false
set_option linter.unusedVariables false
namespace Go.Proofs.YtjgpiclllehgmaaGreat.Vm
open Go Go.Proofs.YtjgpiclllehgmaaGreat.Conc1
section
variable {P:Program} {α β:Type} {K:Nat→Prop}
theorem QB {s:Sem Value} (h:∀K,Zw P K s):Zw P K (do pure (.value (←s)):Sem Next):=Zg h fun _ _=>Zp
theorem ZoH {s:Sem Unit} (h:∀K,Zw P K s):Zw P K (do s;pure .skip:Sem Next):=Zg h fun _ _=>Zp
theorem YE:∀(d:Nat) (t:TypeId) (x y:Value) (K:Nat→Prop),Zw P K (Op.eqGuardIn d t x y)
 |0,_,_,_,_=>trivial
 |d+1,t,x,y,K=>by
  unfold Op.eqGuardIn
  refine Zg (fun _=>ZZ) fun u K=>?_
  split
  ·trivial
  ·refine Zg (fun K=>Zbx (fun f s K=>?_) _ _ K) fun r K=>?_
   ·split
    ·refine Zg (fun _=>XN) fun a K=>Zg (fun _=>XN) fun b K=>Zg (fun K=>YE d _ _ _ K) fun e K=>?_
     split<;>trivial
    ·trivial
   ·dsimp only
    split<;>trivial
  ·refine Zg (fun _=>Q8) fun n K=>Zg (fun K=>Zbv (fun f s K=>?_) _ _ K) fun r K=>?_
   ·refine Zg (fun _=>XN) fun a K=>Zg (fun _=>XN) fun b K=>Zg (fun K=>YE d _ _ _ K) fun e K=>?_
    split<;>trivial
   ·dsimp only
    split<;>trivial
  ·trivial
theorem ZhH {op:BinOp} {t:TypeId} {x y:Operand} {a b:Value}:Zw P K (eqGuard op t x y a b):=by
 unfold eqGuard
 split<;>simp only[Bool.not_true,Bool.not_false,if_true,Bool.false_eq_true,if_false]
 all_goals first|exact Zp|skip
 all_goals
  split
  ·refine X9 Zp ?_
   refine Zg (fun K=>YE _ _ _ _ K) fun e K=>X9 QX Zp
  ·refine Zg (fun _=>Jo) fun p K=>Zg (fun _=>Jo) fun p K=>X9 Zp ?_
   refine Zg (fun K=>YE _ _ _ _ K) fun e K=>X9 QX Zp
  ·exact Zp
theorem Zj8 {op:BinOp} {k k':IntKind} {a b:Int}:Zw P K (Op.shift op k a k' b):=by
 unfold Op.shift
 refine X9 ZW ?_
 dsimp only
 split<;>first|exact Zp|exact Z6
theorem ZiJ {op : BinOp} {t : TypeId} {k k' : IntKind} {a b : Int} : Zw P K (binOp op t (.int k a) (.int k' b)) := by
  cases op
  all_goals
    simp only [binOp]
    first
    | exact Zj8
    | (refine X9 Z6 ?_
       first
       | exact Zp
       | exact Z6
       | exact X9 ZW Zp)
theorem ZaS {op:BinOp} {t:TypeId} {x y:Value} (hx:Zci x) (hn:∀k a,x≠ .int k a) (hs:∀s,x≠ .string s) (ho:op= .eql∨op= .neq):Zw P K (binOp op t x y):=by
 rcases ho with rfl|rfl
 ·cases x with
  |int k a=>exact absurd rfl (hn k a)
  |string s=>exact absurd rfl (hs s)
  |bool b=>exact Zg (fun _=>JC hx) fun _ _=>Zp
  |agg c=>exact Zg (fun _=>JC hx) fun _ _=>Zp
  |_=>exact False.elim hx
 ·cases x with
  |int k a=>exact absurd rfl (hn k a)
  |string s=>exact absurd rfl (hs s)
  |bool b=>exact Zg (fun _=>JC hx) fun _ _=>Zp
  |agg c=>exact Zg (fun _=>JC hx) fun _ _=>Zp
  |_=>exact False.elim hx
theorem Zco (d:Nat) (t:TypeId) (a:Option Addr) (n c:Nat) (K:Nat→Prop):Zw P K (Op.equalIn d t (.slice a n c) (.slice none 0 0)):=by
 cases d with
 |zero=>trivial
 |succ d=>
  unfold Op.equalIn
  refine Zg (fun _=>ZZ) fun u K=>?_
  cases u<;>cases a<;>first|exact Zp|exact Z6
end
section
variable {P:Program} {R:RC} {K:Nat→Prop}
theorem Jh:∀ {xs ys:List AV} {g:Unit→Bool},ZL xs ys=some g→∀(j:Nat) x,xs[j]? =some x→∃k n,x= .int k n
 |[],_,_,_,j,x,hx=>by simp at hx
 |.int k a::r,.int k' b::s,g,h,j,x,hx=>by
  simp only[ZL]at h
  split at h
  ·simp only[Option.map_eq_some_iff]at h
   obtain⟨g',h',_⟩:=h
   cases j with
   |zero=>simp at hx;exact⟨k,a,hx.symm⟩
   |succ j=>exact Jh h' j x (by simpa using hx)
  ·cases h
theorem Zjy {xs:List AV} {us:Array Value} (hl:xs.length=us.size) (hr:∀j c,xs[j]? =some c→VR R c (us.getD j Go.undef)) (h:∀(j:Nat) x,xs[j]? =some x→∃k n,x= .int k n):Zci (.agg us):=by
 intro i c hc
 have hlt:i<us.size:=(Array.getElem?_eq_some_iff.1 hc).1
 have hx:=List.getElem?_eq_getElem (l:=xs) (i:=i) (by omega)
 obtain⟨k,n,e⟩:=h i _ hx
 have:=hr i _ hx
 rw[e,Array.getD_eq_getD_getElem?,hc]at this
 rw[show c=_ from this.int_inv]
 trivial
theorem Zma {j k:IntKind} {a b:Int}:Qc P (fun v=>∃n,v=Value.int j n) K (Builtin.max2 (.int j a) (.int k b)):=⟨_,rfl⟩
theorem Zl9 {j k:IntKind} {a b:Int}:Qc P (fun v=>∃n,v=Value.int j n) K (Builtin.min2 (.int j a) (.int k b)):=⟨_,rfl⟩
theorem ZaQ {f:Value→Value→Sem Value} {j:IntKind} (hf:∀(a:Int) (k:IntKind) (b:Int) (K:Nat→Prop),Qc P (fun v=>∃n,v=Value.int j n) K (f (.int j a) (.int k b))):
  ∀(l:List Value) (a:Int) (K:Nat→Prop),(∀v∈l,∃k n,v=Value.int k n)→Zw P K (l.foldlM f (.int j a))
 |[],a,K,_=>Zp
 |v::l,a,K,h=>by
  obtain⟨k,n,rfl⟩:=h v (by simp)
  rw[List.foldlM_cons]
  refine Xe (fun K=>hf a k n K) fun x K hx=>?_
  obtain⟨m,rfl⟩:=hx
  exact ZaQ hf l m K fun v hv=>h v (by simp[hv])
theorem Zfv {k:IntKind} {mx:Bool}:∀ {l:List AV} {x:Unit→Int} {r:AV×Cd},Zfw k mx l x=some r→∀a∈l,∃k n,a=AV.int k n
 |[],_,_,_,a,h=>by simp at h
 |b::l,x,r,h,a,ha=>by
  cases b<;>simp only[Zfw]at h<;>try cases h
  rcases List.mem_cons.1 ha with rfl|ha
  ·exact⟨_,_,rfl⟩
  ·exact Zfv h a ha
theorem Zgg {ts:Array TypeId} {t ty e:TypeId} {a:Option Addr} {n c:Nat} (ht:ts[0]? =some t) (hu:P.underlying t=some (.slice e)):Zw P K (Builtin.len_ ts ty #[.slice a n c]):=by
 unfold Builtin.len_
 rw[ht]
 refine Xe (fun _=>XO) fun d K hd=>?_
 rw[hu]at hd
 cases hd
 exact Zp
theorem ZhJ {s d:TypeId} {k j:IntKind} {n:Int} (hd:P.underlying d=some (.int k)):Zw P K (convert s d (.int j n)):=by
 unfold convert
 refine Zg (fun _=>ZZ) fun us K=>Xe (fun _=>XO) fun ud K h=>?_
 rw[hd]at h
 cases h
 cases us<;>exact Zp
theorem VR.sliceV {u:Value} {a:AV} (h:VR R a u) (ha:(∃s n f tk,a= .isl s n f tk)∨(∃id s lo n c,a= .msl id s lo n c)∨(∃id n,a= .gsl id n)):∃x n c,u= .slice x n c:=by
 rcases ha with⟨s,n,f,tk,rfl⟩|⟨id,s,lo,n,c,rfl⟩|⟨id,n,rfl⟩
 ·have:=h.isl_inv
  cases this<;>exact⟨_,_,_,rfl⟩
 ·cases h with
  |pure _ _ hp=>cases hp
  |msl=>exact⟨_,_,_,rfl⟩
 ·cases h with
  |pure _ _ hp=>cases hp
  |gsl=>exact⟨_,_,_,rfl⟩
theorem ZlU (n:Nat) (x:List Int):Zci (Q2 n x):=by
 cases n with
 |zero=>trivial
 |succ n=>
  have key:∀(m:Nat) (x:List Int),∀c∈Qr m x,Zhb c:=by
   intro m
   induction m with
   |zero=>intro x c hc;cases hc
   |succ m ih=>
    intro x c hc
    rcases List.mem_cons.1 hc with rfl|hc
    ·trivial
    ·exact ih _ c hc
  intro i c hc
  refine key (n+1) x c ?_
  rw[List.getElem?_toArray]at hc
  exact List.mem_of_getElem? hc
theorem Zb5 {kt:TypeId} {ka:Nat} {k:AV} {g:Unit→List Int} {u:Value} (hg:Zgl (tyP P) kt ka k=some g) (hk:VR R k u):Zci u:=by
 rw[(Zc0 hg hk).1]
 exact ZlU _ _
theorem Zfx {kt et:TypeId} {ka n:Nat} {L:Unit→List (List Int×List Int)} {k:AV} {ok:Bool} {r:AV×Cd} {u:Value} (hv:ZcZ (tyP P) kt et ka n L k ok=some r) (hk:VR R k u):Zci u:=by
 unfold ZcZ at hv
 split at hv
 ·rename_i g hg;exact Zb5 hg hk
 ·cases hv
theorem ZhQ {t:TypeId} {m k:AV} {ok:Bool} {h:List Zi} {r:AV×Cd} {u:Value} (hv:Jq (tyP P) t m k ok h=some r) (hk:VR R k u):Zci u:=by
 unfold Jq at hv
 split at hv
 case h_2=>cases hv
 split at hv
 ·split at hv
  ·split at hv
   ·rw[hk.int_inv];trivial
   ·cases hv
  ·exact Zfx hv hk
  ·split at hv
   ·rename_i g hg _;exact Zb5 hg hk
   ·cases hv
  ·cases hv
 ·exact Zfx hv hk
 ·cases hv
theorem ZeA {t:TypeId} {m k x:AV} {h:List Zi} {r:AV×List Zi×Cd} {u:Value} (hv:Xv (tyP P) t m k x h=some r) (hk:VR R k u):Zci u:=by
 unfold Xv at hv
 split at hv
 case h_2=>cases hv
 split at hv
 ·split at hv
  ·rw[hk.int_inv];trivial
  ·cases hv
 ·split at hv
  ·rename_i g d hg hd;exact Zb5 hg hk
  ·cases hv
 ·split at hv
  ·rename_i g _ _ _ hg;exact Zb5 hg hk
  ·cases hv
 ·cases hv
theorem Zkc {v:Value}:Zw P K (Instr.entry v):=by
 unfold Instr.entry
 split
 ·refine Q9 (fun o ho=>?_) fun o ho=>?_
  ·split
   ·split
    ·refine Q9 (fun o ho=>?_) fun o ho=>?_
     ·split
      ·refine X9 (Zg (fun _=>QX) fun _ _=>?_) ?_<;>(dsimp only;split<;>trivial)
      ·trivial
     ·cases o<;>first|(cases ho;done)|trivial
    ·trivial
   ·trivial
  ·cases o<;>first|(cases ho;done)|trivial
 ·trivial
theorem Zl8 {v:Value} {ty:TypeId}:Zw P K (Instr.next v false ty):=by
 unfold Instr.next
 dsimp only
 split
 ·refine Q9 (fun o ho=>?_) fun o ho=>?_
  ·split
   ·exact absurd (show false=true by assumption) (by decide)
   ·exact Zp
   ·refine Q9 (fun o ho=>?_) fun o ho=>?_
    ·split
     ·refine X9 (Qc.bind QX fun _ K1 _ hK=>?_) ?_
      ·refine Qc.bind JT fun n K' _ hK'=>?_
       split
       ·exact Qc.bind (Xr (hK' _ (hK _ (.inl (.inr rfl)))) rfl) fun _ K' _ _=>Zp
       ·exact Zp
       ·exact Z6
      ·refine Qc.bind JT fun n K' _ hK'=>?_
       split
       ·exact Qc.bind (Xr (hK' _ (.inl (.inr rfl))) rfl) fun _ K' _ _=>Zp
       ·exact Zp
       ·exact Z6
     ·exact Z6
    ·cases o<;>first|(cases ho;done)|trivial
   ·exact Z6
  ·cases o<;>first|(cases ho;done)|trivial
 ·exact Z6
theorem Zj9 {t:TypeId} {v:Value}:Zw P K (Instr.range t v):=by
 unfold Instr.range
 refine Zg (fun _=>ZZ) fun u K=>?_
 split
 ·exact Xe (Q:=fun o:Obj=>o.isChan=false) (fun _=>(show Obj.isChan _=false from rfl)) fun o K ho=>Zg (fun _=>Yp ho) fun _ _=>trivial
 ·exact Xe (Q:=fun o:Obj=>o.isChan=false) (fun _=>(show Obj.isChan _=false from rfl)) fun o K ho=>Zg (fun _=>Yp ho) fun _ _=>trivial
 ·refine Q9 (fun o ho=>?_) fun o ho=>?_
  ·split
   ·exact Xe (Q:=fun o:Obj=>o.isChan=false) (fun _=>(show Obj.isChan _=false from rfl)) fun o K ho=>Zg (fun _=>Yp ho) fun _ _=>trivial
   ·trivial
  ·cases o<;>first|(cases ho;done)|trivial
 ·trivial
theorem Zo8 {o:Oper} {E:Operand→AV} {ρ:Operand→Value} (hK:∀v,ρ (.const v)=v) (hE:∀x∈o.op.operands,VR R (E x) (ρ x)) {h:List Zi} {v:AV} {c:Cd} (hv:Jc P E h o.op=some (v,c)):Zw P K (execOp ρ o):=by
 obtain⟨dst,op,ty,pos,after,guard⟩:=o
 dsimp only at hE hv
 cases op with
 |move x=>exact Zp
 |assign x=>exact Zp
 |pick a b d=>exact Zg (fun _=>Zef) fun _ _=>Zp
 |nilCheck x=>
  have hx:=hE x (by simp[Op.operands])
  have hp:∃a,ρ x= .pointer (some a):=by
   simp only[Jc]at hv
   generalize ρ x=u at hx
   split at hv
   all_goals first|(cases hv;done)|skip
   all_goals
    rename_i heq
    rw[heq]at hx
    cases hx with
    |pure _ _ hp=>cases hp<;>exact⟨_,rfl⟩
    |_=>exact⟨_,rfl⟩
  obtain⟨a,ha⟩:=hp
  simp only[execOp,ha]
  exact Zp
 |load t a=>exact QB fun _=>Zee
 |fieldAddr t x f=>
  simp only[Jc]at hv
  split at hv
  ·rename_i T hT
   unfold YR at hv
   split at hv
   ·rename_i fs' hk
    obtain⟨fl,hfu,rfl⟩:=ZbQ hT hk
    split at hv
    ·rename_i off sz g hf
     split at hv
     ·cases hv
     ·rename_i hsz
      rw[List.getElem?_map,Option.map_eq_some_iff]at hf
      obtain⟨fd,hf1,hf2⟩:=hf
      rw[Array.getElem?_toList]at hf1
      obtain⟨j,d,hj,hd,ho,hs,hg⟩:=ZbI hf2
      refine QB fun K=>ZhF fun fs f' h1 h2 i h3=>?_
      rw[hfu]at h1
      cases h1
      rw[hf1]at h2
      cases h2
      rw[hj]at h3
      cases h3
      intro h0
      rw[hs]at h0
      subst h0
      exact hsz (by simp[ZG])
    ·cases hv
   ·cases hv
  ·cases hv
 |indexAddr t x i=>exact QB fun _=>ZhE
 |binOp op t x y yt=>
  have hx:=hE x (by simp[Op.operands])
  have hy:=hE y (by simp[Op.operands])
  refine QB fun K=>Zg (fun _=>ZhH) fun _ K=>?_
  simp only[Jc]at hv
  unfold ZdQ at hv
  split at hv
  ·rename_i hn
   split at hv
   ·rename_i el hu
    rw[show ρ y= .slice none 0 0 by rw[ZgJ hn];exact hK _]
    obtain⟨a,n,c',hsl⟩:∃a n c',ρ x= .slice a n c':=by
     have hv0:∃r,Zcz op (E x)=some r:=⟨_,hv⟩
     obtain⟨r,hv0⟩:=hv0
     unfold Zcz at hv0
     split at hv0
     all_goals first|(cases hv0;done)|skip
     all_goals
      rename_i heq
      exact hx.sliceV (by rw[heq];first|exact .inl ⟨_,_,_,_,rfl⟩|exact .inr (.inl ⟨_,_,_,_,_,rfl⟩)|exact .inr (.inr (.inl ⟨_,_,rfl⟩))|exact .inr (.inr (.inr ⟨_,_,_,rfl⟩)))
    rw[hsl]
    have hop:op= .eql∨op= .neq:=by
     unfold Zcz at hv
     split at hv
     all_goals first|(cases hv;done)|skip
     all_goals
      split at hv
      all_goals first|exact .inl rfl|exact .inr rfl|cases hv
    rcases hop with rfl|rfl
    ·exact Zg (fun K=>Zco _ _ _ _ _ K) fun _ _=>Zp
    ·exact Zg (fun K=>Zco _ _ _ _ _ K) fun _ _=>Zp
   ·cases hv
  ·split at hv
   ·rename_i k a k' b hx' hy'
    rw[hx']at hx
    rw[hy']at hy
    rw[hx.int_inv,hy.int_inv]
    exact ZiJ
   ·rename_i xs ys hx' hy'
    rw[hx']at hx
    obtain⟨us,hu,hl1,hr1⟩:=hx.agg_inv
    split at hv
    ·rw[hu]
     split at hv
     ·simp only[Option.map_eq_some_iff]at hv
      obtain⟨g,hg,_⟩:=hv
      exact ZaS (Zjy hl1 hr1 (Jh hg)) (by simp) (by simp) (.inl rfl)
     ·simp only[Option.map_eq_some_iff]at hv
      obtain⟨g,hg,_⟩:=hv
      exact ZaS (Zjy hl1 hr1 (Jh hg)) (by simp) (by simp) (.inr rfl)
     ·cases hv
    ·cases hv
   ·rename_i a b hx' hy'
    rw[hx']at hx
    rw[hx.bool_inv]
    split at hv
    ·split at hv
     ·exact ZaS trivial (by simp) (by simp) (.inl rfl)
     ·exact ZaS trivial (by simp) (by simp) (.inr rfl)
     ·cases hv
    ·cases hv
   ·cases hv
 |unOp op t x=>
  have hx:=hE x (by simp[Op.operands])
  cases op with
  |not=>
   simp only[Jc]at hv
   split at hv
   ·rename_i a ha
    rw[ha]at hx
    simp only[execOp,hx.bool_inv]
    exact QB fun _=>Zp
   ·cases hv
  |neg=>
   simp only[Jc]at hv
   split at hv
   ·rename_i k a ha
    rw[ha]at hx
    simp only[execOp,hx.int_inv]
    exact QB fun _=>Zp
   ·cases hv
  |_=>simp[Jc]at hv
 |convert s d x=>
  have hx:=hE x (by simp[Op.operands])
  simp only[Jc]at hv
  split at hv
  ·rename_i k a S D ha hS hD
   rw[ha]at hx
   split at hv
   ·rename_i k' hk
    simp only[execOp,hx.int_inv]
    exact QB fun _=>ZhJ (Znl hD hk)
   ·cases hv
  ·cases hv
 |extract x i=>exact QB fun _=>ZhG
 |build t ps=>exact QB fun _=>Zkf
 |index t x i=>exact QB fun _=>Zka
 |lookup t m k ok=>exact QB fun _=>ZiI (ZhQ (by simpa only[Jc]using hv) (hE k (by simp[Op.operands])))
 |entry x=>exact QB fun _=>Zkc
 |field t x i=>exact QB fun _=>Zkb
 |makeFunc fn first cap=>exact Zp
 |slice t x lo hi mx=>exact QB fun _=>ZhC
 |call cl=>
  obtain⟨callee,args,argTypes⟩:=cl
  cases callee with
  |builtin b=>
   have hx:∀x∈args,VR R (E x) (ρ x):=fun x hx=>hE x (by simp[Op.operands,Call.operands,hx])
   cases b with
   |len=>
    simp only[Jc]at hv
    have one:∀x,args.toList.map E=[x]→∃u,args.map ρ= #[u]∧VR R x u:=fun x hxx=>by
     obtain⟨l⟩:=args
     match l,hxx,hx with
     |[z],hxx,hx=>exact⟨ρ z,by simp,by
       have:=hx z (by simp)
       simp at hxx
       rwa [hxx]at this⟩
    have fin:∀ {a:AV} {t:TypeId} {ts:List TypeId},args.toList.map E=[a]→argTypes.toList=t::ts→(∃el,P.underlying t=some (.slice el))→
      ((∃s n f tk,a= .isl s n f tk)∨(∃id s lo n c,a= .msl id s lo n c)∨(∃id n,a= .gsl id n))→Zw P K (execOp ρ {dst,op:=.call {callee:=.builtin .len,args,argTypes},type:=ty,pos,after,guard}):=by
     intro a t ts ha ht ⟨el,hel⟩ hs
     obtain⟨u,hu,hxu⟩:=one _ ha
     obtain⟨x,n,c,rfl⟩:=hxu.sliceV hs
     show Zw P K (do pure (.value (←Builtin.len_ argTypes ty (args.map ρ))):Sem Next)
     rw[hu]
     exact QB fun _=>Zgg (by rw[←Array.getElem?_toList,ht];rfl) hel
    split at hv
    ·rename_i ha ht
     split at hv
     ·rename_i el hsl
      exact fin ha ht ⟨el,hsl⟩ (.inl ⟨_,_,_,_,rfl⟩)
     ·cases hv
    ·rename_i ha ht
     split at hv
     ·rename_i el hsl
      exact fin ha ht ⟨el,hsl⟩ (.inr (.inl ⟨_,_,_,_,_,rfl⟩))
     ·cases hv
    ·rename_i ha ht
     split at hv
     ·rename_i el hsl
      exact fin ha ht ⟨el,hsl⟩ (.inr (.inr ⟨_,_,rfl⟩))
     ·cases hv
    ·cases hv
   |max=>
    simp only[Jc]at hv
    split at hv
    ·rename_i k x r ha
     have hm:=Zfv hv
     show Zw P K (do pure (.value (←Builtin.max_ argTypes ty (args.map ρ))):Sem Next)
     obtain⟨l⟩:=args
     match l,ha,hx with
     |z::l,ha,hx=>
      simp only[List.map_cons,List.cons.injEq]at ha
      have hz:=hx z (by simp)
      rw[ha.1]at hz
      refine QB fun K=>?_
      unfold Builtin.max_
      simp only[List.map_toArray,List.map_cons,hz.int_inv]
      refine ZaQ (fun a k b K=>Zma) _ _ _ fun v hv=>?_
      obtain⟨y,hy,rfl⟩:=List.mem_map.1 hv
      obtain⟨k',n',e⟩:=hm (E y) (by rw[←ha.2];exact List.mem_map.2 ⟨y,hy,rfl⟩)
      have:=hx y (by simp[hy])
      rw[e]at this
      exact⟨_,_,this.int_inv⟩
    ·cases hv
   |min=>
    simp only[Jc]at hv
    split at hv
    ·rename_i k x r ha
     have hm:=Zfv hv
     show Zw P K (do pure (.value (←Builtin.min_ argTypes ty (args.map ρ))):Sem Next)
     obtain⟨l⟩:=args
     match l,ha,hx with
     |z::l,ha,hx=>
      simp only[List.map_cons,List.cons.injEq]at ha
      have hz:=hx z (by simp)
      rw[ha.1]at hz
      refine QB fun K=>?_
      unfold Builtin.min_
      simp only[List.map_toArray,List.map_cons,hz.int_inv]
      refine ZaQ (fun a k b K=>Zl9) _ _ _ fun v hv=>?_
      obtain⟨y,hy,rfl⟩:=List.mem_map.1 hv
      obtain⟨k',n',e⟩:=hm (E y) (by rw[←ha.2];exact List.mem_map.2 ⟨y,hy,rfl⟩)
      have:=hx y (by simp[hy])
      rw[e]at this
      exact⟨_,_,this.int_inv⟩
    ·cases hv
   |_=>simp[Jc]at hv
  |_=>simp[Jc]at hv
 |_=>simp[Jc]at hv
theorem Zjb {gr:Bool} {o:Oper} {E:Operand→AV} {ρ:Operand→Value} (hE:∀x∈o.op.operands,VR R (E x) (ρ x)) {h:List Zi} {v:AV} {h':List Zi} {c:Cd} (hv:evE gr P E h o.op=some (v,h',c)):Zw P K (execOp ρ o):=by
 obtain⟨dst,op,ty,pos,after,guard⟩:=o
 dsimp only at hE hv
 have int:∀ {x:Operand},x∈op.operands→(∃k n,E x= .int k n)→Zci (ρ x):=fun hx ⟨k,n,e⟩=>by
  have:=hE _ hx
  rw[e]at this
  rw[this.int_inv]
  trivial
 cases op with
 |alloc t=>exact QB fun _=>Zft
 |box t x=>exact QB fun _=>ZoI
 |store t a x=>exact ZoH fun _=>ZcW
 |makeSlice t n c=>exact QB fun _=>Zfr
 |buildSlice t n ps=>exact QB fun _=>Zbb
 |makeMap t r=>
  cases r with
  |none=>exact QB fun _=>ZhD
  |some r=>simp[evE]at hv
 |mapUpdate t m k x=>exact ZoH fun _=>Zfp (ZeA (by simpa only[evE]using hv) (hE k (by simp[Op.operands])))
 |range t x=>exact QB fun _=>Zj9
 |call cl=>
  obtain⟨callee,args,argTypes⟩:=cl
  cases callee with
  |builtin b=>
   cases b with
   |append=>exact QB fun _=>ZiK
   |copy=>exact QB fun _=>Zmb
   |clear=>
    simp only[evE]at hv
    split at hv
    ·rename_i x t ts ha ht
     show Zw P K (do pure (.value (←Builtin.clear_ argTypes ty (args.map ρ))):Sem Next)
     obtain⟨l⟩:=args
     obtain rfl:l=[x]:=ha
     have hx:=hE x (by simp[Op.operands,Call.operands])
     simp only[List.map_toArray,List.map_cons,List.map_nil]
     split at hv
     ·split at hv
      ·obtain⟨a,n,c',e⟩:=hx.sliceV (by
        unfold ZfU at hv
        split at hv
        ·rename_i e _;rw[e];exact .inr (.inl ⟨_,_,_,_,_,rfl⟩)
        all_goals first|(cases hv;done)|(rename_i e _;rw[e];exact .inr (.inr (.inl ⟨_,_,rfl⟩)))|(rename_i e _;rw[e];exact .inr (.inr (.inr ⟨_,_,_,rfl⟩)))|(rename_i e _;rw[e];exact .inl ⟨_,_,_,_,rfl⟩))
       rw[e]
       exact QB fun _=>Zkd (by simp)
      ·cases hv
     ·cases hv
    ·cases hv
   |_=>simp[evE]at hv
  |_=>simp[evE]at hv
 |_=>simp[evE]at hv
end
end Go.Proofs.YtjgpiclllehgmaaGreat.Vm
