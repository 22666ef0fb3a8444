/- The operations that the abstract machine knows touch memory plainly. -/
import Derived.Test.YtjgpiclllehgmaaMT
import Derived.Test.YtjgpiclllehgmaaCxSteps
set_option linter.unusedSimpArgs false
set_option linter.unusedVariables false
namespace Go.Proofs.Ytjgpiclllehgmaa.Vm
open Go Go.Proofs.Ytjgpiclllehgmaa.Conc1
section
variable {P:Program} {α β:Type} {K:Nat→Prop}
theorem Zbr {s:Sem Value} (h:∀K,ZaF P K s):ZaF P K (do pure (.value (←s)):Sem Next):=Zab h fun _ _=>Zaj
theorem ZrY {s:Sem Unit} (h:∀K,ZaF P K s):ZaF P K (do s;pure .skip:Sem Next):=Zab h fun _ _=>Zaj
theorem ZcO:∀(d:Nat) (t:TypeId) (x y:Value) (K:Nat→Prop),ZaF P K (Op.eqGuardIn d t x y)
 |0,_,_,_,_=>trivial
 |d+1,t,x,y,K=>by
  unfold Op.eqGuardIn
  refine Zab (fun _=>ZaD) fun u K=>?_
  split
  ·trivial
  ·refine Zab (fun K=>Zfs (fun f s K=>?_) _ _ K) fun r K=>?_
   ·split
    ·refine Zab (fun _=>Zcn) fun a K=>Zab (fun _=>Zcn) fun b K=>Zab (fun K=>ZcO d _ _ _ K) fun e K=>?_
     split<;>trivial
    ·trivial
   ·dsimp only
    split<;>trivial
  ·refine Zab (fun _=>Zbw) fun n K=>Zab (fun K=>Zfq (fun f s K=>?_) _ _ K) fun r K=>?_
   ·refine Zab (fun _=>Zcn) fun a K=>Zab (fun _=>Zcn) fun b K=>Zab (fun K=>ZcO d _ _ _ K) fun e K=>?_
    split<;>trivial
   ·dsimp only
    split<;>trivial
  ·trivial
theorem ZkA {op:BinOp} {t:TypeId} {x y:Operand} {a b:Value}:ZaF P K (eqGuard op t x y a b):=by
 unfold eqGuard
 split<;>simp only[Bool.not_true,Bool.not_false,if_true,Bool.false_eq_true,if_false]
 all_goals first|exact Zaj|skip
 all_goals
  split
  ·refine ZcN Zaj ?_
   refine Zab (fun K=>ZcO _ _ _ _ K) fun e K=>ZcN Zbj Zaj
  ·refine Zab (fun _=>Zdt) fun p K=>Zab (fun _=>Zdt) fun p K=>ZcN Zaj ?_
   refine Zab (fun K=>ZcO _ _ _ _ K) fun e K=>ZcN Zbj Zaj
  ·exact Zaj
theorem Zng {op:BinOp} {k k':IntKind} {a b:Int}:ZaF P K (Op.shift op k a k' b):=by
 unfold Op.shift
 refine ZcN ZaB ?_
 dsimp only
 split<;>first|exact Zaj|exact ZaH
theorem Zlv {op : BinOp} {t : TypeId} {k k' : IntKind} {a b : Int} : ZaF P K (binOp op t (.int k a) (.int k' b)) := by
  cases op
  all_goals
    simp only [binOp]
    first
    | exact Zng
    | (refine ZcN ZaH ?_
       first
       | exact Zaj
       | exact ZaH
       | exact ZcN ZaB Zaj)
theorem ZeW {op:BinOp} {t:TypeId} {x y:Value} (hx:Zle x) (hn:∀k a,x≠ .int k a) (hs:∀s,x≠ .string s) (ho:op= .eql∨op= .neq):ZaF P K (binOp op t x y):=by
 rcases ho with rfl|rfl
 ·cases x with
  |int k a=>exact absurd rfl (hn k a)
  |string s=>exact absurd rfl (hs s)
  |bool b=>exact Zab (fun _=>ZdN hx) fun _ _=>Zaj
  |agg c=>exact Zab (fun _=>ZdN hx) fun _ _=>Zaj
  |_=>exact False.elim hx
 ·cases x with
  |int k a=>exact absurd rfl (hn k a)
  |string s=>exact absurd rfl (hs s)
  |bool b=>exact Zab (fun _=>ZdN hx) fun _ _=>Zaj
  |agg c=>exact Zab (fun _=>ZdN hx) fun _ _=>Zaj
  |_=>exact False.elim hx
theorem ZfX (d:Nat) (t:TypeId) (a:Option Addr) (n c:Nat) (K:Nat→Prop):ZaF P K (Op.equalIn d t (.slice a n c) (.slice none 0 0)):=by
 cases d with
 |zero=>trivial
 |succ d=>
  unfold Op.equalIn
  refine Zab (fun _=>ZaD) fun u K=>?_
  cases u<;>cases a<;>first|exact Zaj|exact ZaH
end
section
variable {P:Program} {R:RC} {K:Nat→Prop}
theorem Zdh:∀ {xs ys:List AV} {g:Unit→Bool},Zax xs ys=some g→∀(j:Nat) x,xs[j]? =some x→∃k n,x= .int k n
 |[],_,_,_,j,x,hx=>by simp at hx
 |.int k a::r,.int k' b::s,g,h,j,x,hx=>by
  simp only[Zax]at h
  split at h
  ·simp only[Option.map_eq_some_iff]at h
   obtain⟨g',h',_⟩:=h
   cases j with
   |zero=>simp at hx;exact⟨k,a,hx.symm⟩
   |succ j=>exact Zdh h' j x (by simpa using hx)
  ·cases h
theorem ZmR {xs:List AV} {us:Array Value} (hl:xs.length=us.size) (hr:∀j c,xs[j]? =some c→VR R c (us.getD j Go.undef)) (h:∀(j:Nat) x,xs[j]? =some x→∃k n,x= .int k n):Zle (.agg us):=by
 intro i c hc
 have hlt:i<us.size:=(Array.getElem?_eq_some_iff.1 hc).1
 have hx:=List.getElem?_eq_getElem (l:=xs) (i:=i) (by omega)
 obtain⟨k,n,e⟩:=h i _ hx
 have:=hr i _ hx
 rw[e,Array.getD_eq_getD_getElem?,hc]at this
 rw[show c=_ from this.int_inv]
 trivial
theorem ZoX {j k:IntKind} {a b:Int}:Zba P (fun v=>∃n,v=Value.int j n) K (Builtin.max2 (.int j a) (.int k b)):=⟨_,rfl⟩
theorem ZoW {j k:IntKind} {a b:Int}:Zba P (fun v=>∃n,v=Value.int j n) K (Builtin.min2 (.int j a) (.int k b)):=⟨_,rfl⟩
theorem Zet {f:Value→Value→Sem Value} {j:IntKind} (hf:∀(a:Int) (k:IntKind) (b:Int) (K:Nat→Prop),Zba P (fun v=>∃n,v=Value.int j n) K (f (.int j a) (.int k b))):
  ∀(l:List Value) (a:Int) (K:Nat→Prop),(∀v∈l,∃k n,v=Value.int k n)→ZaF P K (l.foldlM f (.int j a))
 |[],a,K,_=>Zaj
 |v::l,a,K,h=>by
  obtain⟨k,n,rfl⟩:=h v (by simp)
  rw[List.foldlM_cons]
  refine ZbG (fun K=>hf a k n K) fun x K hx=>?_
  obtain⟨m,rfl⟩:=hx
  exact Zet hf l m K fun v hv=>h v (by simp[hv])
theorem Zjz {k:IntKind} {mx:Bool}:∀ {l:List AV} {x:Unit→Int} {r:AV×Cd},ZoZ k mx l x=some r→∀a∈l,∃k n,a=AV.int k n
 |[],_,_,_,a,h=>by simp at h
 |b::l,x,r,h,a,ha=>by
  cases b<;>simp only[ZoZ]at h<;>try cases h
  rcases List.mem_cons.1 ha with rfl|ha
  ·exact⟨_,_,rfl⟩
  ·exact Zjz h a ha
theorem Zjw {ts:Array TypeId} {t ty e:TypeId} {a:Option Addr} {n c:Nat} (ht:ts[0]? =some t) (hu:P.underlying t=some (.slice e)):ZaF P K (Builtin.len_ ts ty #[.slice a n c]):=by
 unfold Builtin.len_
 rw[ht]
 refine ZbG (fun _=>Zb8) fun d K hd=>?_
 rw[hu]at hd
 cases hd
 exact Zaj
theorem ZkC {s d:TypeId} {k j:IntKind} {n:Int} (hd:P.underlying d=some (.int k)):ZaF P K (convert s d (.int j n)):=by
 unfold convert
 refine Zab (fun _=>ZaD) fun us K=>ZbG (fun _=>Zb8) fun ud K h=>?_
 rw[hd]at h
 cases h
 cases us<;>exact Zaj
theorem VR.sliceV {u:Value} {a:AV} (h:VR R a u) (ha:(∃s n f tk,a= .isl s n f tk)∨(∃id s lo n c,a= .msl id s lo n c)∨(∃id n,a= .gsl id n)∨(∃id e l,a= .nsub id e l)):∃x n c,u= .slice x n c:=by
 rcases ha with⟨s,n,f,tk,rfl⟩|⟨id,s,lo,n,c,rfl⟩|⟨id,n,rfl⟩|⟨id,e,l,rfl⟩
 ·have:=h.isl_inv
  cases this<;>exact⟨_,_,_,rfl⟩
 ·cases h with
  |pure _ _ hp=>cases hp
  |msl=>exact⟨_,_,_,rfl⟩
 ·cases h with
  |pure _ _ hp=>cases hp
  |gsl=>exact⟨_,_,_,rfl⟩
 ·cases h with
  |pure _ _ hp=>cases hp
  |nsub=>exact⟨_,_,_,rfl⟩
theorem Zoz (n:Nat) (x:List Int):Zle (Zdo n x):=by
 cases n with
 |zero=>trivial
 |succ n=>
  have key:∀(m:Nat) (x:List Int),∀c∈Za6 m x,ZnY c:=by
   intro m
   induction m with
   |zero=>intro x c hc;cases hc
   |succ m ih=>
    intro x c hc
    rcases List.mem_cons.1 hc with rfl|hc
    ·trivial
    ·exact ih _ c hc
  intro i c hc
  refine key (n+1) x c ?_
  rw[List.getElem?_toArray]at hc
  exact List.mem_of_getElem? hc
theorem ZfZ {kt:TypeId} {ka:Nat} {k:AV} {g:Unit→List Int} {u:Value} (hg:ZpW (tyP P) kt ka k=some g) (hk:VR R k u):Zle u:=by
 rw[(ZhN hg hk).1]
 exact Zoz _ _
theorem ZiR {kt et:TypeId} {ka n:Nat} {L:Unit→List (List Int×List Int)} {k:AV} {ok:Bool} {r:AV×Cd} {u:Value} (hv:ZjD (tyP P) kt et ka n L k ok=some r) (hk:VR R k u):Zle u:=by
 unfold ZjD at hv
 split at hv
 ·rename_i g hg;exact ZfZ hg hk
 ·cases hv
theorem ZkJ {t:TypeId} {m k:AV} {ok:Bool} {h:List Blk} {r:AV×Cd} {u:Value} (hv:Zd3 (tyP P) t m k ok h=some r) (hk:VR R k u):Zle u:=by
 unfold Zd3 at hv
 split at hv
 case h_2=>cases hv
 split at hv
 ·split at hv
  ·split at hv
   ·rw[hk.int_inv];trivial
   ·cases hv
  ·exact ZiR hv hk
  ·split at hv
   ·rename_i g hg _;exact ZfZ hg hk
   ·cases hv
  ·cases hv
 ·exact ZiR hv hk
 ·cases hv
theorem ZhK {t:TypeId} {m k x:AV} {h:List Blk} {r:AV×List Blk×Cd} {u:Value} (hv:ZbW (tyP P) t m k x h=some r) (hk:VR R k u):Zle u:=by
 unfold ZbW at hv
 split at hv
 case h_2=>cases hv
 split at hv
 ·split at hv
  ·rw[hk.int_inv];trivial
  ·cases hv
 ·split at hv
  ·rename_i g d hg hd;exact ZfZ hg hk
  ·cases hv
 ·split at hv
  ·rename_i g _ _ _ hg;exact ZfZ hg hk
  ·cases hv
 ·cases hv
theorem Znk {v:Value}:ZaF P K (Instr.entry v):=by
 unfold Instr.entry
 split
 ·refine Zbx (fun o ho=>?_) fun o ho=>?_
  ·split
   ·split
    ·refine Zbx (fun o ho=>?_) fun o ho=>?_
     ·split
      ·refine ZcN (Zab (fun _=>Zbj) fun _ _=>?_) ?_<;>(dsimp only;split<;>trivial)
      ·trivial
     ·cases o<;>first|(cases ho;done)|trivial
    ·trivial
   ·trivial
  ·cases o<;>first|(cases ho;done)|trivial
 ·trivial
theorem ZoV {v:Value} {ty:TypeId}:ZaF P K (Instr.next v false ty):=by
 unfold Instr.next
 dsimp only
 split
 ·refine Zbx (fun o ho=>?_) fun o ho=>?_
  ·split
   ·exact absurd (show false=true by assumption) (by decide)
   ·exact Zaj
   ·refine Zbx (fun o ho=>?_) fun o ho=>?_
    ·split
     ·refine ZcN (Zba.bind Zbj fun _ K1 _ hK=>?_) ?_
      ·refine Zba.bind Zd1 fun n K' _ hK'=>?_
       split
       ·exact Zba.bind (ZbP (hK' _ (hK _ (.inl (.inr rfl)))) rfl) fun _ K' _ _=>Zaj
       ·exact Zaj
       ·exact ZaH
      ·refine Zba.bind Zd1 fun n K' _ hK'=>?_
       split
       ·exact Zba.bind (ZbP (hK' _ (.inl (.inr rfl))) rfl) fun _ K' _ _=>Zaj
       ·exact Zaj
       ·exact ZaH
     ·exact ZaH
    ·cases o<;>first|(cases ho;done)|trivial
   ·exact ZaH
  ·cases o<;>first|(cases ho;done)|trivial
 ·exact ZaH
theorem Znh {t:TypeId} {v:Value}:ZaF P K (Instr.range t v):=by
 unfold Instr.range
 refine Zab (fun _=>ZaD) fun u K=>?_
 split
 ·exact ZbG (Q:=fun o:Obj=>o.isChan=false) (fun _=>(show Obj.isChan _=false from rfl)) fun o K ho=>Zab (fun _=>ZcC ho) fun _ _=>trivial
 ·exact ZbG (Q:=fun o:Obj=>o.isChan=false) (fun _=>(show Obj.isChan _=false from rfl)) fun o K ho=>Zab (fun _=>ZcC ho) fun _ _=>trivial
 ·refine Zbx (fun o ho=>?_) fun o ho=>?_
  ·split
   ·exact ZbG (Q:=fun o:Obj=>o.isChan=false) (fun _=>(show Obj.isChan _=false from rfl)) fun o K ho=>Zab (fun _=>ZcC ho) fun _ _=>trivial
   ·trivial
  ·cases o<;>first|(cases ho;done)|trivial
 ·trivial
theorem Zrq {o:Oper} {E:Operand→AV} {ρ:Operand→Value} (hK:∀v,ρ (.const v)=v) (hE:∀x∈o.op.operands,VR R (E x) (ρ x)) {h:List Blk} {v:AV} {c:Cd} (hv:evP P E h o.op=some (v,c)):ZaF P K (execOp ρ o):=by
 obtain⟨dst,op,ty,pos,after,guard⟩:=o
 dsimp only at hE hv
 cases op with
 |move x=>exact Zaj
 |assign x=>exact Zaj
 |pick a b d=>exact Zab (fun _=>ZhG) fun _ _=>Zaj
 |nilCheck x=>
  have hx:=hE x (by simp[Op.operands])
  have hp:∃a,ρ x= .pointer (some a):=by
   simp only[evP]at hv
   generalize ρ x=u at hx
   split at hv
   all_goals first|(cases hv;done)|skip
   all_goals
    rename_i heq
    rw[heq]at hx
    cases hx with
    |pure _ _ hp=>cases hp<;>exact⟨_,rfl⟩
    |_=>exact⟨_,rfl⟩
  obtain⟨a,ha⟩:=hp
  simp only[execOp,ha]
  exact Zaj
 |load t a=>exact Zbr fun _=>ZhC
 |fieldAddr t x f=>
  simp only[evP]at hv
  split at hv
  ·rename_i T hT
   unfold Zc8 at hv
   split at hv
   ·rename_i fs' hk
    obtain⟨fl,hfu,rfl⟩:=ZfN hT hk
    split at hv
    ·rename_i off sz g hf
     split at hv
     ·cases hv
     ·rename_i hsz
      rw[List.getElem?_map,Option.map_eq_some_iff]at hf
      obtain⟨fd,hf1,hf2⟩:=hf
      rw[Array.getElem?_toList]at hf1
      obtain⟨j,d,hj,hd,ho,hs,hg⟩:=Zf5 hf2
      refine Zbr fun K=>Zky fun fs f' h1 h2 i h3=>?_
      rw[hfu]at h1
      cases h1
      rw[hf1]at h2
      cases h2
      rw[hj]at h3
      cases h3
      intro h0
      rw[hs]at h0
      subst h0
      exact hsz (by simp[eqN])
    ·cases hv
   ·cases hv
  ·cases hv
 |indexAddr t x i=>exact Zbr fun _=>Zkx
 |binOp op t x y yt=>
  have hx:=hE x (by simp[Op.operands])
  have hy:=hE y (by simp[Op.operands])
  refine Zbr fun K=>Zab (fun _=>ZkA) fun _ K=>?_
  simp only[evP]at hv
  unfold Zi5 at hv
  split at hv
  ·rename_i hn
   split at hv
   ·rename_i el hu
    rw[show ρ y= .slice none 0 0 by rw[Zkr hn];exact hK _]
    obtain⟨a,n,c',hsl⟩:∃a n c',ρ x= .slice a n c':=by
     have hv0:∃r,Zh3 op (E x)=some r:=⟨_,hv⟩
     obtain⟨r,hv0⟩:=hv0
     unfold Zh3 at hv0
     split at hv0
     all_goals first|(cases hv0;done)|skip
     all_goals
      rename_i heq
      exact hx.sliceV (by rw[heq];first|exact .inl ⟨_,_,_,_,rfl⟩|exact .inr (.inl ⟨_,_,_,_,_,rfl⟩)|exact .inr (.inr (.inl ⟨_,_,rfl⟩))|exact .inr (.inr (.inr ⟨_,_,_,rfl⟩)))
    rw[hsl]
    have hop:op= .eql∨op= .neq:=by
     unfold Zh3 at hv
     split at hv
     all_goals first|(cases hv;done)|skip
     all_goals
      split at hv
      all_goals first|exact .inl rfl|exact .inr rfl|cases hv
    rcases hop with rfl|rfl
    ·exact Zab (fun K=>ZfX _ _ _ _ _ K) fun _ _=>Zaj
    ·exact Zab (fun K=>ZfX _ _ _ _ _ K) fun _ _=>Zaj
   ·cases hv
  ·split at hv
   ·rename_i k a k' b hx' hy'
    rw[hx']at hx
    rw[hy']at hy
    rw[hx.int_inv,hy.int_inv]
    exact Zlv
   ·rename_i xs ys hx' hy'
    rw[hx']at hx
    obtain⟨us,hu,hl1,hr1⟩:=hx.agg_inv
    split at hv
    ·rw[hu]
     split at hv
     ·simp only[Option.map_eq_some_iff]at hv
      obtain⟨g,hg,_⟩:=hv
      exact ZeW (ZmR hl1 hr1 (Zdh hg)) (by simp) (by simp) (.inl rfl)
     ·simp only[Option.map_eq_some_iff]at hv
      obtain⟨g,hg,_⟩:=hv
      exact ZeW (ZmR hl1 hr1 (Zdh hg)) (by simp) (by simp) (.inr rfl)
     ·cases hv
    ·cases hv
   ·rename_i a b hx' hy'
    rw[hx']at hx
    rw[hx.bool_inv]
    split at hv
    ·split at hv
     ·exact ZeW trivial (by simp) (by simp) (.inl rfl)
     ·exact ZeW trivial (by simp) (by simp) (.inr rfl)
     ·cases hv
    ·cases hv
   ·cases hv
 |unOp op t x=>
  have hx:=hE x (by simp[Op.operands])
  cases op with
  |not=>
   simp only[evP]at hv
   split at hv
   ·rename_i a ha
    rw[ha]at hx
    simp only[execOp,hx.bool_inv]
    exact Zbr fun _=>Zaj
   ·cases hv
  |neg=>
   simp only[evP]at hv
   split at hv
   ·rename_i k a ha
    rw[ha]at hx
    simp only[execOp,hx.int_inv]
    exact Zbr fun _=>Zaj
   ·cases hv
  |_=>simp[evP]at hv
 |convert s d x=>
  have hx:=hE x (by simp[Op.operands])
  simp only[evP]at hv
  split at hv
  ·rename_i k a S D ha hS hD
   rw[ha]at hx
   split at hv
   ·rename_i k' hk
    simp only[execOp,hx.int_inv]
    exact Zbr fun _=>ZkC (ZrQ hD hk)
   ·cases hv
  ·cases hv
 |extract x i=>exact Zbr fun _=>Zkz
 |build t ps=>exact Zbr fun _=>Znn
 |index t x i=>exact Zbr fun _=>Zni
 |lookup t m k ok=>exact Zbr fun _=>Zlu (ZkJ (by simpa only[evP]using hv) (hE k (by simp[Op.operands])))
 |entry x=>exact Zbr fun _=>Znk
 |field t x i=>exact Zbr fun _=>Znj
 |makeFunc fn first cap=>exact Zaj
 |slice t x lo hi mx=>exact Zbr fun _=>Zku
 |call cl=>
  obtain⟨callee,args,argTypes⟩:=cl
  cases callee with
  |builtin b=>
   have hx:∀x∈args,VR R (E x) (ρ x):=fun x hx=>hE x (by simp[Op.operands,Call.operands,hx])
   cases b with
   |len=>
    simp only[evP]at hv
    have one:∀x,args.toList.map E=[x]→∃u,args.map ρ= #[u]∧VR R x u:=fun x hxx=>by
     obtain⟨l⟩:=args
     match l,hxx,hx with
     |[z],hxx,hx=>exact⟨ρ z,by simp,by
       have:=hx z (by simp)
       simp at hxx
       rwa [hxx]at this⟩
    have fin:∀ {a:AV} {t:TypeId} {ts:List TypeId},args.toList.map E=[a]→argTypes.toList=t::ts→(∃el,P.underlying t=some (.slice el))→
      ((∃s n f tk,a= .isl s n f tk)∨(∃id s lo n c,a= .msl id s lo n c)∨(∃id n,a= .gsl id n)∨(∃id e l,a= .nsub id e l))→ZaF P K (execOp ρ {dst,op:=.call {callee:=.builtin .len,args,argTypes},type:=ty,pos,after,guard}):=by
     intro a t ts ha ht ⟨el,hel⟩ hs
     obtain⟨u,hu,hxu⟩:=one _ ha
     obtain⟨x,n,c,rfl⟩:=hxu.sliceV hs
     show ZaF P K (do pure (.value (←Builtin.len_ argTypes ty (args.map ρ))):Sem Next)
     rw[hu]
     exact Zbr fun _=>Zjw (by rw[←Array.getElem?_toList,ht];rfl) hel
    split at hv
    ·rename_i ha ht
     split at hv
     ·rename_i el hsl
      exact fin ha ht ⟨el,hsl⟩ (.inl ⟨_,_,_,_,rfl⟩)
     ·cases hv
    ·rename_i ha ht
     split at hv
     ·rename_i el hsl
      exact fin ha ht ⟨el,hsl⟩ (.inr (.inl ⟨_,_,_,_,_,rfl⟩))
     ·cases hv
    ·rename_i ha ht
     split at hv
     ·rename_i el hsl
      exact fin ha ht ⟨el,hsl⟩ (.inr (.inr (.inl ⟨_,_,rfl⟩)))
     ·cases hv
    ·rename_i ha ht
     split at hv
     ·rename_i el hsl
      exact fin ha ht ⟨el,hsl⟩ (.inr (.inr (.inr ⟨_,_,_,rfl⟩)))
     ·cases hv
    ·cases hv
   |max=>
    simp only[evP]at hv
    split at hv
    ·rename_i k x r ha
     have hm:=Zjz hv
     show ZaF P K (do pure (.value (←Builtin.max_ argTypes ty (args.map ρ))):Sem Next)
     obtain⟨l⟩:=args
     match l,ha,hx with
     |z::l,ha,hx=>
      simp only[List.map_cons,List.cons.injEq]at ha
      have hz:=hx z (by simp)
      rw[ha.1]at hz
      refine Zbr fun K=>?_
      unfold Builtin.max_
      simp only[List.map_toArray,List.map_cons,hz.int_inv]
      refine Zet (fun a k b K=>ZoX) _ _ _ fun v hv=>?_
      obtain⟨y,hy,rfl⟩:=List.mem_map.1 hv
      obtain⟨k',n',e⟩:=hm (E y) (by rw[←ha.2];exact List.mem_map.2 ⟨y,hy,rfl⟩)
      have:=hx y (by simp[hy])
      rw[e]at this
      exact⟨_,_,this.int_inv⟩
    ·cases hv
   |min=>
    simp only[evP]at hv
    split at hv
    ·rename_i k x r ha
     have hm:=Zjz hv
     show ZaF P K (do pure (.value (←Builtin.min_ argTypes ty (args.map ρ))):Sem Next)
     obtain⟨l⟩:=args
     match l,ha,hx with
     |z::l,ha,hx=>
      simp only[List.map_cons,List.cons.injEq]at ha
      have hz:=hx z (by simp)
      rw[ha.1]at hz
      refine Zbr fun K=>?_
      unfold Builtin.min_
      simp only[List.map_toArray,List.map_cons,hz.int_inv]
      refine Zet (fun a k b K=>ZoW) _ _ _ fun v hv=>?_
      obtain⟨y,hy,rfl⟩:=List.mem_map.1 hv
      obtain⟨k',n',e⟩:=hm (E y) (by rw[←ha.2];exact List.mem_map.2 ⟨y,hy,rfl⟩)
      have:=hx y (by simp[hy])
      rw[e]at this
      exact⟨_,_,this.int_inv⟩
    ·cases hv
   |_=>simp[evP]at hv
  |_=>simp[evP]at hv
 |_=>simp[evP]at hv
theorem ZmA {gr:Bool} {o:Oper} {E:Operand→AV} {ρ:Operand→Value} (hE:∀x∈o.op.operands,VR R (E x) (ρ x)) {h:List Blk} {v:AV} {h':List Blk} {c:Cd} (hv:evE gr P E h o.op=some (v,h',c)):ZaF P K (execOp ρ o):=by
 obtain⟨dst,op,ty,pos,after,guard⟩:=o
 dsimp only at hE hv
 have int:∀ {x:Operand},x∈op.operands→(∃k n,E x= .int k n)→Zle (ρ x):=fun hx ⟨k,n,e⟩=>by
  have:=hE _ hx
  rw[e]at this
  rw[this.int_inv]
  trivial
 cases op with
 |alloc t=>exact Zbr fun _=>ZiM
 |box t x=>exact Zbr fun _=>Zq4
 |store t a x=>exact ZrY fun _=>ZgN
 |makeSlice t n c=>exact Zbr fun _=>Zin
 |buildSlice t n ps=>exact Zbr fun _=>Zew
 |makeMap t r=>
  cases r with
  |none=>exact Zbr fun _=>Zkw
  |some r=>simp[evE]at hv
 |mapUpdate t m k x=>exact ZrY fun _=>Zim (ZhK (by simpa only[evE]using hv) (hE k (by simp[Op.operands])))
 |range t x=>exact Zbr fun _=>Znh
 |call cl=>
  obtain⟨callee,args,argTypes⟩:=cl
  cases callee with
  |builtin b=>
   cases b with
   |append=>exact Zbr fun _=>Zlw
   |copy=>exact Zbr fun _=>ZoY
   |clear=>
    simp only[evE]at hv
    split at hv
    ·rename_i x t ts ha ht
     show ZaF P K (do pure (.value (←Builtin.clear_ argTypes ty (args.map ρ))):Sem Next)
     obtain⟨l⟩:=args
     obtain rfl:l=[x]:=ha
     have hx:=hE x (by simp[Op.operands,Call.operands])
     simp only[List.map_toArray,List.map_cons,List.map_nil]
     split at hv
     ·split at hv
      ·obtain⟨a,n,c',e⟩:=hx.sliceV (by
        unfold Zk0 at hv
        split at hv
        ·rename_i e _;rw[e];exact .inr (.inl ⟨_,_,_,_,_,rfl⟩)
        all_goals first|(cases hv;done)|(rename_i e _;rw[e];exact .inr (.inr (.inl ⟨_,_,rfl⟩)))|(rename_i e _;rw[e];exact .inr (.inr (.inr ⟨_,_,_,rfl⟩)))|(rename_i e _;rw[e];exact .inl ⟨_,_,_,_,rfl⟩))
       rw[e]
       exact Zbr fun _=>Znl (by simp)
      ·cases hv
     ·cases hv
    ·cases hv
   |_=>simp[evE]at hv
  |_=>simp[evE]at hv
 |_=>simp[evE]at hv
end
end Go.Proofs.Ytjgpiclllehgmaa.Vm
