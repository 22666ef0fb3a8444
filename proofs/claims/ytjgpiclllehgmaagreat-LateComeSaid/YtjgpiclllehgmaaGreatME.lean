/- The operations that the abstract machine knows touch memory plainly. -/
import Derived.Test.YtjgpiclllehgmaaGreatMT
import Derived.Test.YtjgpiclllehgmaaGreatCxSteps
set_option linter.unusedSimpArgs false
set_option linter.unusedVariables false
namespace Go.Proofs.YtjgpiclllehgmaaGreat.Vm
open Go Go.Proofs.YtjgpiclllehgmaaGreat.Conc1
section
variable {P:Program} {α β:Type} {K:Nat→Prop}
theorem Qw {s:Sem Value} (h:∀K,Zt P K s):Zt P K (do pure (.value (←s)):Sem Next):=Zh h fun _ _=>Zl
theorem Zn7 {s:Sem Unit} (h:∀K,Zt P K s):Zt P K (do s;pure .skip:Sem Next):=Zh h fun _ _=>Zl
theorem Yz:∀(d:Nat) (t:TypeId) (x y:Value) (K:Nat→Prop),Zt P K (Op.eqGuardIn d t x y)
 |0,_,_,_,_=>trivial
 |d+1,t,x,y,K=>by
  unfold Op.eqGuardIn
  refine Zh (fun _=>ZX) fun u K=>?_
  split
  ·trivial
  ·refine Zh (fun K=>Zbm (fun f s K=>?_) _ _ K) fun r K=>?_
   ·split
    ·refine Zh (fun _=>XU) fun a K=>Zh (fun _=>XU) fun b K=>Zh (fun K=>Yz d _ _ _ K) fun e K=>?_
     split<;>trivial
    ·trivial
   ·dsimp only
    split<;>trivial
  ·refine Zh (fun _=>Q6) fun n K=>Zh (fun K=>Zbk (fun f s K=>?_) _ _ K) fun r K=>?_
   ·refine Zh (fun _=>XU) fun a K=>Zh (fun _=>XU) fun b K=>Zh (fun K=>Yz d _ _ _ K) fun e K=>?_
    split<;>trivial
   ·dsimp only
    split<;>trivial
  ·trivial
theorem Zht {op:BinOp} {t:TypeId} {x y:Operand} {a b:Value}:Zt P K (eqGuard op t x y a b):=by
 unfold eqGuard
 split<;>simp only[Bool.not_true,Bool.not_false,if_true,Bool.false_eq_true,if_false]
 all_goals first|exact Zl|skip
 all_goals
  split
  ·refine Ya Zl ?_
   refine Zh (fun K=>Yz _ _ _ _ K) fun e K=>Ya QV Zl
  ·refine Zh (fun _=>Jh) fun p K=>Zh (fun _=>Jh) fun p K=>Ya Zl ?_
   refine Zh (fun K=>Yz _ _ _ _ K) fun e K=>Ya QV Zl
  ·exact Zl
theorem ZjI {op:BinOp} {k k':IntKind} {a b:Int}:Zt P K (Op.shift op k a k' b):=by
 unfold Op.shift
 refine Ya ZR ?_
 dsimp only
 split<;>first|exact Zl|exact Z3
theorem Ziv {op : BinOp} {t : TypeId} {k k' : IntKind} {a b : Int} : Zt P K (binOp op t (.int k a) (.int k' b)) := by
  cases op
  all_goals
    simp only [binOp]
    first
    | exact ZjI
    | (refine Ya Z3 ?_
       first
       | exact Zl
       | exact Z3
       | exact Ya ZR Zl)
theorem ZaI {op:BinOp} {t:TypeId} {x y:Value} (hx:Zb8 x) (hn:∀k a,x≠ .int k a) (hs:∀s,x≠ .string s) (ho:op= .eql∨op= .neq):Zt P K (binOp op t x y):=by
 rcases ho with rfl|rfl
 ·cases x with
  |int k a=>exact absurd rfl (hn k a)
  |string s=>exact absurd rfl (hs s)
  |bool b=>exact Zh (fun _=>Jv hx) fun _ _=>Zl
  |agg c=>exact Zh (fun _=>Jv hx) fun _ _=>Zl
  |_=>exact False.elim hx
 ·cases x with
  |int k a=>exact absurd rfl (hn k a)
  |string s=>exact absurd rfl (hs s)
  |bool b=>exact Zh (fun _=>Jv hx) fun _ _=>Zl
  |agg c=>exact Zh (fun _=>Jv hx) fun _ _=>Zl
  |_=>exact False.elim hx
theorem Zcf (d:Nat) (t:TypeId) (a:Option Addr) (n c:Nat) (K:Nat→Prop):Zt P K (Op.equalIn d t (.slice a n c) (.slice none 0 0)):=by
 cases d with
 |zero=>trivial
 |succ d=>
  unfold Op.equalIn
  refine Zh (fun _=>ZX) fun u K=>?_
  cases u<;>cases a<;>first|exact Zl|exact Z3
end
section
variable {P:Program} {R:RC} {K:Nat→Prop}
theorem Ja:∀ {xs ys:List AV} {g:Unit→Bool},ZF xs ys=some g→∀(j:Nat) x,xs[j]? =some x→∃k n,x= .int k n
 |[],_,_,_,j,x,hx=>by simp at hx
 |.int k a::r,.int k' b::s,g,h,j,x,hx=>by
  simp only[ZF]at h
  split at h
  ·simp only[Option.map_eq_some_iff]at h
   obtain⟨g',h',_⟩:=h
   cases j with
   |zero=>simp at hx;exact⟨k,a,hx.symm⟩
   |succ j=>exact Ja h' j x (by simpa using hx)
  ·cases h
theorem Zjc {xs:List AV} {us:Array Value} (hl:xs.length=us.size) (hr:∀j c,xs[j]? =some c→VR R c (us.getD j Go.undef)) (h:∀(j:Nat) x,xs[j]? =some x→∃k n,x= .int k n):Zb8 (.agg us):=by
 intro i c hc
 have hlt:i<us.size:=(Array.getElem?_eq_some_iff.1 hc).1
 have hx:=List.getElem?_eq_getElem (l:=xs) (i:=i) (by omega)
 obtain⟨k,n,e⟩:=h i _ hx
 have:=hr i _ hx
 rw[e,Array.getD_eq_getD_getElem?,hc]at this
 rw[show c=_ from this.int_inv]
 trivial
theorem ZlC {j k:IntKind} {a b:Int}:Z9 P (fun v=>∃n,v=Value.int j n) K (Builtin.max2 (.int j a) (.int k b)):=⟨_,rfl⟩
theorem ZlB {j k:IntKind} {a b:Int}:Z9 P (fun v=>∃n,v=Value.int j n) K (Builtin.min2 (.int j a) (.int k b)):=⟨_,rfl⟩
theorem ZaG {f:Value→Value→Sem Value} {j:IntKind} (hf:∀(a:Int) (k:IntKind) (b:Int) (K:Nat→Prop),Z9 P (fun v=>∃n,v=Value.int j n) K (f (.int j a) (.int k b))):
  ∀(l:List Value) (a:Int) (K:Nat→Prop),(∀v∈l,∃k n,v=Value.int k n)→Zt P K (l.foldlM f (.int j a))
 |[],a,K,_=>Zl
 |v::l,a,K,h=>by
  obtain⟨k,n,rfl⟩:=h v (by simp)
  rw[List.foldlM_cons]
  refine Xb (fun K=>hf a k n K) fun x K hx=>?_
  obtain⟨m,rfl⟩:=hx
  exact ZaG hf l m K fun v hv=>h v (by simp[hv])
theorem Zfl {k:IntKind} {mx:Bool}:∀ {l:List AV} {x:Unit→Int} {r:AV×Cd},Zfm k mx l x=some r→∀a∈l,∃k n,a=AV.int k n
 |[],_,_,_,a,h=>by simp at h
 |b::l,x,r,h,a,ha=>by
  cases b<;>simp only[Zfm]at h<;>try cases h
  rcases List.mem_cons.1 ha with rfl|ha
  ·exact⟨_,_,rfl⟩
  ·exact Zfl h a ha
theorem Zf6 {ts:Array TypeId} {t ty e:TypeId} {a:Option Addr} {n c:Nat} (ht:ts[0]? =some t) (hu:P.underlying t=some (.slice e)):Zt P K (Builtin.len_ ts ty #[.slice a n c]):=by
 unfold Builtin.len_
 rw[ht]
 refine Xb (fun _=>XV) fun d K hd=>?_
 rw[hu]at hd
 cases hd
 exact Zl
theorem Zhv {s d:TypeId} {k j:IntKind} {n:Int} (hd:P.underlying d=some (.int k)):Zt P K (convert s d (.int j n)):=by
 unfold convert
 refine Zh (fun _=>ZX) fun us K=>Xb (fun _=>XV) fun ud K h=>?_
 rw[hd]at h
 cases h
 cases us<;>exact Zl
theorem VR.sliceV {u:Value} {a:AV} (h:VR R a u) (ha:(∃s n f tk,a= .isl s n f tk)∨(∃id s lo n c,a= .msl id s lo n c)∨(∃id n,a= .gsl id n)):∃x n c,u= .slice x n c:=by
 rcases ha with⟨s,n,f,tk,rfl⟩|⟨id,s,lo,n,c,rfl⟩|⟨id,n,rfl⟩
 ·have:=h.isl_inv
  cases this<;>exact⟨_,_,_,rfl⟩
 ·cases h with
  |pure _ _ hp=>cases hp
  |msl=>exact⟨_,_,_,rfl⟩
 ·cases h with
  |pure _ _ hp=>cases hp
  |gsl=>exact⟨_,_,_,rfl⟩
theorem Zlm (n:Nat) (x:List Int):Zb8 (Q2 n x):=by
 cases n with
 |zero=>trivial
 |succ n=>
  have key:∀(m:Nat) (x:List Int),∀c∈Qp m x,ZgZ c:=by
   intro m
   induction m with
   |zero=>intro x c hc;cases hc
   |succ m ih=>
    intro x c hc
    rcases List.mem_cons.1 hc with rfl|hc
    ·trivial
    ·exact ih _ c hc
  intro i c hc
  refine key (n+1) x c ?_
  rw[List.getElem?_toArray]at hc
  exact List.mem_of_getElem? hc
theorem ZbV {kt:TypeId} {ka:Nat} {k:AV} {g:Unit→List Int} {u:Value} (hg:Zgb (tyP P) kt ka k=some g) (hk:VR R k u):Zb8 u:=by
 rw[(ZcS hg hk).1]
 exact Zlm _ _
theorem Zfn {kt et:TypeId} {ka n:Nat} {L:Unit→List (List Int×List Int)} {k:AV} {ok:Bool} {r:AV×Cd} {u:Value} (hv:ZcR (tyP P) kt et ka n L k ok=some r) (hk:VR R k u):Zb8 u:=by
 unfold ZcR at hv
 split at hv
 ·rename_i g hg;exact ZbV hg hk
 ·cases hv
theorem ZhC {t:TypeId} {m k:AV} {ok:Bool} {h:List Zi} {r:AV×Cd} {u:Value} (hv:Jj (tyP P) t m k ok h=some r) (hk:VR R k u):Zb8 u:=by
 unfold Jj at hv
 split at hv
 case h_2=>cases hv
 split at hv
 ·split at hv
  ·split at hv
   ·rw[hk.int_inv];trivial
   ·cases hv
  ·exact Zfn hv hk
  ·split at hv
   ·rename_i g hg _;exact ZbV hg hk
   ·cases hv
  ·cases hv
 ·exact Zfn hv hk
 ·cases hv
theorem Zeq {t:TypeId} {m k x:AV} {h:List Zi} {r:AV×List Zi×Cd} {u:Value} (hv:Xx (tyP P) t m k x h=some r) (hk:VR R k u):Zb8 u:=by
 unfold Xx at hv
 split at hv
 case h_2=>cases hv
 split at hv
 ·split at hv
  ·rw[hk.int_inv];trivial
  ·cases hv
 ·split at hv
  ·rename_i g d hg hd;exact ZbV hg hk
  ·cases hv
 ·split at hv
  ·rename_i g _ _ _ hg;exact ZbV hg hk
  ·cases hv
 ·cases hv
theorem ZjM {v:Value}:Zt P K (Instr.entry v):=by
 unfold Instr.entry
 split
 ·refine Q7 (fun o ho=>?_) fun o ho=>?_
  ·split
   ·split
    ·refine Q7 (fun o ho=>?_) fun o ho=>?_
     ·split
      ·refine Ya (Zh (fun _=>QV) fun _ _=>?_) ?_<;>(dsimp only;split<;>trivial)
      ·trivial
     ·cases o<;>first|(cases ho;done)|trivial
    ·trivial
   ·trivial
  ·cases o<;>first|(cases ho;done)|trivial
 ·trivial
theorem ZlA {v:Value} {ty:TypeId}:Zt P K (Instr.next v false ty):=by
 unfold Instr.next
 dsimp only
 split
 ·refine Q7 (fun o ho=>?_) fun o ho=>?_
  ·split
   ·exact absurd (show false=true by assumption) (by decide)
   ·exact Zl
   ·refine Q7 (fun o ho=>?_) fun o ho=>?_
    ·split
     ·refine Ya (Z9.bind QV fun _ K1 _ hK=>?_) ?_
      ·refine Z9.bind JL fun n K' _ hK'=>?_
       split
       ·exact Z9.bind (Xs (hK' _ (hK _ (.inl (.inr rfl)))) rfl) fun _ K' _ _=>Zl
       ·exact Zl
       ·exact Z3
      ·refine Z9.bind JL fun n K' _ hK'=>?_
       split
       ·exact Z9.bind (Xs (hK' _ (.inl (.inr rfl))) rfl) fun _ K' _ _=>Zl
       ·exact Zl
       ·exact Z3
     ·exact Z3
    ·cases o<;>first|(cases ho;done)|trivial
   ·exact Z3
  ·cases o<;>first|(cases ho;done)|trivial
 ·exact Z3
theorem ZjJ {t:TypeId} {v:Value}:Zt P K (Instr.range t v):=by
 unfold Instr.range
 refine Zh (fun _=>ZX) fun u K=>?_
 split
 ·exact Xb (Q:=fun o:Obj=>o.isChan=false) (fun _=>(show Obj.isChan _=false from rfl)) fun o K ho=>Zh (fun _=>Yo ho) fun _ _=>trivial
 ·exact Xb (Q:=fun o:Obj=>o.isChan=false) (fun _=>(show Obj.isChan _=false from rfl)) fun o K ho=>Zh (fun _=>Yo ho) fun _ _=>trivial
 ·refine Q7 (fun o ho=>?_) fun o ho=>?_
  ·split
   ·exact Xb (Q:=fun o:Obj=>o.isChan=false) (fun _=>(show Obj.isChan _=false from rfl)) fun o K ho=>Zh (fun _=>Yo ho) fun _ _=>trivial
   ·trivial
  ·cases o<;>first|(cases ho;done)|trivial
 ·trivial
theorem Zoy {o:Oper} {E:Operand→AV} {ρ:Operand→Value} (hK:∀v,ρ (.const v)=v) (hE:∀x∈o.op.operands,VR R (E x) (ρ x)) {h:List Zi} {v:AV} {c:Cd} (hv:Y6 P E h o.op=some (v,c)):Zt P K (execOp ρ o):=by
 obtain⟨dst,op,ty,pos,after,guard⟩:=o
 dsimp only at hE hv
 cases op with
 |move x=>exact Zl
 |assign x=>exact Zl
 |pick a b d=>exact Zh (fun _=>Zd5) fun _ _=>Zl
 |nilCheck x=>
  have hx:=hE x (by simp[Op.operands])
  have hp:∃a,ρ x= .pointer (some a):=by
   simp only[Y6]at hv
   generalize ρ x=u at hx
   split at hv
   all_goals first|(cases hv;done)|skip
   all_goals
    rename_i heq
    rw[heq]at hx
    cases hx with
    |pure _ _ hp=>cases hp<;>exact⟨_,rfl⟩
    |_=>exact⟨_,rfl⟩
  obtain⟨a,ha⟩:=hp
  simp only[execOp,ha]
  exact Zl
 |load t a=>exact Qw fun _=>Zd4
 |fieldAddr t x f=>
  simp only[Y6]at hv
  split at hv
  ·rename_i T hT
   unfold YN at hv
   split at hv
   ·rename_i fs' hk
    obtain⟨fl,hfu,rfl⟩:=ZbG hT hk
    split at hv
    ·rename_i off sz g hf
     split at hv
     ·cases hv
     ·rename_i hsz
      rw[List.getElem?_map,Option.map_eq_some_iff]at hf
      obtain⟨fd,hf1,hf2⟩:=hf
      rw[Array.getElem?_toList]at hf1
      obtain⟨j,d,hj,hd,ho,hs,hg⟩:=Zby hf2
      refine Qw fun K=>Zhr fun fs f' h1 h2 i h3=>?_
      rw[hfu]at h1
      cases h1
      rw[hf1]at h2
      cases h2
      rw[hj]at h3
      cases h3
      intro h0
      rw[hs]at h0
      subst h0
      exact hsz (by simp[ZC])
    ·cases hv
   ·cases hv
  ·cases hv
 |indexAddr t x i=>exact Qw fun _=>Zhq
 |binOp op t x y yt=>
  have hx:=hE x (by simp[Op.operands])
  have hy:=hE y (by simp[Op.operands])
  refine Qw fun K=>Zh (fun _=>Zht) fun _ K=>?_
  simp only[Y6]at hv
  unfold ZdG at hv
  split at hv
  ·rename_i hn
   split at hv
   ·rename_i el hu
    rw[show ρ y= .slice none 0 0 by rw[Zgw hn];exact hK _]
    obtain⟨a,n,c',hsl⟩:∃a n c',ρ x= .slice a n c':=by
     have hv0:∃r,Zcr op (E x)=some r:=⟨_,hv⟩
     obtain⟨r,hv0⟩:=hv0
     unfold Zcr at hv0
     split at hv0
     all_goals first|(cases hv0;done)|skip
     all_goals
      rename_i heq
      exact hx.sliceV (by rw[heq];first|exact .inl ⟨_,_,_,_,rfl⟩|exact .inr (.inl ⟨_,_,_,_,_,rfl⟩)|exact .inr (.inr (.inl ⟨_,_,rfl⟩))|exact .inr (.inr (.inr ⟨_,_,_,rfl⟩)))
    rw[hsl]
    have hop:op= .eql∨op= .neq:=by
     unfold Zcr at hv
     split at hv
     all_goals first|(cases hv;done)|skip
     all_goals
      split at hv
      all_goals first|exact .inl rfl|exact .inr rfl|cases hv
    rcases hop with rfl|rfl
    ·exact Zh (fun K=>Zcf _ _ _ _ _ K) fun _ _=>Zl
    ·exact Zh (fun K=>Zcf _ _ _ _ _ K) fun _ _=>Zl
   ·cases hv
  ·split at hv
   ·rename_i k a k' b hx' hy'
    rw[hx']at hx
    rw[hy']at hy
    rw[hx.int_inv,hy.int_inv]
    exact Ziv
   ·rename_i xs ys hx' hy'
    rw[hx']at hx
    obtain⟨us,hu,hl1,hr1⟩:=hx.agg_inv
    split at hv
    ·rw[hu]
     split at hv
     ·simp only[Option.map_eq_some_iff]at hv
      obtain⟨g,hg,_⟩:=hv
      exact ZaI (Zjc hl1 hr1 (Ja hg)) (by simp) (by simp) (.inl rfl)
     ·simp only[Option.map_eq_some_iff]at hv
      obtain⟨g,hg,_⟩:=hv
      exact ZaI (Zjc hl1 hr1 (Ja hg)) (by simp) (by simp) (.inr rfl)
     ·cases hv
    ·cases hv
   ·rename_i a b hx' hy'
    rw[hx']at hx
    rw[hx.bool_inv]
    split at hv
    ·split at hv
     ·exact ZaI trivial (by simp) (by simp) (.inl rfl)
     ·exact ZaI trivial (by simp) (by simp) (.inr rfl)
     ·cases hv
    ·cases hv
   ·cases hv
 |unOp op t x=>
  have hx:=hE x (by simp[Op.operands])
  cases op with
  |not=>
   simp only[Y6]at hv
   split at hv
   ·rename_i a ha
    rw[ha]at hx
    simp only[execOp,hx.bool_inv]
    exact Qw fun _=>Zl
   ·cases hv
  |neg=>
   simp only[Y6]at hv
   split at hv
   ·rename_i k a ha
    rw[ha]at hx
    simp only[execOp,hx.int_inv]
    exact Qw fun _=>Zl
   ·cases hv
  |_=>simp[Y6]at hv
 |convert s d x=>
  have hx:=hE x (by simp[Op.operands])
  simp only[Y6]at hv
  split at hv
  ·rename_i k a S D ha hS hD
   rw[ha]at hx
   split at hv
   ·rename_i k' hk
    simp only[execOp,hx.int_inv]
    exact Qw fun _=>Zhv (ZmN hD hk)
   ·cases hv
  ·cases hv
 |extract x i=>exact Qw fun _=>Zhs
 |build t ps=>exact Qw fun _=>ZjP
 |index t x i=>exact Qw fun _=>ZjK
 |lookup t m k ok=>exact Qw fun _=>Ziu (ZhC (by simpa only[Y6]using hv) (hE k (by simp[Op.operands])))
 |entry x=>exact Qw fun _=>ZjM
 |field t x i=>exact Qw fun _=>ZjL
 |makeFunc fn first cap=>exact Zl
 |slice t x lo hi mx=>exact Qw fun _=>Zho
 |call cl=>
  obtain⟨callee,args,argTypes⟩:=cl
  cases callee with
  |builtin b=>
   have hx:∀x∈args,VR R (E x) (ρ x):=fun x hx=>hE x (by simp[Op.operands,Call.operands,hx])
   cases b with
   |len=>
    simp only[Y6]at hv
    have one:∀x,args.toList.map E=[x]→∃u,args.map ρ= #[u]∧VR R x u:=fun x hxx=>by
     obtain⟨l⟩:=args
     match l,hxx,hx with
     |[z],hxx,hx=>exact⟨ρ z,by simp,by
       have:=hx z (by simp)
       simp at hxx
       rwa [hxx]at this⟩
    have fin:∀ {a:AV} {t:TypeId} {ts:List TypeId},args.toList.map E=[a]→argTypes.toList=t::ts→(∃el,P.underlying t=some (.slice el))→
      ((∃s n f tk,a= .isl s n f tk)∨(∃id s lo n c,a= .msl id s lo n c)∨(∃id n,a= .gsl id n))→Zt P K (execOp ρ {dst,op:=.call {callee:=.builtin .len,args,argTypes},type:=ty,pos,after,guard}):=by
     intro a t ts ha ht ⟨el,hel⟩ hs
     obtain⟨u,hu,hxu⟩:=one _ ha
     obtain⟨x,n,c,rfl⟩:=hxu.sliceV hs
     show Zt P K (do pure (.value (←Builtin.len_ argTypes ty (args.map ρ))):Sem Next)
     rw[hu]
     exact Qw fun _=>Zf6 (by rw[←Array.getElem?_toList,ht];rfl) hel
    split at hv
    ·rename_i ha ht
     split at hv
     ·rename_i el hsl
      exact fin ha ht ⟨el,hsl⟩ (.inl ⟨_,_,_,_,rfl⟩)
     ·cases hv
    ·rename_i ha ht
     split at hv
     ·rename_i el hsl
      exact fin ha ht ⟨el,hsl⟩ (.inr (.inl ⟨_,_,_,_,_,rfl⟩))
     ·cases hv
    ·rename_i ha ht
     split at hv
     ·rename_i el hsl
      exact fin ha ht ⟨el,hsl⟩ (.inr (.inr ⟨_,_,rfl⟩))
     ·cases hv
    ·cases hv
   |max=>
    simp only[Y6]at hv
    split at hv
    ·rename_i k x r ha
     have hm:=Zfl hv
     show Zt P K (do pure (.value (←Builtin.max_ argTypes ty (args.map ρ))):Sem Next)
     obtain⟨l⟩:=args
     match l,ha,hx with
     |z::l,ha,hx=>
      simp only[List.map_cons,List.cons.injEq]at ha
      have hz:=hx z (by simp)
      rw[ha.1]at hz
      refine Qw fun K=>?_
      unfold Builtin.max_
      simp only[List.map_toArray,List.map_cons,hz.int_inv]
      refine ZaG (fun a k b K=>ZlC) _ _ _ fun v hv=>?_
      obtain⟨y,hy,rfl⟩:=List.mem_map.1 hv
      obtain⟨k',n',e⟩:=hm (E y) (by rw[←ha.2];exact List.mem_map.2 ⟨y,hy,rfl⟩)
      have:=hx y (by simp[hy])
      rw[e]at this
      exact⟨_,_,this.int_inv⟩
    ·cases hv
   |min=>
    simp only[Y6]at hv
    split at hv
    ·rename_i k x r ha
     have hm:=Zfl hv
     show Zt P K (do pure (.value (←Builtin.min_ argTypes ty (args.map ρ))):Sem Next)
     obtain⟨l⟩:=args
     match l,ha,hx with
     |z::l,ha,hx=>
      simp only[List.map_cons,List.cons.injEq]at ha
      have hz:=hx z (by simp)
      rw[ha.1]at hz
      refine Qw fun K=>?_
      unfold Builtin.min_
      simp only[List.map_toArray,List.map_cons,hz.int_inv]
      refine ZaG (fun a k b K=>ZlB) _ _ _ fun v hv=>?_
      obtain⟨y,hy,rfl⟩:=List.mem_map.1 hv
      obtain⟨k',n',e⟩:=hm (E y) (by rw[←ha.2];exact List.mem_map.2 ⟨y,hy,rfl⟩)
      have:=hx y (by simp[hy])
      rw[e]at this
      exact⟨_,_,this.int_inv⟩
    ·cases hv
   |_=>simp[Y6]at hv
  |_=>simp[Y6]at hv
 |_=>simp[Y6]at hv
theorem ZiU {gr:Bool} {o:Oper} {E:Operand→AV} {ρ:Operand→Value} (hE:∀x∈o.op.operands,VR R (E x) (ρ x)) {h:List Zi} {v:AV} {h':List Zi} {c:Cd} (hv:evE gr P E h o.op=some (v,h',c)):Zt P K (execOp ρ o):=by
 obtain⟨dst,op,ty,pos,after,guard⟩:=o
 dsimp only at hE hv
 have int:∀ {x:Operand},x∈op.operands→(∃k n,E x= .int k n)→Zb8 (ρ x):=fun hx ⟨k,n,e⟩=>by
  have:=hE _ hx
  rw[e]at this
  rw[this.int_inv]
  trivial
 cases op with
 |alloc t=>exact Qw fun _=>Zfj
 |box t x=>exact Qw fun _=>Zn8
 |store t a x=>exact Zn7 fun _=>ZcN
 |makeSlice t n c=>exact Qw fun _=>Zfh
 |buildSlice t n ps=>exact Qw fun _=>Za2
 |makeMap t r=>
  cases r with
  |none=>exact Qw fun _=>Zhp
  |some r=>simp[evE]at hv
 |mapUpdate t m k x=>exact Zn7 fun _=>Zff (Zeq (by simpa only[evE]using hv) (hE k (by simp[Op.operands])))
 |range t x=>exact Qw fun _=>ZjJ
 |call cl=>
  obtain⟨callee,args,argTypes⟩:=cl
  cases callee with
  |builtin b=>
   cases b with
   |append=>exact Qw fun _=>Ziw
   |copy=>exact Qw fun _=>ZlD
   |clear=>
    simp only[evE]at hv
    split at hv
    ·rename_i x t ts ha ht
     show Zt P K (do pure (.value (←Builtin.clear_ argTypes ty (args.map ρ))):Sem Next)
     obtain⟨l⟩:=args
     obtain rfl:l=[x]:=ha
     have hx:=hE x (by simp[Op.operands,Call.operands])
     simp only[List.map_toArray,List.map_cons,List.map_nil]
     split at hv
     ·split at hv
      ·obtain⟨a,n,c',e⟩:=hx.sliceV (by
        unfold ZfJ at hv
        split at hv
        ·rename_i e _;rw[e];exact .inr (.inl ⟨_,_,_,_,_,rfl⟩)
        all_goals first|(cases hv;done)|(rename_i e _;rw[e];exact .inr (.inr (.inl ⟨_,_,rfl⟩)))|(rename_i e _;rw[e];exact .inr (.inr (.inr ⟨_,_,_,rfl⟩)))|(rename_i e _;rw[e];exact .inl ⟨_,_,_,_,rfl⟩))
       rw[e]
       exact Qw fun _=>ZjN (by simp)
      ·cases hv
     ·cases hv
    ·cases hv
   |_=>simp[evE]at hv
  |_=>simp[evE]at hv
 |_=>simp[evE]at hv
end
end Go.Proofs.YtjgpiclllehgmaaGreat.Vm
