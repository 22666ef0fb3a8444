/- Goroutines: steps in canonical order. -/
import Derived.Test.YtjgpiclllehgmaaGreatCxMildOps
set_option linter.unusedSimpArgs false
set_option linter.unusedVariables false
namespace Go.Proofs.YtjgpiclllehgmaaGreat.Conc1
open Go
section
variable {P:Program} {α β σ:Type} {K:Nat→Prop}
theorem Zbh {f:α→σ→Sem (ForInStep σ)} (h:∀a s K,Zu P K (f a s)):∀(l:List α) (s:σ) (K:Nat→Prop),Zu P K (forIn l s f)
 |[],s,K=>by rw[List.forIn_nil];trivial
 |a::l,s,K=>by
  rw[List.forIn_cons]
  exact Zh (h a s) fun r K=>by
   cases r with
   |done b=>trivial
   |yield b=>exact Zbh h l b K
theorem Zbi {f:α→σ→Sem (ForInStep σ)} (h:∀a s K,Zu P K (f a s)) (l:Array α) (s:σ) (K:Nat→Prop):Zu P K (forIn l s f):=by
 rw[←Array.forIn_toList]
 exact Zbh h _ _ _
theorem Zbg {f:Nat→σ→Sem (ForInStep σ)} (h:∀a s K,Zu P K (f a s)) (n:Nat) (s:σ) (K:Nat→Prop):Zu P K (forIn [0:n] s f):=by
 rw[Std.Legacy.Range.forIn_eq_forIn_range']
 exact Zbh h _ _ _
def ZgT:Value→Prop
 |.bool _|.int .. |.string _=>True
 |_=>False
def Zb5:Value→Prop
 |.bool _|.int .. |.string _=>True
 |.agg cs=>∀(i:Nat) (c:Value),cs[i]? =some c→ZgT c
 |_=>False
theorem ZgT.scal {v:Value} (h:ZgT v):Zb5 v:=by
 unfold ZgT at h
 split at h<;>first|trivial|exact False.elim h
theorem Zfh {t:TypeId} {cs:Array Value} {o:Nat} (h:∀(i:Nat) (c:Value),cs[i]? =some c→ZgT c):Qb P Zb5 K (part t cs o):=Zbk (fun _=>ZaE) fun b K _=>by
 split
 ·refine Zbk (fun _=>Q9) fun n K _=>?_
  intro i c hc
  rw[Array.getElem?_extract]at hc
  split at hc
  ·exact h _ _ hc
  ·cases hc
 ·split
  ·rename_i v hv
   exact(h _ _ hv).scal
  ·trivial
theorem ZaG:∀(d:Nat) (t:TypeId) (x y:Value) (K:Nat→Prop),Zb5 x→Zu P K (Op.equalIn d t x y)
 |0,_,_,_,_,_=>trivial
 |d+1,t,x,y,K,hx=>by
  unfold Op.equalIn
  refine Zh (fun _=>ZW) fun u K=>?_
  split
  all_goals first|exact(trivial:Zu P _ (pure _))|exact False.elim hx|exact(trivial:Zu P _ (stuck _))|(split<;>first|exact(trivial:Zu P _ (pure _))|exact(trivial:Zu P _ (stuck _)))|skip
  ·rename_i fields xs ys
   have key:∀K,Zu P K (do
     for f in fields do
      if f.name≠ "_" then
       if !(←Op.equalIn d f.type (←part f.type xs f.offset) (←part f.type ys f.offset))then return false
     pure true:Sem Bool):=fun K=>by
    refine Zh (fun K=>Zbi (fun f s K=>?_) _ _ K) fun r K=>?_
    ·split
     ·refine Xi (fun _=>Zfh hx) fun a K ha=>Zh (fun _=>XS) fun b K=>Zh (fun K=>ZaG d _ _ _ K ha) fun e K=>?_
      split<;>trivial
     ·trivial
    ·dsimp only
     split<;>trivial
   refine Zh (fun _=>Jh) fun p K=>?_
   dsimp only
   split
   ·exact Zh (fun _=>QU) fun _ K=>key K
   ·exact key K
  ·refine Zh (fun _=>Q9) fun n K=>Zh (fun K=>Zbg (fun f s K=>?_) _ _ K) fun r K=>?_
   ·refine Xi (fun _=>Zfh hx) fun a K ha=>Zh (fun _=>XS) fun b K=>Zh (fun K=>ZaG d _ _ _ K ha) fun e K=>?_
    split<;>trivial
   ·dsimp only
    split<;>trivial
end
section
variable {P:Program} {α β σ:Type} {K:Nat→Prop}
theorem Jw {t:TypeId} {x y:Value} (hx:Zb5 x):Zu P K (Op.equal t x y):=ZaG _ _ _ _ _ hx
theorem mild_checkKey {e:Bool}:∀(n:Nat) (t:TypeId) (v:Value) (K:Nat→Prop),Zu P K (Instr.checkKey e n t v)
 |0,_,_,_=>trivial
 |n+1,t,v,K=>by
  unfold Instr.checkKey
  refine Zh (fun _=>ZW) fun u K=>?_
  split
  ·refine Zh (fun _=>YR) fun i K=>?_
   dsimp only
   split
   ·have hs:∀(t:TypeId) (K:Nat→Prop),Zu P K (typeStr t):=fun t K=>by
     unfold typeStr
     exact mtA
    split
    ·exact Zh (fun _=>ZS) fun _ K=>Zh (fun K=>hs _ K) fun _ K=>Zh (fun _=>ZS) fun _ K=>mild_checkKey n _ _ _
    ·exact Zh (fun K=>hs _ K) fun _ K=>Zh (fun _=>ZS) fun _ K=>mild_checkKey n _ _ _
   ·exact mild_checkKey n _ _ _
  ·refine Zh (fun K=>Zbg (fun i s K=>?_) _ _ K) fun _ _=>trivial
   exact Zh (fun _=>Q9) fun _ _=>Zh (fun _=>XS) fun _ _=>Zh (fun K=>mild_checkKey n _ _ K) fun _ _=>trivial
  ·refine Zh (fun K=>Zbi (fun i s K=>?_) _ _ K) fun _ _=>trivial
   split
   ·exact Zh (fun _=>XS) fun _ _=>Zh (fun K=>mild_checkKey n _ _ K) fun _ _=>trivial
   ·trivial
  all_goals trivial
theorem ZaX {t:TypeId} {k:Value} (hk:Zb5 k):∀(es:List MapEntry) (i:Nat) (K:Nat→Prop),Zu P K (Instr.findAsking t k es i)
 |[],_,_=>trivial
 |e::es,i,K=>Zh (fun _=>Jw hk) fun b K=>by
  split
  ·trivial
  ·exact ZaX hk es _ _
theorem mild_findKey {t:TypeId} {k:Value} {es:List MapEntry} (hk:Zb5 k):Zu P K (Instr.findKey t k es):=Zh (fun _=>ZW) fun u K=>by
 split
 ·trivial
 ·exact ZaX hk _ _ _
theorem Zio {t:TypeId} {x k:Value} {ok:Bool} (hk:Zb5 k):Zu P K (Instr.lookup t x k ok):=Zh (fun _=>ZW) fun u K=>by
 split
 ·rename_i key elem
  have tail:∀(es:Array MapEntry) (K:Nat→Prop),Zu P K (do
    Instr.checkKey es.isEmpty 10000 key k
    let (v,ok')←match←Instr.findKey key k es.toList with
     |some (_,v)=>pure (v,true)
     |none=>pure (←zeroValue elem,false)
    pure (if ok then .tuple #[v,.bool ok']else v):Sem Value):=fun es K=>by
   exact mtA
  cases x with
  |map r=>
   cases r with
   |none=>exact Zh (fun _=>Zl) fun es K=>tail es K
   |some r=>exact Xa (fun o ho=>by
     cases o with
     |map es c=>exact Zh (fun _=>Zl) fun es K=>tail es K
     |_=>exact Zh (fun _=>Z5) fun es K=>tail es K) (fun o ho=>by cases o<;>first|exact Ql.bind_left ZaP|(cases ho;done))
  |_=>exact Zh (fun _=>Z5) fun es K=>tail es K
 ·trivial
theorem ZcK {a b:Value}:Zu P K (Instr.keyThatStays a b):=by
 unfold Instr.keyThatStays
 split
 ·trivial
 ·exact Zh (fun _=>JM) fun _ _=>trivial
theorem Zfc {t:TypeId} {m k v:Value} (hk:Zb5 k):Zu P K (Instr.mapUpdate t m k v):=Zh (fun _=>ZW) fun u K=>by
 split
 ·split
  ·exact ZS
  ·refine Xa (fun o ho=>?_) (fun o ho=>by cases o<;>first|exact ZaP|(cases ho;done))
   split
   ·refine Qb.bind (mild_checkKey _ _ _ _) fun _ K' _ hK=>Qb.bind (mild_findKey hk) fun r K'' _ hK'=>?_
    have hr:∀x,x=_→K'' x:=fun x hx=>hK' _ (hK _ (.inr hx))
    split
    ·exact Qb.bind ZcK fun _ K3 _ hK3=>Xw (hK3 _ (hr _ rfl)) rfl
    ·exact Xw (hr _ rfl) rfl
   ·trivial
  ·trivial
 ·trivial
theorem mild_firstCells {s n:Nat} {v:Value}:Zu P K (Builtin.firstCells s n v):=by
 unfold Builtin.firstCells
 split
 ·exact Jv
 all_goals trivial
theorem mild_lenOf {v:Value}:Zu P K (Builtin.lenOf v):=by
 unfold Builtin.lenOf
 split<;>trivial
theorem ZlC {ts:Array TypeId} {t:TypeId} {vs:Array Value}:Zu P K (Builtin.copy_ ts t vs):=by
 unfold Builtin.copy_
 exact mtA
theorem ZjK {ts:Array TypeId} {t:TypeId} {x:Value} (h:∀r,x≠ .map (some r)):Zu P K (Builtin.clear_ ts t #[x]):=by
 unfold Builtin.clear_
 dsimp only
 split
 ·rename_i t' x' hx
  have:x'=x:=by simp at hx;exact hx.2.symm
  subst this
  refine Zh (fun _=>ZW) fun u K=>?_
  cases x' with
  |map r=>
   cases r with
   |none=>trivial
   |some r=>exact absurd rfl (h r)
  |_=>
   split<;>first
    |exact Zh (fun _=>Zl) fun _ _=>Zl
    |exact Zh (fun _=>Z5) fun _ _=>Zl
    |exact Zh (fun _=>Jt) fun _ _=>Zh (fun _=>Yd) fun _ _=>Zl
    |(rename_i h;cases h;done)
 ·trivial
set_option maxHeartbeats 4000000 in
theorem Ziq {ts:Array TypeId} {t:TypeId} {vs:Array Value}:Zu P K (Builtin.append_ ts t vs):=by
 unfold Builtin.append_
 have hd:∀(s:Sem Bool) (u:Unsupported) (K:Nat→Prop),Zu P K (s>>=fun b=>if(!b)=true then(mark .noRoom>>=fun _=>unsupported u)else unsupported u:Sem Unit):=fun s u K=>
  .of_dies (Ql.bind_right (fun b=>by split<;>exact(trivial:Ql P (unsupported _))) s) K
 exact mtA
end
end Go.Proofs.YtjgpiclllehgmaaGreat.Conc1
