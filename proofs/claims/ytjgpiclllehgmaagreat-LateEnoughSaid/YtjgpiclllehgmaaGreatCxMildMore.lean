/- Goroutines: steps in canonical order. -/
import Derived.Test.YtjgpiclllehgmaaGreatCxMildOps
set_option linter.unusedSimpArgs false
set_option linter.unusedVariables false
namespace Go.Proofs.YtjgpiclllehgmaaGreat.Conc1
open Go
section
variable {P:Program} {α β σ:Type} {K:Nat→Prop}
theorem Zbn {f:α→σ→Sem (ForInStep σ)} (h:∀a s K,Zw P K (f a s)):∀(l:List α) (s:σ) (K:Nat→Prop),Zw P K (forIn l s f)
 |[],s,K=>by rw[List.forIn_nil];trivial
 |a::l,s,K=>by
  rw[List.forIn_cons]
  exact Zf (h a s) fun r K=>by
   cases r with
   |done b=>trivial
   |yield b=>exact Zbn h l b K
theorem Zbo {f:α→σ→Sem (ForInStep σ)} (h:∀a s K,Zw P K (f a s)) (l:Array α) (s:σ) (K:Nat→Prop):Zw P K (forIn l s f):=by
 rw[←Array.forIn_toList]
 exact Zbn h _ _ _
theorem Zbm {f:Nat→σ→Sem (ForInStep σ)} (h:∀a s K,Zw P K (f a s)) (n:Nat) (s:σ) (K:Nat→Prop):Zw P K (forIn [0:n] s f):=by
 rw[Std.Legacy.Range.forIn_eq_forIn_range']
 exact Zbn h _ _ _
def ZgW:Value→Prop
 |.bool _|.int .. |.string _=>True
 |_=>False
def Zb9:Value→Prop
 |.bool _|.int .. |.string _=>True
 |.agg cs=>∀(i:Nat) (c:Value),cs[i]? =some c→ZgW c
 |_=>False
theorem ZgW.scal {v:Value} (h:ZgW v):Zb9 v:=by
 unfold ZgW at h
 split at h<;>first|trivial|exact False.elim h
theorem Zfh {t:TypeId} {cs:Array Value} {o:Nat} (h:∀(i:Nat) (c:Value),cs[i]? =some c→ZgW c):Z9 P Zb9 K (part t cs o):=Zbq (fun _=>ZaF) fun b K _=>by
 split
 ·refine Zbq (fun _=>Q3) fun n K _=>?_
  intro i c hc
  rw[Array.getElem?_extract]at hc
  split at hc
  ·exact h _ _ hc
  ·cases hc
 ·split
  ·rename_i v hv
   exact(h _ _ hv).scal
  ·trivial
theorem ZaH:∀(d:Nat) (t:TypeId) (x y:Value) (K:Nat→Prop),Zb9 x→Zw P K (Op.equalIn d t x y)
 |0,_,_,_,_,_=>trivial
 |d+1,t,x,y,K,hx=>by
  unfold Op.equalIn
  refine Zf (fun _=>ZX) fun u K=>?_
  split
  all_goals first|exact(trivial:Zw P _ (pure _))|exact False.elim hx|exact(trivial:Zw P _ (stuck _))|(split<;>first|exact(trivial:Zw P _ (pure _))|exact(trivial:Zw P _ (stuck _)))|skip
  ·rename_i fields xs ys
   have key:∀K,Zw P K (do
     for f in fields do
      if f.name≠ "_" then
       if !(←Op.equalIn d f.type (←part f.type xs f.offset) (←part f.type ys f.offset))then return false
     pure true:Sem Bool):=fun K=>by
    refine Zf (fun K=>Zbo (fun f s K=>?_) _ _ K) fun r K=>?_
    ·split
     ·refine Q9 (fun _=>Zfh hx) fun a K ha=>Zf (fun _=>XN) fun b K=>Zf (fun K=>ZaH d _ _ _ K ha) fun e K=>?_
      split<;>trivial
     ·trivial
    ·dsimp only
     split<;>trivial
   refine Zf (fun _=>Jj) fun p K=>?_
   dsimp only
   split
   ·exact Zf (fun _=>QO) fun _ K=>key K
   ·exact key K
  ·refine Zf (fun _=>Q3) fun n K=>Zf (fun K=>Zbm (fun f s K=>?_) _ _ K) fun r K=>?_
   ·refine Q9 (fun _=>Zfh hx) fun a K ha=>Zf (fun _=>XN) fun b K=>Zf (fun K=>ZaH d _ _ _ K ha) fun e K=>?_
    split<;>trivial
   ·dsimp only
    split<;>trivial
end
section
variable {P:Program} {α β σ:Type} {K:Nat→Prop}
theorem Jz {t:TypeId} {x y:Value} (hx:Zb9 x):Zw P K (Op.equal t x y):=ZaH _ _ _ _ _ hx
theorem mild_checkKey {e:Bool}:∀(n:Nat) (t:TypeId) (v:Value) (K:Nat→Prop),Zw P K (Instr.checkKey e n t v)
 |0,_,_,_=>trivial
 |n+1,t,v,K=>by
  unfold Instr.checkKey
  refine Zf (fun _=>ZX) fun u K=>?_
  split
  ·refine Zf (fun _=>YT) fun i K=>?_
   dsimp only
   split
   ·have hs:∀(t:TypeId) (K:Nat→Prop),Zw P K (typeStr t):=fun t K=>by
     unfold typeStr
     exact mtA
    split
    ·exact Zf (fun _=>ZT) fun _ K=>Zf (fun K=>hs _ K) fun _ K=>Zf (fun _=>ZT) fun _ K=>mild_checkKey n _ _ _
    ·exact Zf (fun K=>hs _ K) fun _ K=>Zf (fun _=>ZT) fun _ K=>mild_checkKey n _ _ _
   ·exact mild_checkKey n _ _ _
  ·refine Zf (fun K=>Zbm (fun i s K=>?_) _ _ K) fun _ _=>trivial
   exact Zf (fun _=>Q3) fun _ _=>Zf (fun _=>XN) fun _ _=>Zf (fun K=>mild_checkKey n _ _ K) fun _ _=>trivial
  ·refine Zf (fun K=>Zbo (fun i s K=>?_) _ _ K) fun _ _=>trivial
   split
   ·exact Zf (fun _=>XN) fun _ _=>Zf (fun K=>mild_checkKey n _ _ K) fun _ _=>trivial
   ·trivial
  all_goals trivial
theorem ZaZ {t:TypeId} {k:Value} (hk:Zb9 k):∀(es:List MapEntry) (i:Nat) (K:Nat→Prop),Zw P K (Instr.findAsking t k es i)
 |[],_,_=>trivial
 |e::es,i,K=>Zf (fun _=>Jz hk) fun b K=>by
  split
  ·trivial
  ·exact ZaZ hk es _ _
theorem mild_findKey {t:TypeId} {k:Value} {es:List MapEntry} (hk:Zb9 k):Zw P K (Instr.findKey t k es):=Zf (fun _=>ZX) fun u K=>by
 split
 ·trivial
 ·exact ZaZ hk _ _ _
theorem Zit {t:TypeId} {x k:Value} {ok:Bool} (hk:Zb9 k):Zw P K (Instr.lookup t x k ok):=Zf (fun _=>ZX) fun u K=>by
 split
 ·rename_i key elem
  have tail:∀(es:Array MapEntry) (K:Nat→Prop),Zw P K (do
    Instr.checkKey es.isEmpty 10000 key k
    let (v,ok')←match←Instr.findKey key k es.toList with
     |some (_,v)=>pure (v,true)
     |none=>pure (←zeroValue elem,false)
    pure (if ok then .tuple #[v,.bool ok']else v):Sem Value):=fun es K=>by
   exact mtA
  cases x with
  |map r=>
   cases r with
   |none=>exact Zf (fun _=>Zn) fun es K=>tail es K
   |some r=>exact Q4 (fun o ho=>by
     cases o with
     |map es c=>exact Zf (fun _=>Zn) fun es K=>tail es K
     |_=>exact Zf (fun _=>Z3) fun es K=>tail es K) (fun o ho=>by cases o<;>first|exact Qh.bind_left ZaQ|(cases ho;done))
  |_=>exact Zf (fun _=>Z3) fun es K=>tail es K
 ·trivial
theorem ZcM {a b:Value}:Zw P K (Instr.keyThatStays a b):=by
 unfold Instr.keyThatStays
 split
 ·trivial
 ·exact Zf (fun _=>JP) fun _ _=>trivial
theorem Zfc {t:TypeId} {m k v:Value} (hk:Zb9 k):Zw P K (Instr.mapUpdate t m k v):=Zf (fun _=>ZX) fun u K=>by
 split
 ·split
  ·exact ZT
  ·refine Q4 (fun o ho=>?_) (fun o ho=>by cases o<;>first|exact ZaQ|(cases ho;done))
   split
   ·refine Z9.bind (mild_checkKey _ _ _ _) fun _ K' _ hK=>Z9.bind (mild_findKey hk) fun r K'' _ hK'=>?_
    have hr:∀x,x=_→K'' x:=fun x hx=>hK' _ (hK _ (.inr hx))
    split
    ·exact Z9.bind ZcM fun _ K3 _ hK3=>Xq (hK3 _ (hr _ rfl)) rfl
    ·exact Xq (hr _ rfl) rfl
   ·trivial
  ·trivial
 ·trivial
theorem mild_firstCells {s n:Nat} {v:Value}:Zw P K (Builtin.firstCells s n v):=by
 unfold Builtin.firstCells
 split
 ·exact Jy
 all_goals trivial
theorem mild_lenOf {v:Value}:Zw P K (Builtin.lenOf v):=by
 unfold Builtin.lenOf
 split<;>trivial
theorem ZlK {ts:Array TypeId} {t:TypeId} {vs:Array Value}:Zw P K (Builtin.copy_ ts t vs):=by
 unfold Builtin.copy_
 exact mtA
theorem ZjS {ts:Array TypeId} {t:TypeId} {x:Value} (h:∀r,x≠ .map (some r)):Zw P K (Builtin.clear_ ts t #[x]):=by
 unfold Builtin.clear_
 dsimp only
 split
 ·rename_i t' x' hx
  have:x'=x:=by simp at hx;exact hx.2.symm
  subst this
  refine Zf (fun _=>ZX) fun u K=>?_
  cases x' with
  |map r=>
   cases r with
   |none=>trivial
   |some r=>exact absurd rfl (h r)
  |_=>
   split<;>first
    |exact Zf (fun _=>Zn) fun _ _=>Zn
    |exact Zf (fun _=>Z3) fun _ _=>Zn
    |exact Zf (fun _=>Jw) fun _ _=>Zf (fun _=>X9) fun _ _=>Zn
    |(rename_i h;cases h;done)
 ·trivial
set_option maxHeartbeats 4000000 in
theorem Ziv {ts:Array TypeId} {t:TypeId} {vs:Array Value}:Zw P K (Builtin.append_ ts t vs):=by
 unfold Builtin.append_
 have hd:∀(s:Sem Bool) (u:Unsupported) (K:Nat→Prop),Zw P K (s>>=fun b=>if(!b)=true then(mark .noRoom>>=fun _=>unsupported u)else unsupported u:Sem Unit):=fun s u K=>
  .of_dies (Qh.bind_right (fun b=>by split<;>exact(trivial:Qh P (unsupported _))) s) K
 exact mtA
end
end Go.Proofs.YtjgpiclllehgmaaGreat.Conc1
