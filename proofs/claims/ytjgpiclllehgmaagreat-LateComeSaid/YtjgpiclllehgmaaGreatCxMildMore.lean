/- Goroutines: steps in canonical order. -/
import Derived.Test.YtjgpiclllehgmaaGreatCxMildOps
set_option linter.unusedSimpArgs false
set_option linter.unusedVariables false
namespace Go.Proofs.YtjgpiclllehgmaaGreat.Conc1
open Go
section
variable {P:Program} {α β σ:Type} {K:Nat→Prop}
theorem Zbl {f:α→σ→Sem (ForInStep σ)} (h:∀a s K,Zt P K (f a s)):∀(l:List α) (s:σ) (K:Nat→Prop),Zt P K (forIn l s f)
 |[],s,K=>by rw[List.forIn_nil];trivial
 |a::l,s,K=>by
  rw[List.forIn_cons]
  exact Zh (h a s) fun r K=>by
   cases r with
   |done b=>trivial
   |yield b=>exact Zbl h l b K
theorem Zbm {f:α→σ→Sem (ForInStep σ)} (h:∀a s K,Zt P K (f a s)) (l:Array α) (s:σ) (K:Nat→Prop):Zt P K (forIn l s f):=by
 rw[←Array.forIn_toList]
 exact Zbl h _ _ _
theorem Zbk {f:Nat→σ→Sem (ForInStep σ)} (h:∀a s K,Zt P K (f a s)) (n:Nat) (s:σ) (K:Nat→Prop):Zt P K (forIn [0:n] s f):=by
 rw[Std.Legacy.Range.forIn_eq_forIn_range']
 exact Zbl h _ _ _
def ZgZ:Value→Prop
 |.bool _|.int .. |.string _=>True
 |_=>False
def Zb8:Value→Prop
 |.bool _|.int .. |.string _=>True
 |.agg cs=>∀(i:Nat) (c:Value),cs[i]? =some c→ZgZ c
 |_=>False
theorem ZgZ.scal {v:Value} (h:ZgZ v):Zb8 v:=by
 unfold ZgZ at h
 split at h<;>first|trivial|exact False.elim h
theorem Zfk {t:TypeId} {cs:Array Value} {o:Nat} (h:∀(i:Nat) (c:Value),cs[i]? =some c→ZgZ c):Z9 P Zb8 K (part t cs o):=Zbo (fun _=>ZaF) fun b K _=>by
 split
 ·refine Zbo (fun _=>Q6) fun n K _=>?_
  intro i c hc
  rw[Array.getElem?_extract]at hc
  split at hc
  ·exact h _ _ hc
  ·cases hc
 ·split
  ·rename_i v hv
   exact(h _ _ hv).scal
  ·trivial
theorem ZaH:∀(d:Nat) (t:TypeId) (x y:Value) (K:Nat→Prop),Zb8 x→Zt P K (Op.equalIn d t x y)
 |0,_,_,_,_,_=>trivial
 |d+1,t,x,y,K,hx=>by
  unfold Op.equalIn
  refine Zh (fun _=>ZX) fun u K=>?_
  split
  all_goals first|exact(trivial:Zt P _ (pure _))|exact False.elim hx|exact(trivial:Zt P _ (stuck _))|(split<;>first|exact(trivial:Zt P _ (pure _))|exact(trivial:Zt P _ (stuck _)))|skip
  ·rename_i fields xs ys
   have key:∀K,Zt P K (do
     for f in fields do
      if f.name≠ "_" then
       if !(←Op.equalIn d f.type (←part f.type xs f.offset) (←part f.type ys f.offset))then return false
     pure true:Sem Bool):=fun K=>by
    refine Zh (fun K=>Zbm (fun f s K=>?_) _ _ K) fun r K=>?_
    ·split
     ·refine Xb (fun _=>Zfk hx) fun a K ha=>Zh (fun _=>XU) fun b K=>Zh (fun K=>ZaH d _ _ _ K ha) fun e K=>?_
      split<;>trivial
     ·trivial
    ·dsimp only
     split<;>trivial
   refine Zh (fun _=>Jh) fun p K=>?_
   dsimp only
   split
   ·exact Zh (fun _=>QV) fun _ K=>key K
   ·exact key K
  ·refine Zh (fun _=>Q6) fun n K=>Zh (fun K=>Zbk (fun f s K=>?_) _ _ K) fun r K=>?_
   ·refine Xb (fun _=>Zfk hx) fun a K ha=>Zh (fun _=>XU) fun b K=>Zh (fun K=>ZaH d _ _ _ K ha) fun e K=>?_
    split<;>trivial
   ·dsimp only
    split<;>trivial
end
section
variable {P:Program} {α β σ:Type} {K:Nat→Prop}
theorem Jv {t:TypeId} {x y:Value} (hx:Zb8 x):Zt P K (Op.equal t x y):=ZaH _ _ _ _ _ hx
theorem mild_checkKey {e:Bool}:∀(n:Nat) (t:TypeId) (v:Value) (K:Nat→Prop),Zt P K (Instr.checkKey e n t v)
 |0,_,_,_=>trivial
 |n+1,t,v,K=>by
  unfold Instr.checkKey
  refine Zh (fun _=>ZX) fun u K=>?_
  split
  ·refine Zh (fun _=>YS) fun i K=>?_
   dsimp only
   split
   ·have hs:∀(t:TypeId) (K:Nat→Prop),Zt P K (typeStr t):=fun t K=>by
     unfold typeStr
     exact mtA
    split
    ·exact Zh (fun _=>ZR) fun _ K=>Zh (fun K=>hs _ K) fun _ K=>Zh (fun _=>ZR) fun _ K=>mild_checkKey n _ _ _
    ·exact Zh (fun K=>hs _ K) fun _ K=>Zh (fun _=>ZR) fun _ K=>mild_checkKey n _ _ _
   ·exact mild_checkKey n _ _ _
  ·refine Zh (fun K=>Zbk (fun i s K=>?_) _ _ K) fun _ _=>trivial
   exact Zh (fun _=>Q6) fun _ _=>Zh (fun _=>XU) fun _ _=>Zh (fun K=>mild_checkKey n _ _ K) fun _ _=>trivial
  ·refine Zh (fun K=>Zbm (fun i s K=>?_) _ _ K) fun _ _=>trivial
   split
   ·exact Zh (fun _=>XU) fun _ _=>Zh (fun K=>mild_checkKey n _ _ K) fun _ _=>trivial
   ·trivial
  all_goals trivial
theorem Za1 {t:TypeId} {k:Value} (hk:Zb8 k):∀(es:List MapEntry) (i:Nat) (K:Nat→Prop),Zt P K (Instr.findAsking t k es i)
 |[],_,_=>trivial
 |e::es,i,K=>Zh (fun _=>Jv hk) fun b K=>by
  split
  ·trivial
  ·exact Za1 hk es _ _
theorem mild_findKey {t:TypeId} {k:Value} {es:List MapEntry} (hk:Zb8 k):Zt P K (Instr.findKey t k es):=Zh (fun _=>ZX) fun u K=>by
 split
 ·trivial
 ·exact Za1 hk _ _ _
theorem Ziu {t:TypeId} {x k:Value} {ok:Bool} (hk:Zb8 k):Zt P K (Instr.lookup t x k ok):=Zh (fun _=>ZX) fun u K=>by
 split
 ·rename_i key elem
  have tail:∀(es:Array MapEntry) (K:Nat→Prop),Zt P K (do
    Instr.checkKey es.isEmpty 10000 key k
    let (v,ok')←match←Instr.findKey key k es.toList with
     |some (_,v)=>pure (v,true)
     |none=>pure (←zeroValue elem,false)
    pure (if ok then .tuple #[v,.bool ok']else v):Sem Value):=fun es K=>by
   exact mtA
  cases x with
  |map r=>
   cases r with
   |none=>exact Zh (fun _=>Zl) fun es K=>tail es K
   |some r=>exact Q7 (fun o ho=>by
     cases o with
     |map es c=>exact Zh (fun _=>Zl) fun es K=>tail es K
     |_=>exact Zh (fun _=>Z3) fun es K=>tail es K) (fun o ho=>by cases o<;>first|exact Qi.bind_left ZaR|(cases ho;done))
  |_=>exact Zh (fun _=>Z3) fun es K=>tail es K
 ·trivial
theorem ZcP {a b:Value}:Zt P K (Instr.keyThatStays a b):=by
 unfold Instr.keyThatStays
 split
 ·trivial
 ·exact Zh (fun _=>JL) fun _ _=>trivial
theorem Zff {t:TypeId} {m k v:Value} (hk:Zb8 k):Zt P K (Instr.mapUpdate t m k v):=Zh (fun _=>ZX) fun u K=>by
 split
 ·split
  ·exact ZR
  ·refine Q7 (fun o ho=>?_) (fun o ho=>by cases o<;>first|exact ZaR|(cases ho;done))
   split
   ·refine Z9.bind (mild_checkKey _ _ _ _) fun _ K' _ hK=>Z9.bind (mild_findKey hk) fun r K'' _ hK'=>?_
    have hr:∀x,x=_→K'' x:=fun x hx=>hK' _ (hK _ (.inr hx))
    split
    ·exact Z9.bind ZcP fun _ K3 _ hK3=>Xs (hK3 _ (hr _ rfl)) rfl
    ·exact Xs (hr _ rfl) rfl
   ·trivial
  ·trivial
 ·trivial
theorem mild_firstCells {s n:Nat} {v:Value}:Zt P K (Builtin.firstCells s n v):=by
 unfold Builtin.firstCells
 split
 ·exact Ju
 all_goals trivial
theorem mild_lenOf {v:Value}:Zt P K (Builtin.lenOf v):=by
 unfold Builtin.lenOf
 split<;>trivial
theorem ZlD {ts:Array TypeId} {t:TypeId} {vs:Array Value}:Zt P K (Builtin.copy_ ts t vs):=by
 unfold Builtin.copy_
 exact mtA
theorem ZjN {ts:Array TypeId} {t:TypeId} {x:Value} (h:∀r,x≠ .map (some r)):Zt P K (Builtin.clear_ ts t #[x]):=by
 unfold Builtin.clear_
 dsimp only
 split
 ·rename_i t' x' hx
  have:x'=x:=by simp at hx;exact hx.2.symm
  subst this
  refine Zh (fun _=>ZX) fun u K=>?_
  cases x' with
  |map r=>
   cases r with
   |none=>trivial
   |some r=>exact absurd rfl (h r)
  |_=>
   split<;>first
    |exact Zh (fun _=>Zl) fun _ _=>Zl
    |exact Zh (fun _=>Z3) fun _ _=>Zl
    |exact Zh (fun _=>Js) fun _ _=>Zh (fun _=>Yg) fun _ _=>Zl
    |(rename_i h;cases h;done)
 ·trivial
set_option maxHeartbeats 4000000 in
theorem Ziw {ts:Array TypeId} {t:TypeId} {vs:Array Value}:Zt P K (Builtin.append_ ts t vs):=by
 unfold Builtin.append_
 have hd:∀(s:Sem Bool) (u:Unsupported) (K:Nat→Prop),Zt P K (s>>=fun b=>if(!b)=true then(mark .noRoom>>=fun _=>unsupported u)else unsupported u:Sem Unit):=fun s u K=>
  .of_dies (Qi.bind_right (fun b=>by split<;>exact(trivial:Qi P (unsupported _))) s) K
 exact mtA
end
end Go.Proofs.YtjgpiclllehgmaaGreat.Conc1
