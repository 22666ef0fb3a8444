/- Goroutines: steps in canonical order. -/
import Derived.Test.YtjgpiclllehgmaaCxMildOps
set_option linter.unusedSimpArgs false
set_option linter.unusedVariables false
namespace Go.Proofs.Ytjgpiclllehgmaa.Conc1
open Go
section
variable {P:Program} {α β σ:Type} {K:Nat→Prop}
theorem Zbm {f:α→σ→Sem (ForInStep σ)} (h:∀a s K,Zs P K (f a s)):∀(l:List α) (s:σ) (K:Nat→Prop),Zs P K (forIn l s f)
 |[],s,K=>by rw[List.forIn_nil];trivial
 |a::l,s,K=>by
  rw[List.forIn_cons]
  exact Zf (h a s) fun r K=>by
   cases r with
   |done b=>trivial
   |yield b=>exact Zbm h l b K
theorem Zbn {f:α→σ→Sem (ForInStep σ)} (h:∀a s K,Zs P K (f a s)) (l:Array α) (s:σ) (K:Nat→Prop):Zs P K (forIn l s f):=by
 rw[←Array.forIn_toList]
 exact Zbm h _ _ _
theorem Zbl {f:Nat→σ→Sem (ForInStep σ)} (h:∀a s K,Zs P K (f a s)) (n:Nat) (s:σ) (K:Nat→Prop):Zs P K (forIn [0:n] s f):=by
 rw[Std.Legacy.Range.forIn_eq_forIn_range']
 exact Zbm h _ _ _
def Zg1:Value→Prop
 |.bool _|.int .. |.string _=>True
 |_=>False
def Zb5:Value→Prop
 |.bool _|.int .. |.string _=>True
 |.agg cs=>∀(i:Nat) (c:Value),cs[i]? =some c→Zg1 c
 |_=>False
theorem Zg1.scal {v:Value} (h:Zg1 v):Zb5 v:=by
 unfold Zg1 at h
 split at h<;>first|trivial|exact False.elim h
theorem Zfl {t:TypeId} {cs:Array Value} {o:Nat} (h:∀(i:Nat) (c:Value),cs[i]? =some c→Zg1 c):Qb P Zb5 K (part t cs o):=Zbp (fun _=>ZaI) fun b K _=>by
 split
 ·refine Zbp (fun _=>QZ) fun n K _=>?_
  intro i c hc
  rw[Array.getElem?_extract]at hc
  split at hc
  ·exact h _ _ hc
  ·cases hc
 ·split
  ·rename_i v hv
   exact(h _ _ hv).scal
  ·trivial
theorem ZaK:∀(d:Nat) (t:TypeId) (x y:Value) (K:Nat→Prop),Zb5 x→Zs P K (Op.equalIn d t x y)
 |0,_,_,_,_,_=>trivial
 |d+1,t,x,y,K,hx=>by
  unfold Op.equalIn
  refine Zf (fun _=>ZW) fun u K=>?_
  split
  all_goals first|exact(trivial:Zs P _ (pure _))|exact False.elim hx|exact(trivial:Zs P _ (stuck _))|(split<;>first|exact(trivial:Zs P _ (pure _))|exact(trivial:Zs P _ (stuck _)))|skip
  ·rename_i fields xs ys
   have key:∀K,Zs P K (do
     for f in fields do
      if f.name≠ "_" then
       if !(←Op.equalIn d f.type (←part f.type xs f.offset) (←part f.type ys f.offset))then return false
     pure true:Sem Bool):=fun K=>by
    refine Zf (fun K=>Zbn (fun f s K=>?_) _ _ K) fun r K=>?_
    ·split
     ·refine Q5 (fun _=>Zfl hx) fun a K ha=>Zf (fun _=>XM) fun b K=>Zf (fun K=>ZaK d _ _ _ K ha) fun e K=>?_
      split<;>trivial
     ·trivial
    ·dsimp only
     split<;>trivial
   refine Zf (fun _=>Jk) fun p K=>?_
   dsimp only
   split
   ·exact Zf (fun _=>QN) fun _ K=>key K
   ·exact key K
  ·refine Zf (fun _=>QZ) fun n K=>Zf (fun K=>Zbl (fun f s K=>?_) _ _ K) fun r K=>?_
   ·refine Q5 (fun _=>Zfl hx) fun a K ha=>Zf (fun _=>XM) fun b K=>Zf (fun K=>ZaK d _ _ _ K ha) fun e K=>?_
    split<;>trivial
   ·dsimp only
    split<;>trivial
end
section
variable {P:Program} {α β σ:Type} {K:Nat→Prop}
theorem Jy {t:TypeId} {x y:Value} (hx:Zb5 x):Zs P K (Op.equal t x y):=ZaK _ _ _ _ _ hx
theorem mild_checkKey {e:Bool}:∀(n:Nat) (t:TypeId) (v:Value) (K:Nat→Prop),Zs P K (Instr.checkKey e n t v)
 |0,_,_,_=>trivial
 |n+1,t,v,K=>by
  unfold Instr.checkKey
  refine Zf (fun _=>ZW) fun u K=>?_
  split
  ·refine Zf (fun _=>YV) fun i K=>?_
   dsimp only
   split
   ·have hs:∀(t:TypeId) (K:Nat→Prop),Zs P K (typeStr t):=fun t K=>by
     unfold typeStr
     exact mtA
    split
    ·exact Zf (fun _=>ZR) fun _ K=>Zf (fun K=>hs _ K) fun _ K=>Zf (fun _=>ZR) fun _ K=>mild_checkKey n _ _ _
    ·exact Zf (fun K=>hs _ K) fun _ K=>Zf (fun _=>ZR) fun _ K=>mild_checkKey n _ _ _
   ·exact mild_checkKey n _ _ _
  ·refine Zf (fun K=>Zbl (fun i s K=>?_) _ _ K) fun _ _=>trivial
   exact Zf (fun _=>QZ) fun _ _=>Zf (fun _=>XM) fun _ _=>Zf (fun K=>mild_checkKey n _ _ K) fun _ _=>trivial
  ·refine Zf (fun K=>Zbn (fun i s K=>?_) _ _ K) fun _ _=>trivial
   split
   ·exact Zf (fun _=>XM) fun _ _=>Zf (fun K=>mild_checkKey n _ _ K) fun _ _=>trivial
   ·trivial
  all_goals trivial
theorem Za1 {t:TypeId} {k:Value} (hk:Zb5 k):∀(es:List MapEntry) (i:Nat) (K:Nat→Prop),Zs P K (Instr.findAsking t k es i)
 |[],_,_=>trivial
 |e::es,i,K=>Zf (fun _=>Jy hk) fun b K=>by
  split
  ·trivial
  ·exact Za1 hk es _ _
theorem mild_findKey {t:TypeId} {k:Value} {es:List MapEntry} (hk:Zb5 k):Zs P K (Instr.findKey t k es):=Zf (fun _=>ZW) fun u K=>by
 split
 ·trivial
 ·exact Za1 hk _ _ _
theorem Ziu {t:TypeId} {x k:Value} {ok:Bool} (hk:Zb5 k):Zs P K (Instr.lookup t x k ok):=Zf (fun _=>ZW) fun u K=>by
 split
 ·rename_i key elem
  have tail:∀(es:Array MapEntry) (K:Nat→Prop),Zs P K (do
    Instr.checkKey es.isEmpty 10000 key k
    let (v,ok')←match←Instr.findKey key k es.toList with
     |some (_,v)=>pure (v,true)
     |none=>pure (←zeroValue elem,false)
    pure (if ok then .tuple #[v,.bool ok']else v):Sem Value):=fun es K=>by
   exact mtA
  cases x with
  |map r=>
   cases r with
   |none=>exact Zf (fun _=>Zl) fun es K=>tail es K
   |some r=>exact Q0 (fun o ho=>by
     cases o with
     |map es c=>exact Zf (fun _=>Zl) fun es K=>tail es K
     |_=>exact Zf (fun _=>Z5) fun es K=>tail es K) (fun o ho=>by cases o<;>first|exact Qg.bind_left ZaT|(cases ho;done))
  |_=>exact Zf (fun _=>Z5) fun es K=>tail es K
 ·trivial
theorem ZcN {a b:Value}:Zs P K (Instr.keyThatStays a b):=by
 unfold Instr.keyThatStays
 split
 ·trivial
 ·exact Zf (fun _=>JN) fun _ _=>trivial
theorem Zfg {t:TypeId} {m k v:Value} (hk:Zb5 k):Zs P K (Instr.mapUpdate t m k v):=Zf (fun _=>ZW) fun u K=>by
 split
 ·split
  ·exact ZR
  ·refine Q0 (fun o ho=>?_) (fun o ho=>by cases o<;>first|exact ZaT|(cases ho;done))
   split
   ·refine Qb.bind (mild_checkKey _ _ _ _) fun _ K' _ hK=>Qb.bind (mild_findKey hk) fun r K'' _ hK'=>?_
    have hr:∀x,x=_→K'' x:=fun x hx=>hK' _ (hK _ (.inr hx))
    split
    ·exact Qb.bind ZcN fun _ K3 _ hK3=>Xj (hK3 _ (hr _ rfl)) rfl
    ·exact Xj (hr _ rfl) rfl
   ·trivial
  ·trivial
 ·trivial
theorem mild_firstCells {s n:Nat} {v:Value}:Zs P K (Builtin.firstCells s n v):=by
 unfold Builtin.firstCells
 split
 ·exact Jx
 all_goals trivial
theorem mild_lenOf {v:Value}:Zs P K (Builtin.lenOf v):=by
 unfold Builtin.lenOf
 split<;>trivial
theorem ZlD {ts:Array TypeId} {t:TypeId} {vs:Array Value}:Zs P K (Builtin.copy_ ts t vs):=by
 unfold Builtin.copy_
 exact mtA
theorem ZjQ {ts:Array TypeId} {t:TypeId} {x:Value} (h:∀r,x≠ .map (some r)):Zs P K (Builtin.clear_ ts t #[x]):=by
 unfold Builtin.clear_
 dsimp only
 split
 ·rename_i t' x' hx
  have:x'=x:=by simp at hx;exact hx.2.symm
  subst this
  refine Zf (fun _=>ZW) fun u K=>?_
  cases x' with
  |map r=>
   cases r with
   |none=>trivial
   |some r=>exact absurd rfl (h r)
  |_=>
   split<;>first
    |exact Zf (fun _=>Zl) fun _ _=>Zl
    |exact Zf (fun _=>Z5) fun _ _=>Zl
    |exact Zf (fun _=>Jv) fun _ _=>Zf (fun _=>Yc) fun _ _=>Zl
    |(rename_i h;cases h;done)
 ·trivial
set_option maxHeartbeats 4000000 in
theorem Ziw {ts:Array TypeId} {t:TypeId} {vs:Array Value}:Zs P K (Builtin.append_ ts t vs):=by
 unfold Builtin.append_
 have hd:∀(s:Sem Bool) (u:Unsupported) (K:Nat→Prop),Zs P K (s>>=fun b=>if(!b)=true then(mark .noRoom>>=fun _=>unsupported u)else unsupported u:Sem Unit):=fun s u K=>
  .of_dies (Qg.bind_right (fun b=>by split<;>exact(trivial:Qg P (unsupported _))) s) K
 exact mtA
end
end Go.Proofs.Ytjgpiclllehgmaa.Conc1
