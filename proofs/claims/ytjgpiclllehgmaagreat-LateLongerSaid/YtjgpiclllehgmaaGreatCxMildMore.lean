/- Goroutines: steps in canonical order. -/
import Derived.Test.YtjgpiclllehgmaaGreatCxMildOps
set_option linter.unusedSimpArgs false
set_option linter.unusedVariables false
namespace Go.Proofs.YtjgpiclllehgmaaGreat.Conc1
open Go
section
variable {P:Program} {α β σ:Type} {K:Nat→Prop}
theorem Zbw {f:α→σ→Sem (ForInStep σ)} (h:∀a s K,Zw P K (f a s)):∀(l:List α) (s:σ) (K:Nat→Prop),Zw P K (forIn l s f)
 |[],s,K=>by rw[List.forIn_nil];trivial
 |a::l,s,K=>by
  rw[List.forIn_cons]
  exact Zg (h a s) fun r K=>by
   cases r with
   |done b=>trivial
   |yield b=>exact Zbw h l b K
theorem Zbx {f:α→σ→Sem (ForInStep σ)} (h:∀a s K,Zw P K (f a s)) (l:Array α) (s:σ) (K:Nat→Prop):Zw P K (forIn l s f):=by
 rw[←Array.forIn_toList]
 exact Zbw h _ _ _
theorem Zbv {f:Nat→σ→Sem (ForInStep σ)} (h:∀a s K,Zw P K (f a s)) (n:Nat) (s:σ) (K:Nat→Prop):Zw P K (forIn [0:n] s f):=by
 rw[Std.Legacy.Range.forIn_eq_forIn_range']
 exact Zbw h _ _ _
def Zhb:Value→Prop
 |.bool _|.int .. |.string _=>True
 |_=>False
def Zci:Value→Prop
 |.bool _|.int .. |.string _=>True
 |.agg cs=>∀(i:Nat) (c:Value),cs[i]? =some c→Zhb c
 |_=>False
theorem Zhb.scal {v:Value} (h:Zhb v):Zci v:=by
 unfold Zhb at h
 split at h<;>first|trivial|exact False.elim h
theorem Zfu {t:TypeId} {cs:Array Value} {o:Nat} (h:∀(i:Nat) (c:Value),cs[i]? =some c→Zhb c):Qc P Zci K (part t cs o):=Zbz (fun _=>ZaP) fun b K _=>by
 split
 ·refine Zbz (fun _=>Q8) fun n K _=>?_
  intro i c hc
  rw[Array.getElem?_extract]at hc
  split at hc
  ·exact h _ _ hc
  ·cases hc
 ·split
  ·rename_i v hv
   exact(h _ _ hv).scal
  ·trivial
theorem ZaR:∀(d:Nat) (t:TypeId) (x y:Value) (K:Nat→Prop),Zci x→Zw P K (Op.equalIn d t x y)
 |0,_,_,_,_,_=>trivial
 |d+1,t,x,y,K,hx=>by
  unfold Op.equalIn
  refine Zg (fun _=>ZZ) fun u K=>?_
  split
  all_goals first|exact(trivial:Zw P _ (pure _))|exact False.elim hx|exact(trivial:Zw P _ (stuck _))|(split<;>first|exact(trivial:Zw P _ (pure _))|exact(trivial:Zw P _ (stuck _)))|skip
  ·rename_i fields xs ys
   have key:∀K,Zw P K (do
     for f in fields do
      if f.name≠ "_" then
       if !(←Op.equalIn d f.type (←part f.type xs f.offset) (←part f.type ys f.offset))then return false
     pure true:Sem Bool):=fun K=>by
    refine Zg (fun K=>Zbx (fun f s K=>?_) _ _ K) fun r K=>?_
    ·split
     ·refine Xe (fun _=>Zfu hx) fun a K ha=>Zg (fun _=>XN) fun b K=>Zg (fun K=>ZaR d _ _ _ K ha) fun e K=>?_
      split<;>trivial
     ·trivial
    ·dsimp only
     split<;>trivial
   refine Zg (fun _=>Jo) fun p K=>?_
   dsimp only
   split
   ·exact Zg (fun _=>QX) fun _ K=>key K
   ·exact key K
  ·refine Zg (fun _=>Q8) fun n K=>Zg (fun K=>Zbv (fun f s K=>?_) _ _ K) fun r K=>?_
   ·refine Xe (fun _=>Zfu hx) fun a K ha=>Zg (fun _=>XN) fun b K=>Zg (fun K=>ZaR d _ _ _ K ha) fun e K=>?_
    split<;>trivial
   ·dsimp only
    split<;>trivial
end
section
variable {P:Program} {α β σ:Type} {K:Nat→Prop}
theorem JC {t:TypeId} {x y:Value} (hx:Zci x):Zw P K (Op.equal t x y):=ZaR _ _ _ _ _ hx
theorem mild_checkKey {e:Bool}:∀(n:Nat) (t:TypeId) (v:Value) (K:Nat→Prop),Zw P K (Instr.checkKey e n t v)
 |0,_,_,_=>trivial
 |n+1,t,v,K=>by
  unfold Instr.checkKey
  refine Zg (fun _=>ZZ) fun u K=>?_
  split
  ·refine Zg (fun _=>YX) fun i K=>?_
   dsimp only
   split
   ·have hs:∀(t:TypeId) (K:Nat→Prop),Zw P K (typeStr t):=fun t K=>by
     unfold typeStr
     exact mtA
    split
    ·exact Zg (fun _=>ZW) fun _ K=>Zg (fun K=>hs _ K) fun _ K=>Zg (fun _=>ZW) fun _ K=>mild_checkKey n _ _ _
    ·exact Zg (fun K=>hs _ K) fun _ K=>Zg (fun _=>ZW) fun _ K=>mild_checkKey n _ _ _
   ·exact mild_checkKey n _ _ _
  ·refine Zg (fun K=>Zbv (fun i s K=>?_) _ _ K) fun _ _=>trivial
   exact Zg (fun _=>Q8) fun _ _=>Zg (fun _=>XN) fun _ _=>Zg (fun K=>mild_checkKey n _ _ K) fun _ _=>trivial
  ·refine Zg (fun K=>Zbx (fun i s K=>?_) _ _ K) fun _ _=>trivial
   split
   ·exact Zg (fun _=>XN) fun _ _=>Zg (fun K=>mild_checkKey n _ _ K) fun _ _=>trivial
   ·trivial
  all_goals trivial
theorem Zba {t:TypeId} {k:Value} (hk:Zci k):∀(es:List MapEntry) (i:Nat) (K:Nat→Prop),Zw P K (Instr.findAsking t k es i)
 |[],_,_=>trivial
 |e::es,i,K=>Zg (fun _=>JC hk) fun b K=>by
  split
  ·trivial
  ·exact Zba hk es _ _
theorem mild_findKey {t:TypeId} {k:Value} {es:List MapEntry} (hk:Zci k):Zw P K (Instr.findKey t k es):=Zg (fun _=>ZZ) fun u K=>by
 split
 ·trivial
 ·exact Zba hk _ _ _
theorem ZiI {t:TypeId} {x k:Value} {ok:Bool} (hk:Zci k):Zw P K (Instr.lookup t x k ok):=Zg (fun _=>ZZ) fun u K=>by
 split
 ·rename_i key elem
  have tail:∀(es:Array MapEntry) (K:Nat→Prop),Zw P K (do
    Instr.checkKey es.isEmpty 10000 key k
    let (v,ok')←match←Instr.findKey key k es.toList with
     |some (_,v)=>pure (v,true)
     |none=>pure (←zeroValue elem,false)
    pure (if ok then .tuple #[v,.bool ok']else v):Sem Value):=fun es K=>by
   exact mtA
  cases x with
  |map r=>
   cases r with
   |none=>exact Zg (fun _=>Zp) fun es K=>tail es K
   |some r=>exact Q9 (fun o ho=>by
     cases o with
     |map es c=>exact Zg (fun _=>Zp) fun es K=>tail es K
     |_=>exact Zg (fun _=>Z6) fun es K=>tail es K) (fun o ho=>by cases o<;>first|exact Qm.bind_left Za1|(cases ho;done))
  |_=>exact Zg (fun _=>Z6) fun es K=>tail es K
 ·trivial
theorem ZcY {a b:Value}:Zw P K (Instr.keyThatStays a b):=by
 unfold Instr.keyThatStays
 split
 ·trivial
 ·exact Zg (fun _=>JT) fun _ _=>trivial
theorem Zfp {t:TypeId} {m k v:Value} (hk:Zci k):Zw P K (Instr.mapUpdate t m k v):=Zg (fun _=>ZZ) fun u K=>by
 split
 ·split
  ·exact ZW
  ·refine Q9 (fun o ho=>?_) (fun o ho=>by cases o<;>first|exact Za1|(cases ho;done))
   split
   ·refine Qc.bind (mild_checkKey _ _ _ _) fun _ K' _ hK=>Qc.bind (mild_findKey hk) fun r K'' _ hK'=>?_
    have hr:∀x,x=_→K'' x:=fun x hx=>hK' _ (hK _ (.inr hx))
    split
    ·exact Qc.bind ZcY fun _ K3 _ hK3=>Xr (hK3 _ (hr _ rfl)) rfl
    ·exact Xr (hr _ rfl) rfl
   ·trivial
  ·trivial
 ·trivial
theorem mild_firstCells {s n:Nat} {v:Value}:Zw P K (Builtin.firstCells s n v):=by
 unfold Builtin.firstCells
 split
 ·exact JB
 all_goals trivial
theorem mild_lenOf {v:Value}:Zw P K (Builtin.lenOf v):=by
 unfold Builtin.lenOf
 split<;>trivial
theorem Zmb {ts:Array TypeId} {t:TypeId} {vs:Array Value}:Zw P K (Builtin.copy_ ts t vs):=by
 unfold Builtin.copy_
 exact mtA
theorem Zkd {ts:Array TypeId} {t:TypeId} {x:Value} (h:∀r,x≠ .map (some r)):Zw P K (Builtin.clear_ ts t #[x]):=by
 unfold Builtin.clear_
 dsimp only
 split
 ·rename_i t' x' hx
  have:x'=x:=by simp at hx;exact hx.2.symm
  subst this
  refine Zg (fun _=>ZZ) fun u K=>?_
  cases x' with
  |map r=>
   cases r with
   |none=>trivial
   |some r=>exact absurd rfl (h r)
  |_=>
   split<;>first
    |exact Zg (fun _=>Zp) fun _ _=>Zp
    |exact Zg (fun _=>Z6) fun _ _=>Zp
    |exact Zg (fun _=>Jz) fun _ _=>Zg (fun _=>Yf) fun _ _=>Zp
    |(rename_i h;cases h;done)
 ·trivial
set_option maxHeartbeats 4000000 in
theorem ZiK {ts:Array TypeId} {t:TypeId} {vs:Array Value}:Zw P K (Builtin.append_ ts t vs):=by
 unfold Builtin.append_
 have hd:∀(s:Sem Bool) (u:Unsupported) (K:Nat→Prop),Zw P K (s>>=fun b=>if(!b)=true then(mark .noRoom>>=fun _=>unsupported u)else unsupported u:Sem Unit):=fun s u K=>
  .of_dies (Qm.bind_right (fun b=>by split<;>exact(trivial:Qm P (unsupported _))) s) K
 exact mtA
end
end Go.Proofs.YtjgpiclllehgmaaGreat.Conc1
