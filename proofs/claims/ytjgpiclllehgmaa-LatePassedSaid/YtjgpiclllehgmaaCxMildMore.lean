/- Goroutines: steps in canonical order. -/
import Derived.Test.YtjgpiclllehgmaaCxMildOps
set_option linter.unusedSimpArgs false
set_option linter.unusedVariables false
namespace Go.Proofs.Ytjgpiclllehgmaa.Conc1
open Go
section
variable {P:Program} {α β σ:Type} {K:Nat→Prop}
theorem Zfr {f:α→σ→Sem (ForInStep σ)} (h:∀a s K,ZaF P K (f a s)):∀(l:List α) (s:σ) (K:Nat→Prop),ZaF P K (forIn l s f)
 |[],s,K=>by rw[List.forIn_nil];trivial
 |a::l,s,K=>by
  rw[List.forIn_cons]
  exact Zab (h a s) fun r K=>by
   cases r with
   |done b=>trivial
   |yield b=>exact Zfr h l b K
theorem Zfs {f:α→σ→Sem (ForInStep σ)} (h:∀a s K,ZaF P K (f a s)) (l:Array α) (s:σ) (K:Nat→Prop):ZaF P K (forIn l s f):=by
 rw[←Array.forIn_toList]
 exact Zfr h _ _ _
theorem Zfq {f:Nat→σ→Sem (ForInStep σ)} (h:∀a s K,ZaF P K (f a s)) (n:Nat) (s:σ) (K:Nat→Prop):ZaF P K (forIn [0:n] s f):=by
 rw[Std.Legacy.Range.forIn_eq_forIn_range']
 exact Zfr h _ _ _
def ZnY:Value→Prop
 |.bool _|.int .. |.string _=>True
 |_=>False
def Zle:Value→Prop
 |.bool _|.int .. |.string _=>True
 |.agg cs=>∀(i:Nat) (c:Value),cs[i]? =some c→ZnY c
 |_=>False
theorem ZnY.scal {v:Value} (h:ZnY v):Zle v:=by
 unfold ZnY at h
 split at h<;>first|trivial|exact False.elim h
theorem ZiN {t:TypeId} {cs:Array Value} {o:Nat} (h:∀(i:Nat) (c:Value),cs[i]? =some c→ZnY c):Zba P Zle K (part t cs o):=Zft (fun _=>ZeV) fun b K _=>by
 split
 ·refine Zft (fun _=>Zbw) fun n K _=>?_
  intro i c hc
  rw[Array.getElem?_extract]at hc
  split at hc
  ·exact h _ _ hc
  ·cases hc
 ·split
  ·rename_i v hv
   exact(h _ _ hv).scal
  ·trivial
theorem Zev:∀(d:Nat) (t:TypeId) (x y:Value) (K:Nat→Prop),Zle x→ZaF P K (Op.equalIn d t x y)
 |0,_,_,_,_,_=>trivial
 |d+1,t,x,y,K,hx=>by
  unfold Op.equalIn
  refine Zab (fun _=>ZaD) fun u K=>?_
  split
  all_goals first|exact(trivial:ZaF P _ (pure _))|exact False.elim hx|exact(trivial:ZaF P _ (stuck _))|(split<;>first|exact(trivial:ZaF P _ (pure _))|exact(trivial:ZaF P _ (stuck _)))|skip
  ·rename_i fields xs ys
   have key:∀K,ZaF P K (do
     for f in fields do
      if f.name≠ "_" then
       if !(←Op.equalIn d f.type (←part f.type xs f.offset) (←part f.type ys f.offset))then return false
     pure true:Sem Bool):=fun K=>by
    refine Zab (fun K=>Zfs (fun f s K=>?_) _ _ K) fun r K=>?_
    ·split
     ·refine ZbG (fun _=>ZiN hx) fun a K ha=>Zab (fun _=>Zcn) fun b K=>Zab (fun K=>Zev d _ _ _ K ha) fun e K=>?_
      split<;>trivial
     ·trivial
    ·dsimp only
     split<;>trivial
   refine Zab (fun _=>Zdt) fun p K=>?_
   dsimp only
   split
   ·exact Zab (fun _=>Zbj) fun _ K=>key K
   ·exact key K
  ·refine Zab (fun _=>Zbw) fun n K=>Zab (fun K=>Zfq (fun f s K=>?_) _ _ K) fun r K=>?_
   ·refine ZbG (fun _=>ZiN hx) fun a K ha=>Zab (fun _=>Zcn) fun b K=>Zab (fun K=>Zev d _ _ _ K ha) fun e K=>?_
    split<;>trivial
   ·dsimp only
    split<;>trivial
end
section
variable {P:Program} {α β σ:Type} {K:Nat→Prop}
theorem ZdN {t:TypeId} {x y:Value} (hx:Zle x):ZaF P K (Op.equal t x y):=Zev _ _ _ _ _ hx
theorem mild_checkKey {e:Bool}:∀(n:Nat) (t:TypeId) (v:Value) (K:Nat→Prop),ZaF P K (Instr.checkKey e n t v)
 |0,_,_,_=>trivial
 |n+1,t,v,K=>by
  unfold Instr.checkKey
  refine Zab (fun _=>ZaD) fun u K=>?_
  split
  ·refine Zab (fun _=>Zc0) fun i K=>?_
   dsimp only
   split
   ·have hs:∀(t:TypeId) (K:Nat→Prop),ZaF P K (typeStr t):=fun t K=>by
     unfold typeStr
     exact mtA
    split
    ·exact Zab (fun _=>ZaB) fun _ K=>Zab (fun K=>hs _ K) fun _ K=>Zab (fun _=>ZaB) fun _ K=>mild_checkKey n _ _ _
    ·exact Zab (fun K=>hs _ K) fun _ K=>Zab (fun _=>ZaB) fun _ K=>mild_checkKey n _ _ _
   ·exact mild_checkKey n _ _ _
  ·refine Zab (fun K=>Zfq (fun i s K=>?_) _ _ K) fun _ _=>trivial
   exact Zab (fun _=>Zbw) fun _ _=>Zab (fun _=>Zcn) fun _ _=>Zab (fun K=>mild_checkKey n _ _ K) fun _ _=>trivial
  ·refine Zab (fun K=>Zfs (fun i s K=>?_) _ _ K) fun _ _=>trivial
   split
   ·exact Zab (fun _=>Zcn) fun _ _=>Zab (fun K=>mild_checkKey n _ _ K) fun _ _=>trivial
   ·trivial
  all_goals trivial
theorem Zeu {t:TypeId} {k:Value} (hk:Zle k):∀(es:List MapEntry) (i:Nat) (K:Nat→Prop),ZaF P K (Instr.findAsking t k es i)
 |[],_,_=>trivial
 |e::es,i,K=>Zab (fun _=>ZdN hk) fun b K=>by
  split
  ·trivial
  ·exact Zeu hk es _ _
theorem mild_findKey {t:TypeId} {k:Value} {es:List MapEntry} (hk:Zle k):ZaF P K (Instr.findKey t k es):=Zab (fun _=>ZaD) fun u K=>by
 split
 ·trivial
 ·exact Zeu hk _ _ _
theorem Zlu {t:TypeId} {x k:Value} {ok:Bool} (hk:Zle k):ZaF P K (Instr.lookup t x k ok):=Zab (fun _=>ZaD) fun u K=>by
 split
 ·rename_i key elem
  have tail:∀(es:Array MapEntry) (K:Nat→Prop),ZaF P K (do
    Instr.checkKey es.isEmpty 10000 key k
    let (v,ok')←match←Instr.findKey key k es.toList with
     |some (_,v)=>pure (v,true)
     |none=>pure (←zeroValue elem,false)
    pure (if ok then .tuple #[v,.bool ok']else v):Sem Value):=fun es K=>by
   exact mtA
  cases x with
  |map r=>
   cases r with
   |none=>exact Zab (fun _=>Zaj) fun es K=>tail es K
   |some r=>exact Zbx (fun o ho=>by
     cases o with
     |map es c=>exact Zab (fun _=>Zaj) fun es K=>tail es K
     |_=>exact Zab (fun _=>ZaH) fun es K=>tail es K) (fun o ho=>by cases o<;>first|exact ZbY.bind_left Ze4|(cases ho;done))
  |_=>exact Zab (fun _=>ZaH) fun es K=>tail es K
 ·trivial
theorem Zgo {a b:Value}:ZaF P K (Instr.keyThatStays a b):=by
 unfold Instr.keyThatStays
 split
 ·trivial
 ·exact Zab (fun _=>Zd1) fun _ _=>trivial
theorem Zim {t:TypeId} {m k v:Value} (hk:Zle k):ZaF P K (Instr.mapUpdate t m k v):=Zab (fun _=>ZaD) fun u K=>by
 split
 ·split
  ·exact ZaB
  ·refine Zbx (fun o ho=>?_) (fun o ho=>by cases o<;>first|exact Ze4|(cases ho;done))
   split
   ·refine Zba.bind (mild_checkKey _ _ _ _) fun _ K' _ hK=>Zba.bind (mild_findKey hk) fun r K'' _ hK'=>?_
    have hr:∀x,x=_→K'' x:=fun x hx=>hK' _ (hK _ (.inr hx))
    split
    ·exact Zba.bind Zgo fun _ K3 _ hK3=>ZbP (hK3 _ (hr _ rfl)) rfl
    ·exact ZbP (hr _ rfl) rfl
   ·trivial
  ·trivial
 ·trivial
theorem mild_firstCells {s n:Nat} {v:Value}:ZaF P K (Builtin.firstCells s n v):=by
 unfold Builtin.firstCells
 split
 ·exact ZdE
 all_goals trivial
theorem mild_lenOf {v:Value}:ZaF P K (Builtin.lenOf v):=by
 unfold Builtin.lenOf
 split<;>trivial
theorem ZoY {ts:Array TypeId} {t:TypeId} {vs:Array Value}:ZaF P K (Builtin.copy_ ts t vs):=by
 unfold Builtin.copy_
 exact mtA
theorem Znl {ts:Array TypeId} {t:TypeId} {x:Value} (h:∀r,x≠ .map (some r)):ZaF P K (Builtin.clear_ ts t #[x]):=by
 unfold Builtin.clear_
 dsimp only
 split
 ·rename_i t' x' hx
  have:x'=x:=by simp at hx;exact hx.2.symm
  subst this
  refine Zab (fun _=>ZaD) fun u K=>?_
  cases x' with
  |map r=>
   cases r with
   |none=>trivial
   |some r=>exact absurd rfl (h r)
  |_=>
   split<;>first
    |exact Zab (fun _=>Zaj) fun _ _=>Zaj
    |exact Zab (fun _=>ZaH) fun _ _=>Zaj
    |exact Zab (fun _=>ZdD) fun _ _=>Zab (fun _=>Zcm) fun _ _=>Zaj
    |(rename_i h;cases h;done)
 ·trivial
set_option maxHeartbeats 4000000 in
theorem Zlw {ts:Array TypeId} {t:TypeId} {vs:Array Value}:ZaF P K (Builtin.append_ ts t vs):=by
 unfold Builtin.append_
 have hd:∀(s:Sem Bool) (u:Unsupported) (K:Nat→Prop),ZaF P K (s>>=fun b=>if(!b)=true then(mark .noRoom>>=fun _=>unsupported u)else unsupported u:Sem Unit):=fun s u K=>
  .of_dies (ZbY.bind_right (fun b=>by split<;>exact(trivial:ZbY P (unsupported _))) s) K
 exact mtA
end
end Go.Proofs.Ytjgpiclllehgmaa.Conc1
