/- Goroutines: steps in canonical order. -/
import Derived.Test.YtjgpiclllehgmaaGreatCxMildOps
set_option linter.unusedSimpArgs false
set_option linter.unusedVariables false
namespace Go.Proofs.YtjgpiclllehgmaaGreat.Conc1
open Go
section
variable {P:Program} {α β σ:Type} {K:Nat→Prop}
theorem Zbl {f:α→σ→Sem (ForInStep σ)} (h:∀a s K,Zv P K (f a s)):∀(l:List α) (s:σ) (K:Nat→Prop),Zv P K (forIn l s f)
 |[],s,K=>by rw[List.forIn_nil];trivial
 |a::l,s,K=>by
  rw[List.forIn_cons]
  exact Zf (h a s) fun r K=>by
   cases r with
   |done b=>trivial
   |yield b=>exact Zbl h l b K
theorem Zbm {f:α→σ→Sem (ForInStep σ)} (h:∀a s K,Zv P K (f a s)) (l:Array α) (s:σ) (K:Nat→Prop):Zv P K (forIn l s f):=by
 rw[←Array.forIn_toList]
 exact Zbl h _ _ _
theorem Zbk {f:Nat→σ→Sem (ForInStep σ)} (h:∀a s K,Zv P K (f a s)) (n:Nat) (s:σ) (K:Nat→Prop):Zv P K (forIn [0:n] s f):=by
 rw[Std.Legacy.Range.forIn_eq_forIn_range']
 exact Zbl h _ _ _
def Zg1:Value→Prop
 |.bool _|.int .. |.string _=>True
 |_=>False
def Zca:Value→Prop
 |.bool _|.int .. |.string _=>True
 |.agg cs=>∀(i:Nat) (c:Value),cs[i]? =some c→Zg1 c
 |_=>False
theorem Zg1.scal {v:Value} (h:Zg1 v):Zca v:=by
 unfold Zg1 at h
 split at h<;>first|trivial|exact False.elim h
theorem Zfm {t:TypeId} {cs:Array Value} {o:Nat} (h:∀(i:Nat) (c:Value),cs[i]? =some c→Zg1 c):Z9 P Zca K (part t cs o):=Zbo (fun _=>ZaF) fun b K _=>by
 split
 ·refine Zbo (fun _=>Q4) fun n K _=>?_
  intro i c hc
  rw[Array.getElem?_extract]at hc
  split at hc
  ·exact h _ _ hc
  ·cases hc
 ·split
  ·rename_i v hv
   exact(h _ _ hv).scal
  ·trivial
theorem ZaH:∀(d:Nat) (t:TypeId) (x y:Value) (K:Nat→Prop),Zca x→Zv P K (Op.equalIn d t x y)
 |0,_,_,_,_,_=>trivial
 |d+1,t,x,y,K,hx=>by
  unfold Op.equalIn
  refine Zf (fun _=>ZV) fun u K=>?_
  split
  all_goals first|exact(trivial:Zv P _ (pure _))|exact False.elim hx|exact(trivial:Zv P _ (stuck _))|(split<;>first|exact(trivial:Zv P _ (pure _))|exact(trivial:Zv P _ (stuck _)))|skip
  ·rename_i fields xs ys
   have key:∀K,Zv P K (do
     for f in fields do
      if f.name≠ "_" then
       if !(←Op.equalIn d f.type (←part f.type xs f.offset) (←part f.type ys f.offset))then return false
     pure true:Sem Bool):=fun K=>by
    refine Zf (fun K=>Zbm (fun f s K=>?_) _ _ K) fun r K=>?_
    ·split
     ·refine Xb (fun _=>Zfm hx) fun a K ha=>Zf (fun _=>XK) fun b K=>Zf (fun K=>ZaH d _ _ _ K ha) fun e K=>?_
      split<;>trivial
     ·trivial
    ·dsimp only
     split<;>trivial
   refine Zf (fun _=>Jh) fun p K=>?_
   dsimp only
   split
   ·exact Zf (fun _=>QQ) fun _ K=>key K
   ·exact key K
  ·refine Zf (fun _=>Q4) fun n K=>Zf (fun K=>Zbk (fun f s K=>?_) _ _ K) fun r K=>?_
   ·refine Xb (fun _=>Zfm hx) fun a K ha=>Zf (fun _=>XK) fun b K=>Zf (fun K=>ZaH d _ _ _ K ha) fun e K=>?_
    split<;>trivial
   ·dsimp only
    split<;>trivial
end
section
variable {P:Program} {α β σ:Type} {K:Nat→Prop}
theorem Ju {t:TypeId} {x y:Value} (hx:Zca x):Zv P K (Op.equal t x y):=ZaH _ _ _ _ _ hx
theorem mild_checkKey {e:Bool}:∀(n:Nat) (t:TypeId) (v:Value) (K:Nat→Prop),Zv P K (Instr.checkKey e n t v)
 |0,_,_,_=>trivial
 |n+1,t,v,K=>by
  unfold Instr.checkKey
  refine Zf (fun _=>ZV) fun u K=>?_
  split
  ·refine Zf (fun _=>YU) fun i K=>?_
   dsimp only
   split
   ·have hs:∀(t:TypeId) (K:Nat→Prop),Zv P K (typeStr t):=fun t K=>by
     unfold typeStr
     exact mtA
    split
    ·exact Zf (fun _=>ZS) fun _ K=>Zf (fun K=>hs _ K) fun _ K=>Zf (fun _=>ZS) fun _ K=>mild_checkKey n _ _ _
    ·exact Zf (fun K=>hs _ K) fun _ K=>Zf (fun _=>ZS) fun _ K=>mild_checkKey n _ _ _
   ·exact mild_checkKey n _ _ _
  ·refine Zf (fun K=>Zbk (fun i s K=>?_) _ _ K) fun _ _=>trivial
   exact Zf (fun _=>Q4) fun _ _=>Zf (fun _=>XK) fun _ _=>Zf (fun K=>mild_checkKey n _ _ K) fun _ _=>trivial
  ·refine Zf (fun K=>Zbm (fun i s K=>?_) _ _ K) fun _ _=>trivial
   split
   ·exact Zf (fun _=>XK) fun _ _=>Zf (fun K=>mild_checkKey n _ _ K) fun _ _=>trivial
   ·trivial
  all_goals trivial
theorem Za1 {t:TypeId} {k:Value} (hk:Zca k):∀(es:List MapEntry) (i:Nat) (K:Nat→Prop),Zv P K (Instr.findAsking t k es i)
 |[],_,_=>trivial
 |e::es,i,K=>Zf (fun _=>Ju hk) fun b K=>by
  split
  ·trivial
  ·exact Za1 hk es _ _
theorem mild_findKey {t:TypeId} {k:Value} {es:List MapEntry} (hk:Zca k):Zv P K (Instr.findKey t k es):=Zf (fun _=>ZV) fun u K=>by
 split
 ·trivial
 ·exact Za1 hk _ _ _
theorem Ziv {t:TypeId} {x k:Value} {ok:Bool} (hk:Zca k):Zv P K (Instr.lookup t x k ok):=Zf (fun _=>ZV) fun u K=>by
 split
 ·rename_i key elem
  have tail:∀(es:Array MapEntry) (K:Nat→Prop),Zv P K (do
    Instr.checkKey es.isEmpty 10000 key k
    let (v,ok')←match←Instr.findKey key k es.toList with
     |some (_,v)=>pure (v,true)
     |none=>pure (←zeroValue elem,false)
    pure (if ok then .tuple #[v,.bool ok']else v):Sem Value):=fun es K=>by
   exact mtA
  cases x with
  |map r=>
   cases r with
   |none=>exact Zf (fun _=>Zn) fun es K=>tail es K
   |some r=>exact Q5 (fun o ho=>by
     cases o with
     |map es c=>exact Zf (fun _=>Zn) fun es K=>tail es K
     |_=>exact Zf (fun _=>Z4) fun es K=>tail es K) (fun o ho=>by cases o<;>first|exact Qg.bind_left ZaS|(cases ho;done))
  |_=>exact Zf (fun _=>Z4) fun es K=>tail es K
 ·trivial
theorem ZcT {a b:Value}:Zv P K (Instr.keyThatStays a b):=by
 unfold Instr.keyThatStays
 split
 ·trivial
 ·exact Zf (fun _=>JK) fun _ _=>trivial
theorem Zfh {t:TypeId} {m k v:Value} (hk:Zca k):Zv P K (Instr.mapUpdate t m k v):=Zf (fun _=>ZV) fun u K=>by
 split
 ·split
  ·exact ZS
  ·refine Q5 (fun o ho=>?_) (fun o ho=>by cases o<;>first|exact ZaS|(cases ho;done))
   split
   ·refine Z9.bind (mild_checkKey _ _ _ _) fun _ K' _ hK=>Z9.bind (mild_findKey hk) fun r K'' _ hK'=>?_
    have hr:∀x,x=_→K'' x:=fun x hx=>hK' _ (hK _ (.inr hx))
    split
    ·exact Z9.bind ZcT fun _ K3 _ hK3=>Xn (hK3 _ (hr _ rfl)) rfl
    ·exact Xn (hr _ rfl) rfl
   ·trivial
  ·trivial
 ·trivial
theorem mild_firstCells {s n:Nat} {v:Value}:Zv P K (Builtin.firstCells s n v):=by
 unfold Builtin.firstCells
 split
 ·exact Jt
 all_goals trivial
theorem mild_lenOf {v:Value}:Zv P K (Builtin.lenOf v):=by
 unfold Builtin.lenOf
 split<;>trivial
theorem ZlO {ts:Array TypeId} {t:TypeId} {vs:Array Value}:Zv P K (Builtin.copy_ ts t vs):=by
 unfold Builtin.copy_
 exact mtA
theorem ZjT {ts:Array TypeId} {t:TypeId} {x:Value} (h:∀r,x≠ .map (some r)):Zv P K (Builtin.clear_ ts t #[x]):=by
 unfold Builtin.clear_
 dsimp only
 split
 ·rename_i t' x' hx
  have:x'=x:=by simp at hx;exact hx.2.symm
  subst this
  refine Zf (fun _=>ZV) fun u K=>?_
  cases x' with
  |map r=>
   cases r with
   |none=>trivial
   |some r=>exact absurd rfl (h r)
  |_=>
   split<;>first
    |exact Zf (fun _=>Zn) fun _ _=>Zn
    |exact Zf (fun _=>Z4) fun _ _=>Zn
    |exact Zf (fun _=>Jr) fun _ _=>Zf (fun _=>Yc) fun _ _=>Zn
    |(rename_i h;cases h;done)
 ·trivial
set_option maxHeartbeats 4000000 in
theorem Zix {ts:Array TypeId} {t:TypeId} {vs:Array Value}:Zv P K (Builtin.append_ ts t vs):=by
 unfold Builtin.append_
 have hd:∀(s:Sem Bool) (u:Unsupported) (K:Nat→Prop),Zv P K (s>>=fun b=>if(!b)=true then(mark .noRoom>>=fun _=>unsupported u)else unsupported u:Sem Unit):=fun s u K=>
  .of_dies (Qg.bind_right (fun b=>by split<;>exact(trivial:Qg P (unsupported _))) s) K
 exact mtA
end
end Go.Proofs.YtjgpiclllehgmaaGreat.Conc1
