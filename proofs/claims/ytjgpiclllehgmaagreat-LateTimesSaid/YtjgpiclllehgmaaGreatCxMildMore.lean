/- Lemmas. -/
import Derived.Test.YtjgpiclllehgmaaGreatCxMildOps
set_option linter.all false
open Go.Instr renaming checkKey->cW,findKey->dN
namespace Go.Proofs.YtjgpiclllehgmaaGreat
namespace Conc1
open Go
section
variable {P:Program} {α β σ:Type} {K:Nat->Prop}
theorem Zb5 {f:α->σ->Sem (ForInStep σ)} (h:∀a s K,Zv P K (f a s)):∀(l:List α) (s:σ) (K:Nat->Prop),Zv P K (forIn l s f)
 |[],s,K=>by rw[List.forIn_nil];trivial
 |a::l,s,K=>by
  rw[List.forIn_cons];exact Zg (h a s) fun r K=>by
   cases r with
   |done b=>trivial
   |yield b=>exact Zb5 h l b K
theorem Zb6 {f:α->σ->Sem (ForInStep σ)} (h:∀a s K,Zv P K (f a s)) (l:Array α) (s:σ) (K:Nat->Prop):Zv P K (forIn l s f):=by
 rw[<-Array.forIn_toList];exact Zb5 h _ _ _
theorem Zb4 {f:Nat->σ->Sem (ForInStep σ)} (h:∀a s K,Zv P K (f a s)) (n:Nat) (s:σ) (K:Nat->Prop):Zv P K (forIn [0:n] s f):=by
 rw[Std.Legacy.Range.forIn_eq_forIn_range'];exact Zb5 h _ _ _
def Zh5:Value->Prop
 |.bool _|.int .. |.string _=>True
 |_=>False
def ZcR:Value->Prop
 |.bool _|.int .. |.string _=>True
 |.agg cs=>∀(i:Nat) (c:Value),cs[i]? =some c->Zh5 c
 |_=>False
theorem Zh5.scal {v:Value} (h:Zh5 v):ZcR v:=by
 unfold Zh5 at h;split at h<;>first|trivial|exact False.elim h
theorem Zgn {t:TypeId} {cs:Array Value} {o:Nat} (h:∀(i:Nat) (c:Value),cs[i]? =some c->Zh5 c):Qc P ZcR K (part t cs o):=Zb8 (fun _=>Zbm) fun b K _=>by
 split
 ·refine Zb8 (fun _=>Xi) fun n K _=>?_;intro i c hc;rw[Array.getElem?_extract]at hc;split at hc
  ·exact h _ _ hc
  cases hc
 split
 ·rename_i v hv;exact(h _ _ hv).scal
 trivial
theorem Zbo:∀(d:Nat) (t:TypeId) (x y:Value) (K:Nat->Prop),ZcR x->Zv P K (Op.equalIn d t x y)
 |0,_,_,_,_,_=>trivial
 |d+1,t,x,y,K,hx=>by
  unfold Op.equalIn;refine Zg (fun _=>ZZ) fun u K=>?_;split;all_goals first|exact(trivial:Zv P _ (pure _))|exact False.elim hx|exact(trivial:Zv P _ (stuck _))|(split<;>first|exact(trivial:Zv P _ (pure _))|exact(trivial:Zv P _ (stuck _)))|skip
  ·rename_i fields xs ys
   have key:∀K,Zv P K (do
     for f in fields do
      if f.name≠ "_" then
       if !(<-Op.equalIn d f.type (<-part f.type xs f.offset) (<-part f.type ys f.offset))then return false
     pure true:Sem Bool):=fun K=>by
    refine Zg (fun K=>Zb6 (fun f s K=>?_) _ _ K) fun r K=>?_
    ·split
     ·refine Xr (fun _=>Zgn hx) fun a K ha=>Zg (fun _=>Yf) fun b K=>Zg (fun K=>Zbo d _ _ _ K ha) fun e K=>?_;split<;>trivial
     trivial
    dsimp only;split<;>trivial
   refine Zg (fun _=>JJ) fun p K=>?_;dsimp only;split
   ·exact Zg (fun _=>Q6) fun _ K=>key K
   exact key K
  refine Zg (fun _=>Xi) fun n K=>Zg (fun K=>Zb4 (fun f s K=>?_) _ _ K) fun r K=>?_
  ·refine Xr (fun _=>Zgn hx) fun a K ha=>Zg (fun _=>Yf) fun b K=>Zg (fun K=>Zbo d _ _ _ K ha) fun e K=>?_;split<;>trivial
  dsimp only;split<;>trivial
end
section
variable {P:Program} {α β σ:Type} {K:Nat->Prop}
theorem J0 {t:TypeId} {x y:Value} (hx:ZcR x):Zv P K (Op.equal t x y):=Zbo _ _ _ _ _ hx
theorem mild_checkKey {e:Bool}:∀(n:Nat) (t:TypeId) (v:Value) (K:Nat->Prop),Zv P K (cW e n t v)
 |0,_,_,_=>trivial
 |n+1,t,v,K=>by
  unfold cW;refine Zg (fun _=>ZZ) fun u K=>?_;split
  ·refine Zg (fun _=>Ji) fun i K=>?_;dsimp only;split
   ·have hs:∀(t:TypeId) (K:Nat->Prop),Zv P K (typeStr t):=fun t K=>by
     unfold typeStr;exact mtA
    split
    ·exact Zg (fun _=>ZW) fun _ K=>Zg (fun K=>hs _ K) fun _ K=>Zg (fun _=>ZW) fun _ K=>mild_checkKey n _ _ _
    exact Zg (fun K=>hs _ K) fun _ K=>Zg (fun _=>ZW) fun _ K=>mild_checkKey n _ _ _
   exact mild_checkKey n _ _ _
  ·refine Zg (fun K=>Zb4 (fun i s K=>?_) _ _ K) fun _ _=>trivial;exact Zg (fun _=>Xi) fun _ _=>Zg (fun _=>Yf) fun _ _=>Zg (fun K=>mild_checkKey n _ _ K) fun _ _=>trivial
  ·refine Zg (fun K=>Zb6 (fun i s K=>?_) _ _ K) fun _ _=>trivial;split
   ·exact Zg (fun _=>Yf) fun _ _=>Zg (fun K=>mild_checkKey n _ _ K) fun _ _=>trivial
   trivial
  all_goals trivial
theorem ZbH {t:TypeId} {k:Value} (hk:ZcR k):∀(es:List MapEntry) (i:Nat) (K:Nat->Prop),Zv P K (Instr.findAsking t k es i)
 |[],_,_=>trivial
 |e::es,i,K=>Zg (fun _=>J0 hk) fun b K=>by
  split
  ·trivial
  exact ZbH hk es _ _
theorem mild_findKey {t:TypeId} {k:Value} {es:List MapEntry} (hk:ZcR k):Zv P K (dN t k es):=Zg (fun _=>ZZ) fun u K=>by
 split
 ·trivial
 exact ZbH hk _ _ _
theorem ZjJ {t:TypeId} {x k:Value} {ok:Bool} (hk:ZcR k):Zv P K (Instr.lookup t x k ok):=Zg (fun _=>ZZ) fun u K=>by
 split
 ·rename_i key elem
  have tail:∀(es:Array MapEntry) (K:Nat->Prop),Zv P K (do
    cW es.isEmpty 10000 key k
    let (v,ok')<-match<-dN key k es.toList with
     |some (_,v)=>pure (v,true)
     |none=>pure (<-zeroValue elem,false)
    pure (if ok then .tuple #[v,.bool ok']else v):Sem Value):=fun es K=>by
   exact mtA
  cases x with
  |map r=>
   cases r with
   |none=>exact Zg (fun _=>Zn) fun es K=>tail es K
   |some r=>exact Xj (fun o ho=>by
     cases o with
     |map es c=>exact Zg (fun _=>Zn) fun es K=>tail es K
     |_=>exact Zg (fun _=>Z8) fun es K=>tail es K) (fun o ho=>by cases o<;>first|exact Qn.bind_left ZbA|(cases ho;done))
  |_=>exact Zg (fun _=>Z8) fun es K=>tail es K
 trivial
theorem ZdE {a b:Value}:Zv P K (Instr.keyThatStays a b):=by
 unfold Instr.keyThatStays;split
 ·trivial
 exact Zg (fun _=>Zah) fun _ _=>trivial
theorem Zgi {t:TypeId} {m k v:Value} (hk:ZcR k):Zv P K (Instr.mapUpdate t m k v):=Zg (fun _=>ZZ) fun u K=>by
 split
 ·split
  ·exact ZW
  ·refine Xj (fun o ho=>?_) (fun o ho=>by cases o<;>first|exact ZbA|(cases ho;done));split
   ·refine Qc.bind (mild_checkKey _ _ _ _) fun _ K' _ hK=>Qc.bind (mild_findKey hk) fun r K'' _ hK'=>?_;have hr:∀x,x=_->K'' x:=fun x hx=>hK' _ (hK _ (.inr hx));split
    ·exact Qc.bind ZdE fun _ K3 _ hK3=>XD (hK3 _ (hr _ rfl)) rfl
    exact XD (hr _ rfl) rfl
   trivial
  trivial
 trivial
theorem mild_firstCells {s n:Nat} {v:Value}:Zv P K (Builtin.firstCells s n v):=by
 unfold Builtin.firstCells;split
 ·exact JZ
 all_goals trivial
theorem mild_lenOf {v:Value}:Zv P K (Builtin.lenOf v):=by
 unfold Builtin.lenOf;split<;>trivial
theorem Zns {ts:Array TypeId} {t:TypeId} {vs:Array Value}:Zv P K (Builtin.copy_ ts t vs):=by
 unfold Builtin.copy_;exact mtA
theorem Zlk {ts:Array TypeId} {t:TypeId} {x:Value} (h:∀r,x≠ .map (some r)):Zv P K (Builtin.clear_ ts t #[x]):=by
 unfold Builtin.clear_;dsimp only;split
 ·rename_i t' x' hx;have:x'=x:=by simp at hx;exact hx.2.symm
  subst this;refine Zg (fun _=>ZZ) fun u K=>?_;cases x' with
  |map r=>
   cases r with
   |none=>trivial
   |some r=>exact absurd rfl (h r)
  |_=>
   split<;>first
    |exact Zg (fun _=>Zn) fun _ _=>Zn
    |exact Zg (fun _=>Z8) fun _ _=>Zn
    |exact Zg (fun _=>JX) fun _ _=>Zg (fun _=>YD) fun _ _=>Zn
    |(rename_i h;cases h;done)
 trivial
set_option maxHeartbeats 4000000 in
theorem ZjL {ts:Array TypeId} {t:TypeId} {vs:Array Value}:Zv P K (Builtin.append_ ts t vs):=by
 unfold Builtin.append_;have hd:∀(s:Sem Bool) (u:Unsupported) (K:Nat->Prop),Zv P K (s>>=fun b=>if(!b)=true then(mark .noRoom>>=fun _=>unsupported u)else unsupported u:Sem Unit):=fun s u K=>
  .of_dies (Qn.bind_right (fun b=>by split<;>exact(trivial:Qn P (unsupported _))) s) K
 exact mtA
end
end Conc1
end Go.Proofs.YtjgpiclllehgmaaGreat
