/- Lemmas. -/
import Derived.Test.YtjgpiclllehgmaaGreatCxMildOps
set_option linter.all false
open Go.Instr renaming checkKey->dA,findKey->dO
namespace Go.Proofs.YtjgpiclllehgmaaGreat
namespace Conc1
open Go
section
variable {P:Program} {α β σ:Type} {K:Nat->Prop}
theorem Zch {f:α->σ->Sem (ForInStep σ)} (h:∀a s K,Zx P K (f a s)):∀(l:List α) (s:σ) (K:Nat->Prop),Zx P K (forIn l s f)
 |[],s,K=>by rw[List.forIn_nil];trivial
 |a::l,s,K=>by
  rw[List.forIn_cons];exact Zg (h a s) λr K=>by
   cases r with
   |done b=>trivial
   |yield b=>exact Zch h l b K
theorem Zci {f:α->σ->Sem (ForInStep σ)} (h:∀a s K,Zx P K (f a s)) (l:Array α) (s:σ) (K:Nat->Prop):Zx P K (forIn l s f):=by
 rw[<-Array.forIn_toList];exact Zch h _ _ _
theorem Zcg {f:Nat->σ->Sem (ForInStep σ)} (h:∀a s K,Zx P K (f a s)) (n:Nat) (s:σ) (K:Nat->Prop):Zx P K (forIn [0:n] s f):=by
 rw[Std.Legacy.Range.forIn_eq_forIn_range'];exact Zch h _ _ _
def Zit:Value->Prop
 |.bool _|.int .. |.string _=>True
 |_=>False
def Zc6:Value->Prop
 |.bool _|.int .. |.string _=>True
 |.agg cs=>∀(i:Nat) (c:Value),cs[i]? =some c->Zit c
 |_=>False
theorem Zit.scal {v:Value} (h:Zit v):Zc6 v:=by
 unfold Zit at h;split at h<;>first|trivial|exact False.elim h
theorem ZgG {t:TypeId} {cs:Array Value} {o:Nat} (h:∀(i:Nat) (c:Value),cs[i]? =some c->Zit c):Qh P Zc6 K (part t cs o):=Zck (λ_=>ZbD) λb K _=>by
 split
 ·refine Zck (λ_=>Xq) λn K _=>?_;intro i c hc;rw[Array.getElem?_extract]at hc;split at hc
  ·exact h _ _ hc
  cases hc
 split
 ·rename_i v hv;exact(h _ _ hv).scal
 trivial
theorem ZbF:∀(d:Nat) (t:TypeId) (x y:Value) (K:Nat->Prop),Zc6 x->Zx P K (Op.equalIn d t x y)
 |0,_,_,_,_,_=>trivial
 |d+1,t,x,y,K,hx=>by
  unfold Op.equalIn;refine Zg (λ_=>Z2) λu K=>?_;split;all_goals first|exact(trivial:Zx P _ (pure _))|exact False.elim hx|exact(trivial:Zx P _ (stuck _))|(split<;>first|exact(trivial:Zx P _ (pure _))|exact(trivial:Zx P _ (stuck _)))|skip
  ·rename_i fields xs ys
   have key:∀K,Zx P K (do
     for f in fields do
      if f.name≠ "_" then
       if !(<-Op.equalIn d f.type (<-part f.type xs f.offset) (<-part f.type ys f.offset))then return false
     pure true:Sem Bool):=λK=>by
    refine Zg (λK=>Zci (λf s K=>?_) _ _ K) λr K=>?_
    ·split
     ·refine XB (λ_=>ZgG hx) λa K ha=>Zg (λ_=>Yp) λb K=>Zg (λK=>ZbF d _ _ _ K ha) λe K=>?_;split<;>trivial
     trivial
    dsimp only;split<;>trivial
   refine Zg (λ_=>JW) λp K=>?_;dsimp only;split
   ·exact Zg (λ_=>Xd) λ_ K=>key K
   exact key K
  refine Zg (λ_=>Xq) λn K=>Zg (λK=>Zcg (λf s K=>?_) _ _ K) λr K=>?_
  ·refine XB (λ_=>ZgG hx) λa K ha=>Zg (λ_=>Yp) λb K=>Zg (λK=>ZbF d _ _ _ K ha) λe K=>?_;split<;>trivial
  dsimp only;split<;>trivial
end
section
variable {P:Program} {α β σ:Type} {K:Nat->Prop}
theorem Zag {t:TypeId} {x y:Value} (hx:Zc6 x):Zx P K (Op.equal t x y):=ZbF _ _ _ _ _ hx
theorem mild_checkKey {e:Bool}:∀(n:Nat) (t:TypeId) (v:Value) (K:Nat->Prop),Zx P K (dA e n t v)
 |0,_,_,_=>trivial
 |n+1,t,v,K=>by
  unfold dA;refine Zg (λ_=>Z2) λu K=>?_;split
  ·refine Zg (λ_=>Jv) λi K=>?_;dsimp only;split
   ·have hs:∀(t:TypeId) (K:Nat->Prop),Zx P K (typeStr t):=λt K=>by
     unfold typeStr;exact mtA
    split
    ·exact Zg (λ_=>ZY) λ_ K=>Zg (λK=>hs _ K) λ_ K=>Zg (λ_=>ZY) λ_ K=>mild_checkKey n _ _ _
    exact Zg (λK=>hs _ K) λ_ K=>Zg (λ_=>ZY) λ_ K=>mild_checkKey n _ _ _
   exact mild_checkKey n _ _ _
  ·refine Zg (λK=>Zcg (λi s K=>?_) _ _ K) λ_ _=>trivial;exact Zg (λ_=>Xq) λ_ _=>Zg (λ_=>Yp) λ_ _=>Zg (λK=>mild_checkKey n _ _ K) λ_ _=>trivial
  ·refine Zg (λK=>Zci (λi s K=>?_) _ _ K) λ_ _=>trivial;split
   ·exact Zg (λ_=>Yp) λ_ _=>Zg (λK=>mild_checkKey n _ _ K) λ_ _=>trivial
   trivial
  all_goals trivial
theorem ZbV {t:TypeId} {k:Value} (hk:Zc6 k):∀(es:List MapEntry) (i:Nat) (K:Nat->Prop),Zx P K (Instr.findAsking t k es i)
 |[],_,_=>trivial
 |e::es,i,K=>Zg (λ_=>Zag hk) λb K=>by
  split
  ·trivial
  exact ZbV hk es _ _
theorem mild_findKey {t:TypeId} {k:Value} {es:List MapEntry} (hk:Zc6 k):Zx P K (dO t k es):=Zg (λ_=>Z2) λu K=>by
 split
 ·trivial
 exact ZbV hk _ _ _
theorem Zke {t:TypeId} {x k:Value} {ok:Bool} (hk:Zc6 k):Zx P K (Instr.lookup t x k ok):=Zg (λ_=>Z2) λu K=>by
 split
 ·rename_i key elem
  have tail:∀(es:Array MapEntry) (K:Nat->Prop),Zx P K (do
    dA es.isEmpty 10000 key k
    let (v,ok')<-match<-dO key k es.toList with
     |some (_,v)=>pure (v,true)
     |none=>pure (<-zeroValue elem,false)
    pure (if ok then .tuple #[v,.bool ok']else v):Sem Value):=λes K=>by
   exact mtA
  cases x with
  |map r=>
   cases r with
   |none=>exact Zg (λ_=>Zq) λes K=>tail es K
   |some r=>exact Xr (λo ho=>by
     cases o with
     |map es c=>exact Zg (λ_=>Zq) λes K=>tail es K
     |_=>exact Zg (λ_=>Qd) λes K=>tail es K) (λo ho=>by cases o<;>first|exact Qx.bind_left ZbP|(cases ho;done))
  |_=>exact Zg (λ_=>Qd) λes K=>tail es K
 trivial
theorem ZdX {a b:Value}:Zx P K (Instr.keyThatStays a b):=by
 unfold Instr.keyThatStays;split
 ·trivial
 exact Zg (λ_=>Zaz) λ_ _=>trivial
theorem ZgB {t:TypeId} {m k v:Value} (hk:Zc6 k):Zx P K (Instr.mapUpdate t m k v):=Zg (λ_=>Z2) λu K=>by
 split
 ·split
  ·exact ZY
  ·refine Xr (λo ho=>?_) (λo ho=>by cases o<;>first|exact ZbP|(cases ho;done));split
   ·refine Qh.bind (mild_checkKey _ _ _ _) λ_ K' _ hK=>Qh.bind (mild_findKey hk) λr K'' _ hK'=>?_;have hr:∀x,x=_->K'' x:=λx hx=>hK' _ (hK _ (.inr hx));split
    ·exact Qh.bind ZdX λ_ K3 _ hK3=>XO (hK3 _ (hr _ rfl)) rfl
    exact XO (hr _ rfl) rfl
   trivial
  trivial
 trivial
theorem mild_firstCells {s n:Nat} {v:Value}:Zx P K (Builtin.firstCells s n v):=by
 unfold Builtin.firstCells;split
 ·exact Zaf
 all_goals trivial
theorem mild_lenOf {v:Value}:Zx P K (Builtin.lenOf v):=by
 unfold Builtin.lenOf;split<;>trivial
theorem ZnS {ts:Array TypeId} {t:TypeId} {vs:Array Value}:Zx P K (Builtin.copy_ ts t vs):=by
 unfold Builtin.copy_;exact mtA
theorem ZlO {ts:Array TypeId} {t:TypeId} {x:Value} (h:∀r,x≠ .map (some r)):Zx P K (Builtin.clear_ ts t #[x]):=by
 unfold Builtin.clear_;dsimp only;split
 ·rename_i t' x' hx;have:x'=x:=by simp at hx;exact hx.2.symm
  subst this;refine Zg (λ_=>Z2) λu K=>?_;cases x' with
  |map r=>
   cases r with
   |none=>trivial
   |some r=>exact absurd rfl (h r)
  |_=>
   split<;>first
    |exact Zg (λ_=>Zq) λ_ _=>Zq
    |exact Zg (λ_=>Qd) λ_ _=>Zq
    |exact Zg (λ_=>Zad) λ_ _=>Zg (λ_=>YN) λ_ _=>Zq
    |(rename_i h;cases h;done)
 trivial
set_option maxHeartbeats 4000000 in
theorem Zkg {ts:Array TypeId} {t:TypeId} {vs:Array Value}:Zx P K (Builtin.append_ ts t vs):=by
 unfold Builtin.append_;have hd:∀(s:Sem Bool) (u:Unsupported) (K:Nat->Prop),Zx P K (s>>=λb=>if(!b)=true then(mark .noRoom>>=λ_=>unsupported u)else unsupported u:Sem Unit):=λs u K=>
  .of_dies (Qx.bind_right (λb=>by split<;>exact(trivial:Qx P (unsupported _))) s) K
 exact mtA
end
end Conc1
end Go.Proofs.YtjgpiclllehgmaaGreat
