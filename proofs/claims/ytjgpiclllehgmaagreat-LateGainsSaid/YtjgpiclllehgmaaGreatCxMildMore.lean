/- Lemmas. -/
import Derived.Test.YtjgpiclllehgmaaGreatCxMildOps
set_option linter.all false
open Go.Instr renaming checkKey->cY,findKey->dP
namespace Go.Proofs.YtjgpiclllehgmaaGreat
namespace Conc1
open Go
section
variable {P:Program} {α β σ:Type} {K:Nat->Prop}
theorem Zcd {f:α->σ->Sem (ForInStep σ)} (h:∀a s K,ZA P K (f a s)):∀(l:List α) (s:σ) (K:Nat->Prop),ZA P K (forIn l s f)
 |[],s,K=>by rw[List.forIn_nil];trivial
 |a::l,s,K=>by
  rw[List.forIn_cons];exact Zg (h a s) λr K=>by
   cases r with
   |done b=>trivial
   |yield b=>exact Zcd h l b K
theorem Zce {f:α->σ->Sem (ForInStep σ)} (h:∀a s K,ZA P K (f a s)) (l:Array α) (s:σ) (K:Nat->Prop):ZA P K (forIn l s f):=by
 rw[<-Array.forIn_toList];exact Zcd h _ _ _
theorem Zcc {f:Nat->σ->Sem (ForInStep σ)} (h:∀a s K,ZA P K (f a s)) (n:Nat) (s:σ) (K:Nat->Prop):ZA P K (forIn [0:n] s f):=by
 rw[Std.Legacy.Range.forIn_eq_forIn_range'];exact Zcd h _ _ _
def Ziv:Value->Prop
 |.bool _|.int .. |.string _=>True
 |_=>False
def ZcY:Value->Prop
 |.bool _|.int .. |.string _=>True
 |.agg cs=>∀(i:Nat) (c:Value),cs[i]? =some c->Ziv c
 |_=>False
theorem Ziv.scal {v:Value} (h:Ziv v):ZcY v:=by
 unfold Ziv at h;split at h<;>first|trivial|exact False.elim h
theorem ZgB {t:TypeId} {cs:Array Value} {o:Nat} (h:∀(i:Nat) (c:Value),cs[i]? =some c->Ziv c):Qj P ZcY K (part t cs o):=Zcg (λ_=>Zbt) λb K _=>by
 split
 ·refine Zcg (λ_=>Xy) λn K _=>?_;intro i c hc;rw[Array.getElem?_extract]at hc;split at hc
  ·exact h _ _ hc
  cases hc
 split
 ·rename_i v hv;exact(h _ _ hv).scal
 trivial
theorem Zbv:∀(d:Nat) (t:TypeId) (x y:Value) (K:Nat->Prop),ZcY x->ZA P K (Op.equalIn d t x y)
 |0,_,_,_,_,_=>trivial
 |d+1,t,x,y,K,hx=>by
  unfold Op.equalIn;refine Zg (λ_=>Z5) λu K=>?_;split;all_goals first|exact(trivial:ZA P _ (pure _))|exact False.elim hx|exact(trivial:ZA P _ (stuck _))|(split<;>first|exact(trivial:ZA P _ (pure _))|exact(trivial:ZA P _ (stuck _)))|skip
  ·rename_i fields xs ys
   have key:∀K,ZA P K (do
     for f in fields do
      if f.name≠ "_" then
       if !(<-Op.equalIn d f.type (<-part f.type xs f.offset) (<-part f.type ys f.offset))then return false
     pure true:Sem Bool):=λK=>by
    refine Zg (λK=>Zce (λf s K=>?_) _ _ K) λr K=>?_
    ·split
     ·refine XG (λ_=>ZgB hx) λa K ha=>Zg (λ_=>Ys) λb K=>Zg (λK=>Zbv d _ _ _ K ha) λe K=>?_;split<;>trivial
     trivial
    dsimp only;split<;>trivial
   refine Zg (λ_=>JV) λp K=>?_;dsimp only;split
   ·exact Zg (λ_=>Xk) λ_ K=>key K
   exact key K
  refine Zg (λ_=>Xy) λn K=>Zg (λK=>Zcc (λf s K=>?_) _ _ K) λr K=>?_
  ·refine XG (λ_=>ZgB hx) λa K ha=>Zg (λ_=>Ys) λb K=>Zg (λK=>Zbv d _ _ _ K ha) λe K=>?_;split<;>trivial
  dsimp only;split<;>trivial
end
section
variable {P:Program} {α β σ:Type} {K:Nat->Prop}
theorem Zaf {t:TypeId} {x y:Value} (hx:ZcY x):ZA P K (Op.equal t x y):=Zbv _ _ _ _ _ hx
theorem mild_checkKey {e:Bool}:∀(n:Nat) (t:TypeId) (v:Value) (K:Nat->Prop),ZA P K (cY e n t v)
 |0,_,_,_=>trivial
 |n+1,t,v,K=>by
  unfold cY;refine Zg (λ_=>Z5) λu K=>?_;split
  ·refine Zg (λ_=>Jr) λi K=>?_;dsimp only;split
   ·have hs:∀(t:TypeId) (K:Nat->Prop),ZA P K (typeStr t):=λt K=>by
     unfold typeStr;exact mtA
    split
    ·exact Zg (λ_=>ZY) λ_ K=>Zg (λK=>hs _ K) λ_ K=>Zg (λ_=>ZY) λ_ K=>mild_checkKey n _ _ _
    exact Zg (λK=>hs _ K) λ_ K=>Zg (λ_=>ZY) λ_ K=>mild_checkKey n _ _ _
   exact mild_checkKey n _ _ _
  ·refine Zg (λK=>Zcc (λi s K=>?_) _ _ K) λ_ _=>trivial;exact Zg (λ_=>Xy) λ_ _=>Zg (λ_=>Ys) λ_ _=>Zg (λK=>mild_checkKey n _ _ K) λ_ _=>trivial
  ·refine Zg (λK=>Zce (λi s K=>?_) _ _ K) λ_ _=>trivial;split
   ·exact Zg (λ_=>Ys) λ_ _=>Zg (λK=>mild_checkKey n _ _ K) λ_ _=>trivial
   trivial
  all_goals trivial
theorem ZbO {t:TypeId} {k:Value} (hk:ZcY k):∀(es:List MapEntry) (i:Nat) (K:Nat->Prop),ZA P K (Instr.findAsking t k es i)
 |[],_,_=>trivial
 |e::es,i,K=>Zg (λ_=>Zaf hk) λb K=>by
  split
  ·trivial
  exact ZbO hk es _ _
theorem mild_findKey {t:TypeId} {k:Value} {es:List MapEntry} (hk:ZcY k):ZA P K (dP t k es):=Zg (λ_=>Z5) λu K=>by
 split
 ·trivial
 exact ZbO hk _ _ _
theorem Zj6 {t:TypeId} {x k:Value} {ok:Bool} (hk:ZcY k):ZA P K (Instr.lookup t x k ok):=Zg (λ_=>Z5) λu K=>by
 split
 ·rename_i key elem
  have tail:∀(es:Array MapEntry) (K:Nat->Prop),ZA P K (do
    cY es.isEmpty 10000 key k
    let (v,ok')<-match<-dP key k es.toList with
     |some (_,v)=>pure (v,true)
     |none=>pure (<-zeroValue elem,false)
    pure (if ok then .tuple #[v,.bool ok']else v):Sem Value):=λes K=>by
   exact mtA
  cases x with
  |map r=>
   cases r with
   |none=>exact Zg (λ_=>Zp) λes K=>tail es K
   |some r=>exact Xz (λo ho=>by
     cases o with
     |map es c=>exact Zg (λ_=>Zp) λes K=>tail es K
     |_=>exact Zg (λ_=>Qg) λes K=>tail es K) (λo ho=>by cases o<;>first|exact Qz.bind_left ZbF|(cases ho;done))
  |_=>exact Zg (λ_=>Qg) λes K=>tail es K
 trivial
theorem ZdP {a b:Value}:ZA P K (Instr.keyThatStays a b):=by
 unfold Instr.keyThatStays;split
 ·trivial
 exact Zg (λ_=>Zaq) λ_ _=>trivial
theorem Zgw {t:TypeId} {m k v:Value} (hk:ZcY k):ZA P K (Instr.mapUpdate t m k v):=Zg (λ_=>Z5) λu K=>by
 split
 ·split
  ·exact ZY
  ·refine Xz (λo ho=>?_) (λo ho=>by cases o<;>first|exact ZbF|(cases ho;done));split
   ·refine Qj.bind (mild_checkKey _ _ _ _) λ_ K' _ hK=>Qj.bind (mild_findKey hk) λr K'' _ hK'=>?_;have hr:∀x,x=_->K'' x:=λx hx=>hK' _ (hK _ (.inr hx));split
    ·exact Qj.bind ZdP λ_ K3 _ hK3=>XU (hK3 _ (hr _ rfl)) rfl
    exact XU (hr _ rfl) rfl
   trivial
  trivial
 trivial
theorem mild_firstCells {s n:Nat} {v:Value}:ZA P K (Builtin.firstCells s n v):=by
 unfold Builtin.firstCells;split
 ·exact Zae
 all_goals trivial
theorem mild_lenOf {v:Value}:ZA P K (Builtin.lenOf v):=by
 unfold Builtin.lenOf;split<;>trivial
theorem ZnS {ts:Array TypeId} {t:TypeId} {vs:Array Value}:ZA P K (Builtin.copy_ ts t vs):=by
 unfold Builtin.copy_;exact mtA
theorem ZlI {ts:Array TypeId} {t:TypeId} {x:Value} (h:∀r,x≠ .map (some r)):ZA P K (Builtin.clear_ ts t #[x]):=by
 unfold Builtin.clear_;dsimp only;split
 ·rename_i t' x' hx;have:x'=x:=by simp at hx;exact hx.2.symm
  subst this;refine Zg (λ_=>Z5) λu K=>?_;cases x' with
  |map r=>
   cases r with
   |none=>trivial
   |some r=>exact absurd rfl (h r)
  |_=>
   split<;>first
    |exact Zg (λ_=>Zp) λ_ _=>Zp
    |exact Zg (λ_=>Qg) λ_ _=>Zp
    |exact Zg (λ_=>Zac) λ_ _=>Zg (λ_=>YN) λ_ _=>Zp
    |(rename_i h;cases h;done)
 trivial
set_option maxHeartbeats 4000000 in
theorem Zj8 {ts:Array TypeId} {t:TypeId} {vs:Array Value}:ZA P K (Builtin.append_ ts t vs):=by
 unfold Builtin.append_;have hd:∀(s:Sem Bool) (u:Unsupported) (K:Nat->Prop),ZA P K (s>>=λb=>if(!b)=true then(mark .noRoom>>=λ_=>unsupported u)else unsupported u:Sem Unit):=λs u K=>
  .of_dies (Qz.bind_right (λb=>by split<;>exact(trivial:Qz P (unsupported _))) s) K
 exact mtA
end
end Conc1
end Go.Proofs.YtjgpiclllehgmaaGreat
