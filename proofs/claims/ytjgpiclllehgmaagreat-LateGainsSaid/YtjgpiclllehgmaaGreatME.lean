/- Lemmas. -/
import Derived.Test.YtjgpiclllehgmaaGreatMT
import Derived.Test.YtjgpiclllehgmaaGreatCxSteps
set_option linter.all false
open Array renaming getElem?_toList->bN
open List.cons renaming injEq->cB
open List renaming map_cons->bX,map_toArray->eX,mem_cons->bG,mem_map->bE
open Go.Op renaming operands->bD
open Option renaming map_eq_some_iff->aG
namespace Go.Proofs.YtjgpiclllehgmaaGreat
namespace Vm
open Go Conc1
section
variable {P:Program} {α β:Type} {K:Nat->Prop}
theorem QW {s:Sem Value} (h:∀K,ZA P K s):ZA P K (do pure (.value (<-s)):Sem Next):=Zg h λ_ _=>Zp
theorem Zqy {s:Sem Unit} (h:∀K,ZA P K s):ZA P K (do s;pure .skip:Sem Next):=Zg h λ_ _=>Zp
theorem Ja:∀(d:Nat) (t:TypeId) (x y:Value) (K:Nat->Prop),ZA P K (Op.eqGuardIn d t x y)
 |0,_,_,_,_=>trivial
 |d+1,t,x,y,K=>by
  unfold Op.eqGuardIn;refine Zg (λ_=>Z5) λu K=>?_;split
  ·trivial
  ·refine Zg (λK=>Zce (λf s K=>?_) _ _ K) λr K=>?_
   ·split
    ·refine Zg (λ_=>Ys) λa K=>Zg (λ_=>Ys) λb K=>Zg (λK=>Ja d _ _ _ K) λe K=>?_;split<;>trivial
    trivial
   dsimp only;split<;>trivial
  ·refine Zg (λ_=>Xy) λn K=>Zg (λK=>Zcc (λf s K=>?_) _ _ K) λr K=>?_
   ·refine Zg (λ_=>Ys) λa K=>Zg (λ_=>Ys) λb K=>Zg (λK=>Ja d _ _ _ K) λe K=>?_;split<;>trivial
   dsimp only;split<;>trivial
  trivial
theorem Zi2 {op:BinOp} {t:TypeId} {x y:Operand} {a b:Value}:ZA P K (eqGuard op t x y a b):=by
 unfold eqGuard;split<;>simp only[Bool.not_true,Bool.not_false,if_true,Bool.false_eq_true,if_false];all_goals first|exact Zp|skip
 all_goals
  split
  ·refine YG Zp ?_;refine Zg (λK=>Ja _ _ _ _ K) λe K=>YG Xk Zp
  ·refine Zg (λ_=>JV) λp K=>Zg (λ_=>JV) λp K=>YG Zp ?_;refine Zg (λK=>Ja _ _ _ _ K) λe K=>YG Xk Zp
  exact Zp
theorem ZlD {op:BinOp} {k A:IntKind} {a b:Int}:ZA P K (Op.shift op k a A b):=by
 unfold Op.shift;refine YG ZY ?_;dsimp only;split<;>first|exact Zp|exact Qg
theorem Zj7 {op : BinOp} {t : TypeId} {k A : IntKind} {a b : Int} : ZA P K (binOp op t (.int k a) (.int A b)) := by
  cases op;all_goals
    simp only [binOp];first
    | exact ZlD
    | (refine YG Qg ?_
       first
       | exact Zp
       | exact Qg
       | exact YG ZY Zp)
theorem Zbw {op:BinOp} {t:TypeId} {x y:Value} (A:ZcY x) (H:∀k a,x≠ .int k a) (G:∀s,x≠ .string s) (I:op= .eql\/op= .neq):ZA P K (binOp op t x y):=by
 rcases I with rfl|rfl
 ·cases x with
  |int k a=>exact absurd rfl (H k a)
  |string s=>exact absurd rfl (G s)
  |bool b=>exact Zg (λ_=>Zaf A) λ_ _=>Zp
  |agg c=>exact Zg (λ_=>Zaf A) λ_ _=>Zp
  |_=>exact False.elim A
 cases x with
 |int k a=>exact absurd rfl (H k a)
 |string s=>exact absurd rfl (G s)
 |bool b=>exact Zg (λ_=>Zaf A) λ_ _=>Zp
 |agg c=>exact Zg (λ_=>Zaf A) λ_ _=>Zp
 |_=>exact False.elim A
theorem Zc7 (d:Nat) (t:TypeId) (a:Option Addr) (n c:Nat) (K:Nat->Prop):ZA P K (Op.equalIn d t (.slice a n c) (.slice none 0 0)):=by
 cases d with
 |zero=>trivial
 |succ d=>
  unfold Op.equalIn;refine Zg (λ_=>Z5) λu K=>?_;cases u<;>cases a<;>first|exact Zp|exact Qg
end
section
variable {P:Program} {R:RC} {K:Nat->Prop}
theorem JN:∀ {A H:List AV} {g:Unit->Bool},ZO A H=some g->∀(j:Nat) x,A[j]? =some x->∃k n,x= .int k n
 |[],_,_,_,j,x,hx=>by simp at hx
 |.int k a::r,.int k' b::s,g,h,j,x,hx=>by
  simp only[ZO]at h;split at h
  ·simp only[aG]at h;obtain⟨I,G,_⟩:=h;cases j with
   |zero=>simp at hx;exact⟨k,a,hx.symm⟩
   |succ j=>exact JN G j x (by simpa using hx)
  cases h
theorem ZkZ {xs:List AV} {us:Array Value} (I:xs.length=us.size) (hr:∀j c,xs[j]? =some c->VR R c (us.getD j Go.undef)) (h:∀(j:Nat) x,xs[j]? =some x->∃k n,x= .int k n):ZcY (.agg us):=by
 intro i c A;have H:i<us.size:=(Array.getElem?_eq_some_iff.1 A).1;have G:=List.getElem?_eq_getElem (l:=xs) (i:=i) (by omega);obtain⟨k,n,e⟩:=h i _ G;have:=hr i _ G;rw[e,Array.getD_eq_getD_getElem?,A]at this;rw[show c=_ from this.int_inv];trivial
theorem ZnR {j k:IntKind} {a b:Int}:Qj P (λv=>∃n,v=Value.int j n) K (Builtin.max2 (.int j a) (.int k b)):=⟨_,rfl⟩
theorem ZnQ {j k:IntKind} {a b:Int}:Qj P (λv=>∃n,v=Value.int j n) K (Builtin.min2 (.int j a) (.int k b)):=⟨_,rfl⟩
theorem Zbu {f:Value->Value->Sem Value} {j:IntKind} (A:∀(a:Int) (k:IntKind) (b:Int) (K:Nat->Prop),Qj P (λv=>∃n,v=Value.int j n) K (f (.int j a) (.int k b))):
  ∀(l:List Value) (a:Int) (K:Nat->Prop),(∀v∈l,∃k n,v=Value.int k n)->ZA P K (l.foldlM f (.int j a))
 |[],a,K,_=>Zp
 |v::l,a,K,h=>by
  obtain⟨k,n,rfl⟩:=h v (by simp);rw[List.foldlM_cons];refine XG (λK=>A a k n K) λx K G=>?_;obtain⟨m,rfl⟩:=G;exact Zbu A l m K λv hv=>h v (by simp[hv])
theorem ZgD {k:IntKind} {G:Bool}:∀ {l:List AV} {x:Unit->Int} {r:AV×Cd},ZgE k G l x=some r->∀a∈l,∃k n,a=AV.int k n
 |[],_,_,_,a,h=>by simp at h
 |b::l,x,r,h,a,A=>by
  cases b<;>simp only[ZgE]at h<;>try cases h
  rcases bG.1 A with rfl|A
  ·exact⟨_,_,rfl⟩
  exact ZgD h a A
theorem Zhv {G:Array TypeId} {t ty e:TypeId} {a:Option Addr} {n c:Nat} (I:G[0]? =some t) (H:P.underlying t=some (.slice e)):ZA P K (Builtin.len_ G ty #[.slice a n c]):=by
 unfold Builtin.len_;rw[I];refine XG (λ_=>Yt) λd K A=>?_;rw[H]at A;cases A;exact Zp
theorem Zi4 {s d:TypeId} {k j:IntKind} {n:Int} (A:P.underlying d=some (.int k)):ZA P K (convert s d (.int j n)):=by
 unfold convert;refine Zg (λ_=>Z5) λG K=>XG (λ_=>Yt) λH K h=>?_;rw[A]at h;cases h;cases G<;>exact Zp
theorem VR.sliceV {u:Value} {a:AV} (h:VR R a u) (G:(∃s n f tk,a= .isl s n f tk)\/(∃id s lo n c,a= .msl id s lo n c)\/(∃id n,a= .gsl id n)\/(∃id e l,a= .nsub id e l)):∃x n c,u= .slice x n c:=by
 rcases G with⟨s,n,f,tk,rfl⟩|⟨id,s,lo,n,c,rfl⟩|⟨id,n,rfl⟩|⟨id,e,l,rfl⟩
 ·have:=h.isl_inv;cases this<;>exact⟨_,_,_,rfl⟩
 ·cases h with
  |pure _ _ A=>cases A
  |msl=>exact⟨_,_,_,rfl⟩
 ·cases h with
  |pure _ _ A=>cases A
  |gsl=>exact⟨_,_,_,rfl⟩
 cases h with
 |pure _ _ A=>cases A
 |nsub=>exact⟨_,_,_,rfl⟩
theorem Znz (n:Nat) (x:List Int):ZcY (Xu n x):=by
 cases n with
 |zero=>trivial
 |succ n=>
  have G:∀(m:Nat) (x:List Int),∀c∈QF m x,Ziv c:=by
   intro m;induction m with
   |zero=>intro x c A;cases A
   |succ m H=>
    intro x c A;rcases bG.1 A with rfl|A
    ·trivial
    exact H _ c A
  intro i c A;refine G (n+1) x c ?_;rw[List.getElem?_toArray]at A;exact List.mem_of_getElem? A
theorem ZcJ {I:TypeId} {G:Nat} {k:AV} {g:Unit->List Int} {u:Value} (A:ZhA (tyP P) I G k=some g) (H:VR R k u):ZcY u:=by
 rw[(ZdS A H).1];exact Znz _ _
theorem ZgF {H J:TypeId} {A n:Nat} {L:Unit->List (List Int×List Int)} {k:AV} {ok:Bool} {r:AV×Cd} {u:Value} (hv:ZdQ (tyP P) H J A n L k ok=some r) (G:VR R k u):ZcY u:=by
 unfold ZdQ at hv;split at hv
 ·rename_i g I;exact ZcJ I G
 cases hv
theorem Zjc {t:TypeId} {m k:AV} {ok:Bool} {h:List Zi} {r:AV×Cd} {u:Value} (hv:JX (tyP P) t m k ok h=some r) (A:VR R k u):ZcY u:=by
 unfold JX at hv;split at hv;case h_2=>cases hv
 split at hv
 ·split at hv
  ·split at hv
   ·rw[A.int_inv];trivial
   cases hv
  ·exact ZgF hv A
  ·split at hv
   ·rename_i g G _;exact ZcJ G A
   cases hv
  cases hv
 ·exact ZgF hv A
 cases hv
theorem ZfC {t:TypeId} {m k x:AV} {h:List Zi} {r:AV×List Zi×Cd} {u:Value} (hv:X0 (tyP P) t m k x h=some r) (G:VR R k u):ZcY u:=by
 unfold X0 at hv;split at hv;case h_2=>cases hv
 split at hv
 ·split at hv
  ·rw[G.int_inv];trivial
  cases hv
 ·split at hv
  ·rename_i g d A H;exact ZcJ A G
  cases hv
 ·split at hv
  ·rename_i g _ _ _ A;exact ZcJ A G
  cases hv
 cases hv
theorem ZlH {v:Value}:ZA P K (Instr.entry v):=by
 unfold Instr.entry;split
 ·refine Xz (λo A=>?_) λo A=>?_
  ·split
   ·split
    ·refine Xz (λo A=>?_) λo A=>?_
     ·split
      ·refine YG (Zg (λ_=>Xk) λ_ _=>?_) ?_<;>(dsimp only;split<;>trivial)
      trivial
     cases o<;>first|(cases A;done)|trivial
    trivial
   trivial
  cases o<;>first|(cases A;done)|trivial
 trivial
theorem ZnP {v:Value} {ty:TypeId}:ZA P K (Instr.next v false ty):=by
 unfold Instr.next;dsimp only;split
 ·refine Xz (λo A=>?_) λo A=>?_
  ·split
   ·exact absurd (show false=true by assumption) (by decide)
   ·exact Zp
   ·refine Xz (λo A=>?_) λo A=>?_
    ·split
     ·refine YG (Qj.bind Xk λ_ J _ I=>?_) ?_
      ·refine Qj.bind Zaq λn H _ G=>?_;split
       ·exact Qj.bind (XU (G _ (I _ (.inl (.inr rfl)))) rfl) λ_ H _ _=>Zp
       ·exact Zp
       exact Qg
      refine Qj.bind Zaq λn H _ G=>?_;split
      ·exact Qj.bind (XU (G _ (.inl (.inr rfl))) rfl) λ_ H _ _=>Zp
      ·exact Zp
      exact Qg
     exact Qg
    cases o<;>first|(cases A;done)|trivial
   exact Qg
  cases o<;>first|(cases A;done)|trivial
 exact Qg
theorem ZlE {t:TypeId} {v:Value}:ZA P K (Instr.range t v):=by
 unfold Instr.range;refine Zg (λ_=>Z5) λu K=>?_;split
 ·exact XG (Q:=λo:Obj=>o.isChan=false) (λ_=>(show Obj.isChan _=false from rfl)) λo K A=>Zg (λ_=>YY A) λ_ _=>trivial
 ·exact XG (Q:=λo:Obj=>o.isChan=false) (λ_=>(show Obj.isChan _=false from rfl)) λo K A=>Zg (λ_=>YY A) λ_ _=>trivial
 ·refine Xz (λo A=>?_) λo A=>?_
  ·split
   ·exact XG (Q:=λo:Obj=>o.isChan=false) (λ_=>(show Obj.isChan _=false from rfl)) λo K A=>Zg (λ_=>YY A) λ_ _=>trivial
   trivial
  cases o<;>first|(cases A;done)|trivial
 trivial
theorem ZqW {o:Oper} {E:Operand->AV} {ρ:Operand->Value} (hK:∀v,ρ (.const v)=v) (Y:∀x∈o.op.operands,VR R (E x) (ρ x)) {h:List Zi} {v:AV} {c:Cd} (hv:JG P E h o.op=some (v,c)):ZA P K (execOp ρ o):=by
 obtain⟨dst,op,ty,pos,after,guard⟩:=o;dsimp only at Y hv;cases op with
 |move x=>exact Zp
 |assign x=>exact Zp
 |pick a b d=>exact Zg (λ_=>Zfg) λ_ _=>Zp
 |nilCheck x=>
  have A:=Y x (by simp[bD]);have hp:∃a,ρ x= .pointer (some a):=by
   simp only[JG]at hv;generalize ρ x=u at A;split at hv;all_goals first|(cases hv;done)|skip
   all_goals
    rename_i ab;rw[ab]at A;cases A with
    |pure _ _ hp=>cases hp<;>exact⟨_,rfl⟩
    |_=>exact⟨_,rfl⟩
  obtain⟨a,G⟩:=hp;simp only[execOp,G];exact Zp
 |load t a=>exact QW λ_=>Zff
 |fieldAddr t x f=>
  simp only[JG]at hv;split at hv
  ·rename_i T hT;unfold Jn at hv;split at hv
   ·rename_i aq hk;obtain⟨fl,ap,rfl⟩:=Zcx hT hk;split at hv
    ·rename_i au sz g hf;split at hv
     ·cases hv
     rename_i am;rw[List.getElem?_map,aG]at hf;obtain⟨fd,ai,ao⟩:=hf;rw[bN]at ai;obtain⟨j,d,hj,hd,ho,hs,hg⟩:=Zcp ao;refine QW λK=>Zi0 λfs f' h1 h2 i h3=>?_;rw[ap]at h1;cases h1;rw[ai]at h2;cases h2;rw[hj]at h3;cases h3;intro h0;rw[hs]at h0;subst h0;exact am (by simp[ZK])
    cases hv
   cases hv
  cases hv
 |indexAddr t x i=>exact QW λ_=>ZiZ
 |binOp op t x y yt=>
  have A:=Y x (by simp[bD]);have hy:=Y y (by simp[bD]);refine QW λK=>Zg (λ_=>Zi2) λ_ K=>?_;simp only[JG]at hv;unfold ZeQ at hv;split at hv
  ·rename_i hn;split at hv
   ·rename_i I hu;rw[show ρ y= .slice none 0 0 by rw[Zh0 hn];exact hK _];obtain⟨a,n,c',H⟩:∃a n c',ρ x= .slice a n c':=by
     have Z:∃r,Zdk op (E x)=some r:=⟨_,hv⟩;obtain⟨r,Z⟩:=Z;unfold Zdk at Z;split at Z;all_goals first|(cases Z;done)|skip
     all_goals
      rename_i ab;exact A.sliceV (by rw[ab];first|exact .inl ⟨_,_,_,_,rfl⟩|exact .inr (.inl ⟨_,_,_,_,_,rfl⟩)|exact .inr (.inr (.inl ⟨_,_,rfl⟩))|exact .inr (.inr (.inr ⟨_,_,_,rfl⟩)))
    rw[H];have ak:op= .eql\/op= .neq:=by
     unfold Zdk at hv;split at hv;all_goals first|(cases hv;done)|skip
     all_goals
      split at hv;all_goals first|exact .inl rfl|exact .inr rfl|cases hv
    rcases ak with rfl|rfl
    ·exact Zg (λK=>Zc7 _ _ _ _ _ K) λ_ _=>Zp
    exact Zg (λK=>Zc7 _ _ _ _ _ K) λ_ _=>Zp
   cases hv
  split at hv
  ·rename_i k a k' b U ac;rw[U]at A;rw[ac]at hy;rw[A.int_inv,hy.int_inv];exact Zj7
  ·rename_i xs ys U ac;rw[U]at A;obtain⟨us,hu,ah,ae⟩:=A.agg_inv;split at hv
   ·rw[hu];split at hv
    ·simp only[aG]at hv;obtain⟨g,hg,_⟩:=hv;exact Zbw (ZkZ ah ae (JN hg)) (by simp) (by simp) (.inl rfl)
    ·simp only[aG]at hv;obtain⟨g,hg,_⟩:=hv;exact Zbw (ZkZ ah ae (JN hg)) (by simp) (by simp) (.inr rfl)
    cases hv
   cases hv
  ·rename_i a b U ac;rw[U]at A;rw[A.bool_inv];split at hv
   ·split at hv
    ·exact Zbw trivial (by simp) (by simp) (.inl rfl)
    ·exact Zbw trivial (by simp) (by simp) (.inr rfl)
    cases hv
   cases hv
  cases hv
 |unOp op t x=>
  have A:=Y x (by simp[bD]);cases op with
  |not=>
   simp only[JG]at hv;split at hv
   ·rename_i a G;rw[G]at A;simp only[execOp,A.bool_inv];exact QW λ_=>Zp
   cases hv
  |neg=>
   simp only[JG]at hv;split at hv
   ·rename_i k a G;rw[G]at A;simp only[execOp,A.int_inv];exact QW λ_=>Zp
   cases hv
  |_=>simp[JG]at hv
 |convert s d x=>
  have A:=Y x (by simp[bD]);simp only[JG]at hv;split at hv
  ·rename_i k a S D G hS hD;rw[G]at A;split at hv
   ·rename_i k' hk;simp only[execOp,A.int_inv];exact QW λ_=>Zi4 (Zo7 hD hk)
   cases hv
  cases hv
 |extract x i=>exact QW λ_=>Zi1
 |build t ps=>exact QW λ_=>ZlK
 |index t x i=>exact QW λ_=>ZlF
 |lookup t m k ok=>exact QW λ_=>Zj6 (Zjc (by simpa only[JG]using hv) (Y k (by simp[bD])))
 |entry x=>exact QW λ_=>ZlH
 |field t x i=>exact QW λ_=>ZlG
 |makeFunc fn first ar=>exact Zp
 |slice t x lo hi mx=>exact QW λ_=>ZiX
 |call cl=>
  obtain⟨V,args,argTypes⟩:=cl;cases V with
  |builtin b=>
   have A:∀x∈args,VR R (E x) (ρ x):=λx A=>Y x (by simp[bD,Call.operands,A]);cases b with
   |len=>
    simp only[JG]at hv;have one:∀x,args.toList.map E=[x]->∃u,args.map ρ= #[u]/\VR R x u:=λx aa=>by
     obtain⟨l⟩:=args;match l,aa,A with
     |[z],aa,A=>exact⟨ρ z,by simp,by
       have:=A z (by simp);simp at aa
       rwa [aa]at this⟩
    have fin:∀ {a:AV} {t:TypeId} {ts:List TypeId},args.toList.map E=[a]->argTypes.toList=t::ts->(∃I,P.underlying t=some (.slice I))->
      ((∃s n f tk,a= .isl s n f tk)\/(∃id s lo n c,a= .msl id s lo n c)\/(∃id n,a= .gsl id n)\/(∃id e l,a= .nsub id e l))->ZA P K (execOp ρ {dst,op:=.call {callee:=.builtin .len,args,argTypes},type:=ty,pos,after,guard}):=by
     intro a t ts G J ⟨I,al⟩ hs;obtain⟨u,hu,aj⟩:=one _ G;obtain⟨x,n,c,rfl⟩:=aj.sliceV hs;show ZA P K (do pure (.value (<-Builtin.len_ argTypes ty (args.map ρ))):Sem Next);rw[hu];exact QW λ_=>Zhv (by rw[<-bN,J];rfl) al
    split at hv
    ·rename_i G J;split at hv
     ·rename_i I H;exact fin G J ⟨I,H⟩ (.inl ⟨_,_,_,_,rfl⟩)
     cases hv
    ·rename_i G J;split at hv
     ·rename_i I H;exact fin G J ⟨I,H⟩ (.inr (.inl ⟨_,_,_,_,_,rfl⟩))
     cases hv
    ·rename_i G J;split at hv
     ·rename_i I H;exact fin G J ⟨I,H⟩ (.inr (.inr (.inl ⟨_,_,rfl⟩)))
     cases hv
    ·rename_i G J;split at hv
     ·rename_i I H;exact fin G J ⟨I,H⟩ (.inr (.inr (.inr ⟨_,_,_,rfl⟩)))
     cases hv
    cases hv
   |max=>
    simp only[JG]at hv;split at hv
    ·rename_i k x r G;have hm:=ZgD hv;show ZA P K (do pure (.value (<-Builtin.max_ argTypes ty (args.map ρ))):Sem Next);obtain⟨l⟩:=args;match l,G,A with
     |z::l,G,A=>
      simp only[bX,cB]at G;have hz:=A z (by simp);rw[G.1]at hz;refine QW λK=>?_;unfold Builtin.max_;simp only[eX,bX,hz.int_inv];refine Zbu (λa k b K=>ZnR) _ _ _ λv hv=>?_;obtain⟨y,hy,rfl⟩:=bE.1 hv;obtain⟨k',n',e⟩:=hm (E y) (by rw[<-G.2];exact bE.2 ⟨y,hy,rfl⟩);have:=A y (by simp[hy]);rw[e]at this;exact⟨_,_,this.int_inv⟩
    cases hv
   |min=>
    simp only[JG]at hv;split at hv
    ·rename_i k x r G;have hm:=ZgD hv;show ZA P K (do pure (.value (<-Builtin.min_ argTypes ty (args.map ρ))):Sem Next);obtain⟨l⟩:=args;match l,G,A with
     |z::l,G,A=>
      simp only[bX,cB]at G;have hz:=A z (by simp);rw[G.1]at hz;refine QW λK=>?_;unfold Builtin.min_;simp only[eX,bX,hz.int_inv];refine Zbu (λa k b K=>ZnQ) _ _ _ λv hv=>?_;obtain⟨y,hy,rfl⟩:=bE.1 hv;obtain⟨k',n',e⟩:=hm (E y) (by rw[<-G.2];exact bE.2 ⟨y,hy,rfl⟩);have:=A y (by simp[hy]);rw[e]at this;exact⟨_,_,this.int_inv⟩
    cases hv
   |_=>simp[JG]at hv
  |_=>simp[JG]at hv
 |_=>simp[JG]at hv
theorem ZkC {gr:Bool} {o:Oper} {E:Operand->AV} {ρ:Operand->Value} (I:∀x∈o.op.operands,VR R (E x) (ρ x)) {h:List Zi} {v:AV} {h':List Zi} {c:Cd} (hv:evE gr P E h o.op=some (v,h',c)):ZA P K (execOp ρ o):=by
 obtain⟨Z,S,ty,pos,U,V⟩:=o;dsimp only at I hv;have int:∀ {x:Operand},x∈S.operands->(∃k n,E x= .int k n)->ZcY (ρ x):=λJ ⟨k,n,e⟩=>by
  have:=I _ J;rw[e]at this;rw[this.int_inv];trivial
 cases S with
 |alloc t=>exact QW λ_=>ZgA
 |box t x=>exact QW λ_=>Zqz
 |store t a x=>exact Zqy λ_=>ZdN
 |makeSlice t n c=>exact QW λ_=>Zgy
 |buildSlice t n ps=>exact QW λ_=>ZbP
 |makeMap t r=>
  cases r with
  |none=>exact QW λ_=>ZiY
  |some r=>simp[evE]at hv
 |mapUpdate t m k x=>exact Zqy λ_=>Zgw (ZfC (by simpa only[evE]using hv) (I k (by simp[bD])))
 |range t x=>exact QW λ_=>ZlE
 |call cl=>
  obtain⟨G,H,A⟩:=cl;cases G with
  |builtin b=>
   cases b with
   |append=>exact QW λ_=>Zj8
   |copy=>exact QW λ_=>ZnS
   |clear=>
    simp only[evE]at hv;split at hv
    ·rename_i x t ts Y ht;show ZA P K (do pure (.value (<-Builtin.clear_ A ty (H.map ρ))):Sem Next);obtain⟨l⟩:=H;obtain rfl:l=[x]:=Y;have J:=I x (by simp[bD,Call.operands]);simp only[eX,bX,List.map_nil];split at hv
     ·split at hv
      ·obtain⟨a,n,c',e⟩:=J.sliceV (by
        unfold Zg6 at hv;split at hv
        ·rename_i e _;rw[e];exact .inr (.inl ⟨_,_,_,_,_,rfl⟩)
        all_goals first|(cases hv;done)|(rename_i e _;rw[e];exact .inr (.inr (.inl ⟨_,_,rfl⟩)))|(rename_i e _;rw[e];exact .inr (.inr (.inr ⟨_,_,_,rfl⟩)))|(rename_i e _;rw[e];exact .inl ⟨_,_,_,_,rfl⟩))
       rw[e];exact QW λ_=>ZlI (by simp)
      cases hv
     cases hv
    cases hv
   |_=>simp[evE]at hv
  |_=>simp[evE]at hv
 |_=>simp[evE]at hv
end
end Vm
end Go.Proofs.YtjgpiclllehgmaaGreat
