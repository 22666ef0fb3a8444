/- Lemmas. -/
import Derived.Test.YtjgpiclllehgmaaGreatMT
import Derived.Test.YtjgpiclllehgmaaGreatCxSteps
set_option linter.all false
open Array renaming getElem?_toList->bN
open List.cons renaming injEq->cC
open List renaming map_cons->bY,map_toArray->fc,mem_cons->bG,mem_map->bC
open Go.Op renaming operands->bE
open Option renaming map_eq_some_iff->aG
namespace Go.Proofs.YtjgpiclllehgmaaGreat
namespace Vm
open Go Conc1
section
variable {P:Program} {α β:Type} {K:Nat->Prop}
theorem QS {s:Sem Value} (h:∀K,Zx P K s):Zx P K (do pure (.value (<-s)):Sem Next):=Zg h λ_ _=>Zq
theorem Zqw {s:Sem Unit} (h:∀K,Zx P K s):Zx P K (do s;pure .skip:Sem Next):=Zg h λ_ _=>Zq
theorem Y8:∀(d:Nat) (t:TypeId) (x y:Value) (K:Nat->Prop),Zx P K (Op.eqGuardIn d t x y)
 |0,_,_,_,_=>trivial
 |d+1,t,x,y,K=>by
  unfold Op.eqGuardIn;refine Zg (λ_=>Z2) λu K=>?_;split
  ·trivial
  ·refine Zg (λK=>Zci (λf s K=>?_) _ _ K) λr K=>?_
   ·split
    ·refine Zg (λ_=>Yp) λa K=>Zg (λ_=>Yp) λb K=>Zg (λK=>Y8 d _ _ _ K) λe K=>?_;split<;>trivial
    trivial
   dsimp only;split<;>trivial
  ·refine Zg (λ_=>Xq) λn K=>Zg (λK=>Zcg (λf s K=>?_) _ _ K) λr K=>?_
   ·refine Zg (λ_=>Yp) λa K=>Zg (λ_=>Yp) λb K=>Zg (λK=>Y8 d _ _ _ K) λe K=>?_;split<;>trivial
   dsimp only;split<;>trivial
  trivial
theorem Zi0 {op:BinOp} {t:TypeId} {x y:Operand} {a b:Value}:Zx P K (eqGuard op t x y a b):=by
 unfold eqGuard;split<;>simp only[Bool.not_true,Bool.not_false,if_true,Bool.false_eq_true,if_false];all_goals first|exact Zq|skip
 all_goals
  split
  ·refine YE Zq ?_;refine Zg (λK=>Y8 _ _ _ _ K) λe K=>YE Xd Zq
  ·refine Zg (λ_=>JW) λp K=>Zg (λ_=>JW) λp K=>YE Zq ?_;refine Zg (λK=>Y8 _ _ _ _ K) λe K=>YE Xd Zq
  exact Zq
theorem ZlJ {op:BinOp} {k A:IntKind} {a b:Int}:Zx P K (Op.shift op k a A b):=by
 unfold Op.shift;refine YE ZY ?_;dsimp only;split<;>first|exact Zq|exact Qd
theorem Zkf {op : BinOp} {t : TypeId} {k A : IntKind} {a b : Int} : Zx P K (binOp op t (.int k a) (.int A b)) := by
  cases op;all_goals
    simp only [binOp];first
    | exact ZlJ
    | (refine YE Qd ?_
       first
       | exact Zq
       | exact Qd
       | exact YE ZY Zq)
theorem ZbG {op:BinOp} {t:TypeId} {x y:Value} (A:Zc6 x) (H:∀k a,x≠ .int k a) (G:∀s,x≠ .string s) (I:op= .eql\/op= .neq):Zx P K (binOp op t x y):=by
 rcases I with rfl|rfl
 ·cases x with
  |int k a=>exact absurd rfl (H k a)
  |string s=>exact absurd rfl (G s)
  |bool b=>exact Zg (λ_=>Zag A) λ_ _=>Zq
  |agg c=>exact Zg (λ_=>Zag A) λ_ _=>Zq
  |_=>exact False.elim A
 cases x with
 |int k a=>exact absurd rfl (H k a)
 |string s=>exact absurd rfl (G s)
 |bool b=>exact Zg (λ_=>Zag A) λ_ _=>Zq
 |agg c=>exact Zg (λ_=>Zag A) λ_ _=>Zq
 |_=>exact False.elim A
theorem Zdd (d:Nat) (t:TypeId) (a:Option Addr) (n c:Nat) (K:Nat->Prop):Zx P K (Op.equalIn d t (.slice a n c) (.slice none 0 0)):=by
 cases d with
 |zero=>trivial
 |succ d=>
  unfold Op.equalIn;refine Zg (λ_=>Z2) λu K=>?_;cases u<;>cases a<;>first|exact Zq|exact Qd
end
section
variable {P:Program} {R:RC} {K:Nat->Prop}
theorem JP:∀ {A H:List AV} {g:Unit->Bool},ZO A H=some g->∀(j:Nat) x,A[j]? =some x->∃k n,x= .int k n
 |[],_,_,_,j,x,hx=>by simp at hx
 |.int k a::r,.int k' b::s,g,h,j,x,hx=>by
  simp only[ZO]at h;split at h
  ·simp only[aG]at h;obtain⟨I,G,_⟩:=h;cases j with
   |zero=>simp at hx;exact⟨k,a,hx.symm⟩
   |succ j=>exact JP G j x (by simpa using hx)
  cases h
theorem Zk5 {xs:List AV} {us:Array Value} (I:xs.length=us.size) (hr:∀j c,xs[j]? =some c->VR R c (us.getD j Go.undef)) (h:∀(j:Nat) x,xs[j]? =some x->∃k n,x= .int k n):Zc6 (.agg us):=by
 intro i c A;have H:i<us.size:=(Array.getElem?_eq_some_iff.1 A).1;have G:=List.getElem?_eq_getElem (l:=xs) (i:=i) (by omega);obtain⟨k,n,e⟩:=h i _ G;have:=hr i _ G;rw[e,Array.getD_eq_getD_getElem?,A]at this;rw[show c=_ from this.int_inv];trivial
theorem ZnR {j k:IntKind} {a b:Int}:Qh P (λv=>∃n,v=Value.int j n) K (Builtin.max2 (.int j a) (.int k b)):=⟨_,rfl⟩
theorem ZnQ {j k:IntKind} {a b:Int}:Qh P (λv=>∃n,v=Value.int j n) K (Builtin.min2 (.int j a) (.int k b)):=⟨_,rfl⟩
theorem ZbE {f:Value->Value->Sem Value} {j:IntKind} (A:∀(a:Int) (k:IntKind) (b:Int) (K:Nat->Prop),Qh P (λv=>∃n,v=Value.int j n) K (f (.int j a) (.int k b))):
  ∀(l:List Value) (a:Int) (K:Nat->Prop),(∀v∈l,∃k n,v=Value.int k n)->Zx P K (l.foldlM f (.int j a))
 |[],a,K,_=>Zq
 |v::l,a,K,h=>by
  obtain⟨k,n,rfl⟩:=h v (by simp);rw[List.foldlM_cons];refine XB (λK=>A a k n K) λx K G=>?_;obtain⟨m,rfl⟩:=G;exact ZbE A l m K λv hv=>h v (by simp[hv])
theorem ZgH {k:IntKind} {G:Bool}:∀ {l:List AV} {x:Unit->Int} {r:AV×Cd},ZgI k G l x=some r->∀a∈l,∃k n,a=AV.int k n
 |[],_,_,_,a,h=>by simp at h
 |b::l,x,r,h,a,A=>by
  cases b<;>simp only[ZgI]at h<;>try cases h
  rcases bG.1 A with rfl|A
  ·exact⟨_,_,rfl⟩
  exact ZgH h a A
theorem Zhz {G:Array TypeId} {t ty e:TypeId} {a:Option Addr} {n c:Nat} (I:G[0]? =some t) (H:P.underlying t=some (.slice e)):Zx P K (Builtin.len_ G ty #[.slice a n c]):=by
 unfold Builtin.len_;rw[I];refine XB (λ_=>Yq) λd K A=>?_;rw[H]at A;cases A;exact Zq
theorem Zi2 {s d:TypeId} {k j:IntKind} {n:Int} (A:P.underlying d=some (.int k)):Zx P K (convert s d (.int j n)):=by
 unfold convert;refine Zg (λ_=>Z2) λG K=>XB (λ_=>Yq) λH K h=>?_;rw[A]at h;cases h;cases G<;>exact Zq
theorem VR.sliceV {u:Value} {a:AV} (h:VR R a u) (G:(∃s n f tk,a= .isl s n f tk)\/(∃id s lo n c,a= .msl id s lo n c)\/(∃id n,a= .gsl id n)\/(∃id e l,a= .nsub id e l)):∃x n c,u= .slice x n c:=by
 rcases G with⟨s,n,f,tk,rfl⟩|⟨id,s,lo,n,c,rfl⟩|⟨id,n,rfl⟩|⟨id,e,l,rfl⟩
 ·have:=h.isl_inv;cases this<;>exact⟨_,_,_,rfl⟩
 ·cases h with
  |pure _ _ A=>cases A
  |msl=>exact⟨_,_,_,rfl⟩
 ·cases h with
  |pure _ _ A=>cases A
  |gsl=>exact⟨_,_,_,rfl⟩
 cases h with
 |pure _ _ A=>cases A
 |nsub=>exact⟨_,_,_,rfl⟩
theorem ZnA (n:Nat) (x:List Int):Zc6 (Xl n x):=by
 cases n with
 |zero=>trivial
 |succ n=>
  have G:∀(m:Nat) (x:List Int),∀c∈QI m x,Zit c:=by
   intro m;induction m with
   |zero=>intro x c A;cases A
   |succ m H=>
    intro x c A;rcases bG.1 A with rfl|A
    ·trivial
    exact H _ c A
  intro i c A;refine G (n+1) x c ?_;rw[List.getElem?_toArray]at A;exact List.mem_of_getElem? A
theorem ZcQ {I:TypeId} {G:Nat} {k:AV} {g:Unit->List Int} {u:Value} (A:ZhE (tyP P) I G k=some g) (H:VR R k u):Zc6 u:=by
 rw[(Zd1 A H).1];exact ZnA _ _
theorem ZgK {H J:TypeId} {A n:Nat} {L:Unit->List (List Int×List Int)} {k:AV} {ok:Bool} {r:AV×Cd} {u:Value} (hv:ZdZ (tyP P) H J A n L k ok=some r) (G:VR R k u):Zc6 u:=by
 unfold ZdZ at hv;split at hv
 ·rename_i g I;exact ZcQ I G
 cases hv
theorem Zja {t:TypeId} {m k:AV} {ok:Bool} {h:List Zh} {r:AV×Cd} {u:Value} (hv:JY (tyP P) t m k ok h=some r) (A:VR R k u):Zc6 u:=by
 unfold JY at hv;split at hv;case h_2=>cases hv
 split at hv
 ·split at hv
  ·split at hv
   ·rw[A.int_inv];trivial
   cases hv
  ·exact ZgK hv A
  ·split at hv
   ·rename_i g G _;exact ZcQ G A
   cases hv
  cases hv
 ·exact ZgK hv A
 cases hv
theorem ZfL {t:TypeId} {m k x:AV} {h:List Zh} {r:AV×List Zh×Cd} {u:Value} (hv:XV (tyP P) t m k x h=some r) (G:VR R k u):Zc6 u:=by
 unfold XV at hv;split at hv;case h_2=>cases hv
 split at hv
 ·split at hv
  ·rw[G.int_inv];trivial
  cases hv
 ·split at hv
  ·rename_i g d A H;exact ZcQ A G
  cases hv
 ·split at hv
  ·rename_i g _ _ _ A;exact ZcQ A G
  cases hv
 cases hv
theorem ZlN {v:Value}:Zx P K (Instr.entry v):=by
 unfold Instr.entry;split
 ·refine Xr (λo A=>?_) λo A=>?_
  ·split
   ·split
    ·refine Xr (λo A=>?_) λo A=>?_
     ·split
      ·refine YE (Zg (λ_=>Xd) λ_ _=>?_) ?_<;>(dsimp only;split<;>trivial)
      trivial
     cases o<;>first|(cases A;done)|trivial
    trivial
   trivial
  cases o<;>first|(cases A;done)|trivial
 trivial
theorem ZnP {v:Value} {ty:TypeId}:Zx P K (Instr.next v false ty):=by
 unfold Instr.next;dsimp only;split
 ·refine Xr (λo A=>?_) λo A=>?_
  ·split
   ·exact absurd (show false=true by assumption) (by decide)
   ·exact Zq
   ·refine Xr (λo A=>?_) λo A=>?_
    ·split
     ·refine YE (Qh.bind Xd λ_ J _ I=>?_) ?_
      ·refine Qh.bind Zaz λn H _ G=>?_;split
       ·exact Qh.bind (XO (G _ (I _ (.inl (.inr rfl)))) rfl) λ_ H _ _=>Zq
       ·exact Zq
       exact Qd
      refine Qh.bind Zaz λn H _ G=>?_;split
      ·exact Qh.bind (XO (G _ (.inl (.inr rfl))) rfl) λ_ H _ _=>Zq
      ·exact Zq
      exact Qd
     exact Qd
    cases o<;>first|(cases A;done)|trivial
   exact Qd
  cases o<;>first|(cases A;done)|trivial
 exact Qd
theorem ZlK {t:TypeId} {v:Value}:Zx P K (Instr.range t v):=by
 unfold Instr.range;refine Zg (λ_=>Z2) λu K=>?_;split
 ·exact XB (Q:=λo:Obj=>o.isChan=false) (λ_=>(show Obj.isChan _=false from rfl)) λo K A=>Zg (λ_=>YY A) λ_ _=>trivial
 ·exact XB (Q:=λo:Obj=>o.isChan=false) (λ_=>(show Obj.isChan _=false from rfl)) λo K A=>Zg (λ_=>YY A) λ_ _=>trivial
 ·refine Xr (λo A=>?_) λo A=>?_
  ·split
   ·exact XB (Q:=λo:Obj=>o.isChan=false) (λ_=>(show Obj.isChan _=false from rfl)) λo K A=>Zg (λ_=>YY A) λ_ _=>trivial
   trivial
  cases o<;>first|(cases A;done)|trivial
 trivial
theorem ZqV {o:Oper} {E:Operand->AV} {ρ:Operand->Value} (hK:∀v,ρ (.const v)=v) (Y:∀x∈o.op.operands,VR R (E x) (ρ x)) {h:List Zh} {v:AV} {c:Cd} (hv:JJ P E h o.op=some (v,c)):Zx P K (execOp ρ o):=by
 obtain⟨dst,op,ty,pos,after,guard⟩:=o;dsimp only at Y hv;cases op with
 |move x=>exact Zq
 |assign x=>exact Zq
 |pick a b d=>exact Zg (λ_=>Zfq) λ_ _=>Zq
 |nilCheck x=>
  have A:=Y x (by simp[bE]);have hp:∃a,ρ x= .pointer (some a):=by
   simp only[JJ]at hv;generalize ρ x=u at A;split at hv;all_goals first|(cases hv;done)|skip
   all_goals
    rename_i ab;rw[ab]at A;cases A with
    |pure _ _ hp=>cases hp<;>exact⟨_,rfl⟩
    |_=>exact⟨_,rfl⟩
  obtain⟨a,G⟩:=hp;simp only[execOp,G];exact Zq
 |load t a=>exact QS λ_=>Zfp
 |fieldAddr t x f=>
  simp only[JJ]at hv;split at hv
  ·rename_i T hT;unfold Jn at hv;split at hv
   ·rename_i au hk;obtain⟨fl,ar,rfl⟩:=ZcE hT hk;split at hv
    ·rename_i az sz g hf;split at hv
     ·cases hv
     rename_i ao;rw[List.getElem?_map,aG]at hf;obtain⟨fd,ai,aq⟩:=hf;rw[bN]at ai;obtain⟨j,d,hj,hd,ho,hs,hg⟩:=Zct aq;refine QS λK=>ZiY λfs f' h1 h2 i h3=>?_;rw[ar]at h1;cases h1;rw[ai]at h2;cases h2;rw[hj]at h3;cases h3;intro h0;rw[hs]at h0;subst h0;exact ao (by simp[ZI])
    cases hv
   cases hv
  cases hv
 |indexAddr t x i=>exact QS λ_=>ZiX
 |binOp op t x y yt=>
  have A:=Y x (by simp[bE]);have hy:=Y y (by simp[bE]);refine QS λK=>Zg (λ_=>Zi0) λ_ K=>?_;simp only[JJ]at hv;unfold ZeY at hv;split at hv
  ·rename_i hn;split at hv
   ·rename_i I hu;rw[show ρ y= .slice none 0 0 by rw[Zh1 hn];exact hK _];obtain⟨a,n,c',H⟩:∃a n c',ρ x= .slice a n c':=by
     have Z:∃r,Zdt op (E x)=some r:=⟨_,hv⟩;obtain⟨r,Z⟩:=Z;unfold Zdt at Z;split at Z;all_goals first|(cases Z;done)|skip
     all_goals
      rename_i ab;exact A.sliceV (by rw[ab];first|exact .inl ⟨_,_,_,_,rfl⟩|exact .inr (.inl ⟨_,_,_,_,_,rfl⟩)|exact .inr (.inr (.inl ⟨_,_,rfl⟩))|exact .inr (.inr (.inr ⟨_,_,_,rfl⟩)))
    rw[H];have ak:op= .eql\/op= .neq:=by
     unfold Zdt at hv;split at hv;all_goals first|(cases hv;done)|skip
     all_goals
      split at hv;all_goals first|exact .inl rfl|exact .inr rfl|cases hv
    rcases ak with rfl|rfl
    ·exact Zg (λK=>Zdd _ _ _ _ _ K) λ_ _=>Zq
    exact Zg (λK=>Zdd _ _ _ _ _ K) λ_ _=>Zq
   cases hv
  split at hv
  ·rename_i k a k' b U ac;rw[U]at A;rw[ac]at hy;rw[A.int_inv,hy.int_inv];exact Zkf
  ·rename_i xs ys U ac;rw[U]at A;obtain⟨us,hu,ah,ae⟩:=A.agg_inv;split at hv
   ·rw[hu];split at hv
    ·simp only[aG]at hv;obtain⟨g,hg,_⟩:=hv;exact ZbG (Zk5 ah ae (JP hg)) (by simp) (by simp) (.inl rfl)
    ·simp only[aG]at hv;obtain⟨g,hg,_⟩:=hv;exact ZbG (Zk5 ah ae (JP hg)) (by simp) (by simp) (.inr rfl)
    cases hv
   cases hv
  ·rename_i a b U ac;rw[U]at A;rw[A.bool_inv];split at hv
   ·split at hv
    ·exact ZbG trivial (by simp) (by simp) (.inl rfl)
    ·exact ZbG trivial (by simp) (by simp) (.inr rfl)
    cases hv
   cases hv
  cases hv
 |unOp op t x=>
  have A:=Y x (by simp[bE]);cases op with
  |not=>
   simp only[JJ]at hv;split at hv
   ·rename_i a G;rw[G]at A;simp only[execOp,A.bool_inv];exact QS λ_=>Zq
   cases hv
  |neg=>
   simp only[JJ]at hv;split at hv
   ·rename_i k a G;rw[G]at A;simp only[execOp,A.int_inv];exact QS λ_=>Zq
   cases hv
  |_=>simp[JJ]at hv
 |convert s d x=>
  have A:=Y x (by simp[bE]);simp only[JJ]at hv;split at hv
  ·rename_i k a S D G hS hD;rw[G]at A;split at hv
   ·rename_i k' hk;simp only[execOp,A.int_inv];exact QS λ_=>Zi2 (Zpa hD hk)
   cases hv
  cases hv
 |extract x i=>exact QS λ_=>ZiZ
 |build t ps=>exact QS λ_=>ZlQ
 |index t x i=>exact QS λ_=>ZlL
 |lookup t m k ok=>exact QS λ_=>Zke (Zja (by simpa only[JJ]using hv) (Y k (by simp[bE])))
 |entry x=>exact QS λ_=>ZlN
 |field t x i=>exact QS λ_=>ZlM
 |makeFunc fn first aw=>exact Zq
 |slice t x lo hi mx=>exact QS λ_=>ZiV
 |call cl=>
  obtain⟨V,args,argTypes⟩:=cl;cases V with
  |builtin b=>
   have A:∀x∈args,VR R (E x) (ρ x):=λx A=>Y x (by simp[bE,Call.operands,A]);cases b with
   |len=>
    simp only[JJ]at hv;have one:∀x,args.toList.map E=[x]->∃u,args.map ρ= #[u]/\VR R x u:=λx aa=>by
     obtain⟨l⟩:=args;match l,aa,A with
     |[z],aa,A=>exact⟨ρ z,by simp,by
       have:=A z (by simp);simp at aa
       rwa [aa]at this⟩
    have fin:∀ {a:AV} {t:TypeId} {ts:List TypeId},args.toList.map E=[a]->argTypes.toList=t::ts->(∃I,P.underlying t=some (.slice I))->
      ((∃s n f tk,a= .isl s n f tk)\/(∃id s lo n c,a= .msl id s lo n c)\/(∃id n,a= .gsl id n)\/(∃id e l,a= .nsub id e l))->Zx P K (execOp ρ {dst,op:=.call {callee:=.builtin .len,args,argTypes},type:=ty,pos,after,guard}):=by
     intro a t ts G J ⟨I,am⟩ hs;obtain⟨u,hu,aj⟩:=one _ G;obtain⟨x,n,c,rfl⟩:=aj.sliceV hs;show Zx P K (do pure (.value (<-Builtin.len_ argTypes ty (args.map ρ))):Sem Next);rw[hu];exact QS λ_=>Zhz (by rw[<-bN,J];rfl) am
    split at hv
    ·rename_i G J;split at hv
     ·rename_i I H;exact fin G J ⟨I,H⟩ (.inl ⟨_,_,_,_,rfl⟩)
     cases hv
    ·rename_i G J;split at hv
     ·rename_i I H;exact fin G J ⟨I,H⟩ (.inr (.inl ⟨_,_,_,_,_,rfl⟩))
     cases hv
    ·rename_i G J;split at hv
     ·rename_i I H;exact fin G J ⟨I,H⟩ (.inr (.inr (.inl ⟨_,_,rfl⟩)))
     cases hv
    ·rename_i G J;split at hv
     ·rename_i I H;exact fin G J ⟨I,H⟩ (.inr (.inr (.inr ⟨_,_,_,rfl⟩)))
     cases hv
    cases hv
   |max=>
    simp only[JJ]at hv;split at hv
    ·rename_i k x r G;have hm:=ZgH hv;show Zx P K (do pure (.value (<-Builtin.max_ argTypes ty (args.map ρ))):Sem Next);obtain⟨l⟩:=args;match l,G,A with
     |z::l,G,A=>
      simp only[bY,cC]at G;have hz:=A z (by simp);rw[G.1]at hz;refine QS λK=>?_;unfold Builtin.max_;simp only[fc,bY,hz.int_inv];refine ZbE (λa k b K=>ZnR) _ _ _ λv hv=>?_;obtain⟨y,hy,rfl⟩:=bC.1 hv;obtain⟨k',n',e⟩:=hm (E y) (by rw[<-G.2];exact bC.2 ⟨y,hy,rfl⟩);have:=A y (by simp[hy]);rw[e]at this;exact⟨_,_,this.int_inv⟩
    cases hv
   |min=>
    simp only[JJ]at hv;split at hv
    ·rename_i k x r G;have hm:=ZgH hv;show Zx P K (do pure (.value (<-Builtin.min_ argTypes ty (args.map ρ))):Sem Next);obtain⟨l⟩:=args;match l,G,A with
     |z::l,G,A=>
      simp only[bY,cC]at G;have hz:=A z (by simp);rw[G.1]at hz;refine QS λK=>?_;unfold Builtin.min_;simp only[fc,bY,hz.int_inv];refine ZbE (λa k b K=>ZnQ) _ _ _ λv hv=>?_;obtain⟨y,hy,rfl⟩:=bC.1 hv;obtain⟨k',n',e⟩:=hm (E y) (by rw[<-G.2];exact bC.2 ⟨y,hy,rfl⟩);have:=A y (by simp[hy]);rw[e]at this;exact⟨_,_,this.int_inv⟩
    cases hv
   |_=>simp[JJ]at hv
  |_=>simp[JJ]at hv
 |_=>simp[JJ]at hv
theorem ZkI {gr:Bool} {o:Oper} {E:Operand->AV} {ρ:Operand->Value} (I:∀x∈o.op.operands,VR R (E x) (ρ x)) {h:List Zh} {v:AV} {h':List Zh} {c:Cd} (hv:evE gr P E h o.op=some (v,h',c)):Zx P K (execOp ρ o):=by
 obtain⟨Z,S,ty,pos,U,V⟩:=o;dsimp only at I hv;have int:∀ {x:Operand},x∈S.operands->(∃k n,E x= .int k n)->Zc6 (ρ x):=λJ ⟨k,n,e⟩=>by
  have:=I _ J;rw[e]at this;rw[this.int_inv];trivial
 cases S with
 |alloc t=>exact QS λ_=>ZgF
 |box t x=>exact QS λ_=>Zqx
 |store t a x=>exact Zqw λ_=>ZdV
 |makeSlice t n c=>exact QS λ_=>ZgD
 |buildSlice t n ps=>exact QS λ_=>ZbW
 |makeMap t r=>
  cases r with
  |none=>exact QS λ_=>ZiW
  |some r=>simp[evE]at hv
 |mapUpdate t m k x=>exact Zqw λ_=>ZgB (ZfL (by simpa only[evE]using hv) (I k (by simp[bE])))
 |range t x=>exact QS λ_=>ZlK
 |call cl=>
  obtain⟨G,H,A⟩:=cl;cases G with
  |builtin b=>
   cases b with
   |append=>exact QS λ_=>Zkg
   |copy=>exact QS λ_=>ZnS
   |clear=>
    simp only[evE]at hv;split at hv
    ·rename_i x t ts Y ht;show Zx P K (do pure (.value (<-Builtin.clear_ A ty (H.map ρ))):Sem Next);obtain⟨l⟩:=H;obtain rfl:l=[x]:=Y;have J:=I x (by simp[bE,Call.operands]);simp only[fc,bY,List.map_nil];split at hv
     ·split at hv
      ·obtain⟨a,n,c',e⟩:=J.sliceV (by
        unfold Zg8 at hv;split at hv
        ·rename_i e _;rw[e];exact .inr (.inl ⟨_,_,_,_,_,rfl⟩)
        all_goals first|(cases hv;done)|(rename_i e _;rw[e];exact .inr (.inr (.inl ⟨_,_,rfl⟩)))|(rename_i e _;rw[e];exact .inr (.inr (.inr ⟨_,_,_,rfl⟩)))|(rename_i e _;rw[e];exact .inl ⟨_,_,_,_,rfl⟩))
       rw[e];exact QS λ_=>ZlO (by simp)
      cases hv
     cases hv
    cases hv
   |_=>simp[evE]at hv
  |_=>simp[evE]at hv
 |_=>simp[evE]at hv
end
end Vm
end Go.Proofs.YtjgpiclllehgmaaGreat
