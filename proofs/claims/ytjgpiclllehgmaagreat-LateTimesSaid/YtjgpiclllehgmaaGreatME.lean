/- Lemmas. -/
import Derived.Test.YtjgpiclllehgmaaGreatMT
import Derived.Test.YtjgpiclllehgmaaGreatCxSteps
set_option linter.all false
open Array renaming getElem?_toList->bN
open List.cons renaming injEq->cB
open List renaming map_cons->bV,map_toArray->eY,mem_cons->bG,mem_map->bE
open Go.Op renaming operands->bD
open Option renaming map_eq_some_iff->aG
namespace Go.Proofs.YtjgpiclllehgmaaGreat
namespace Vm
open Go Conc1
section
variable {P:Program} {α β:Type} {K:Nat->Prop}
theorem QI {s:Sem Value} (h:∀K,Zv P K s):Zv P K (do pure (.value (<-s)):Sem Next):=Zg h fun _ _=>Zn
theorem Zqa {s:Sem Unit} (h:∀K,Zv P K s):Zv P K (do s;pure .skip:Sem Next):=Zg h fun _ _=>Zn
theorem YZ:∀(d:Nat) (t:TypeId) (x y:Value) (K:Nat->Prop),Zv P K (Op.eqGuardIn d t x y)
 |0,_,_,_,_=>trivial
 |d+1,t,x,y,K=>by
  unfold Op.eqGuardIn;refine Zg (fun _=>ZZ) fun u K=>?_;split
  ·trivial
  ·refine Zg (fun K=>Zb6 (fun f s K=>?_) _ _ K) fun r K=>?_
   ·split
    ·refine Zg (fun _=>Yf) fun a K=>Zg (fun _=>Yf) fun b K=>Zg (fun K=>YZ d _ _ _ K) fun e K=>?_;split<;>trivial
    trivial
   dsimp only;split<;>trivial
  ·refine Zg (fun _=>Xi) fun n K=>Zg (fun K=>Zb4 (fun f s K=>?_) _ _ K) fun r K=>?_
   ·refine Zg (fun _=>Yf) fun a K=>Zg (fun _=>Yf) fun b K=>Zg (fun K=>YZ d _ _ _ K) fun e K=>?_;split<;>trivial
   dsimp only;split<;>trivial
  trivial
theorem ZiB {op:BinOp} {t:TypeId} {x y:Operand} {a b:Value}:Zv P K (eqGuard op t x y a b):=by
 unfold eqGuard;split<;>simp only[Bool.not_true,Bool.not_false,if_true,Bool.false_eq_true,if_false];all_goals first|exact Zn|skip
 all_goals
  split
  ·refine Yu Zn ?_;refine Zg (fun K=>YZ _ _ _ _ K) fun e K=>Yu Q6 Zn
  ·refine Zg (fun _=>JJ) fun p K=>Zg (fun _=>JJ) fun p K=>Yu Zn ?_;refine Zg (fun K=>YZ _ _ _ _ K) fun e K=>Yu Q6 Zn
  exact Zn
theorem Zlf {op:BinOp} {k A:IntKind} {a b:Int}:Zv P K (Op.shift op k a A b):=by
 unfold Op.shift;refine Yu ZW ?_;dsimp only;split<;>first|exact Zn|exact Z8
theorem ZjK {op : BinOp} {t : TypeId} {k A : IntKind} {a b : Int} : Zv P K (binOp op t (.int k a) (.int A b)) := by
  cases op;all_goals
    simp only [binOp];first
    | exact Zlf
    | (refine Yu Z8 ?_
       first
       | exact Zn
       | exact Z8
       | exact Yu ZW Zn)
theorem Zbp {op:BinOp} {t:TypeId} {x y:Value} (A:ZcR x) (H:∀k a,x≠ .int k a) (G:∀s,x≠ .string s) (I:op= .eql\/op= .neq):Zv P K (binOp op t x y):=by
 rcases I with rfl|rfl
 ·cases x with
  |int k a=>exact absurd rfl (H k a)
  |string s=>exact absurd rfl (G s)
  |bool b=>exact Zg (fun _=>J0 A) fun _ _=>Zn
  |agg c=>exact Zg (fun _=>J0 A) fun _ _=>Zn
  |_=>exact False.elim A
 cases x with
 |int k a=>exact absurd rfl (H k a)
 |string s=>exact absurd rfl (G s)
 |bool b=>exact Zg (fun _=>J0 A) fun _ _=>Zn
 |agg c=>exact Zg (fun _=>J0 A) fun _ _=>Zn
 |_=>exact False.elim A
theorem ZcY (d:Nat) (t:TypeId) (a:Option Addr) (n c:Nat) (K:Nat->Prop):Zv P K (Op.equalIn d t (.slice a n c) (.slice none 0 0)):=by
 cases d with
 |zero=>trivial
 |succ d=>
  unfold Op.equalIn;refine Zg (fun _=>ZZ) fun u K=>?_;cases u<;>cases a<;>first|exact Zn|exact Z8
end
section
variable {P:Program} {R:RC} {K:Nat->Prop}
theorem JB:∀ {A G:List AV} {g:Unit->Bool},ZK A G=some g->∀(j:Nat) x,A[j]? =some x->∃k n,x= .int k n
 |[],_,_,_,j,x,hx=>by simp at hx
 |.int k a::r,.int k' b::s,g,h,j,x,hx=>by
  simp only[ZK]at h;split at h
  ·simp only[aG]at h;obtain⟨I,H,_⟩:=h;cases j with
   |zero=>simp at hx;exact⟨k,a,hx.symm⟩
   |succ j=>exact JB H j x (by simpa using hx)
  cases h
theorem ZkC {xs:List AV} {us:Array Value} (I:xs.length=us.size) (hr:∀j c,xs[j]? =some c->VR R c (us.getD j Go.undef)) (h:∀(j:Nat) x,xs[j]? =some x->∃k n,x= .int k n):ZcR (.agg us):=by
 intro i c A;have H:i<us.size:=(Array.getElem?_eq_some_iff.1 A).1;have G:=List.getElem?_eq_getElem (l:=xs) (i:=i) (by omega);obtain⟨k,n,e⟩:=h i _ G;have:=hr i _ G;rw[e,Array.getD_eq_getD_getElem?,A]at this;rw[show c=_ from this.int_inv];trivial
theorem Znr {j k:IntKind} {a b:Int}:Qc P (fun v=>∃n,v=Value.int j n) K (Builtin.max2 (.int j a) (.int k b)):=⟨_,rfl⟩
theorem Znq {j k:IntKind} {a b:Int}:Qc P (fun v=>∃n,v=Value.int j n) K (Builtin.min2 (.int j a) (.int k b)):=⟨_,rfl⟩
theorem Zbn {f:Value->Value->Sem Value} {j:IntKind} (A:∀(a:Int) (k:IntKind) (b:Int) (K:Nat->Prop),Qc P (fun v=>∃n,v=Value.int j n) K (f (.int j a) (.int k b))):
  ∀(l:List Value) (a:Int) (K:Nat->Prop),(∀v∈l,∃k n,v=Value.int k n)->Zv P K (l.foldlM f (.int j a))
 |[],a,K,_=>Zn
 |v::l,a,K,h=>by
  obtain⟨k,n,rfl⟩:=h v (by simp);rw[List.foldlM_cons];refine Xr (fun K=>A a k n K) fun x K G=>?_;obtain⟨m,rfl⟩:=G;exact Zbn A l m K fun v hv=>h v (by simp[hv])
theorem Zgp {k:IntKind} {G:Bool}:∀ {l:List AV} {x:Unit->Int} {r:AV×Cd},Zgq k G l x=some r->∀a∈l,∃k n,a=AV.int k n
 |[],_,_,_,a,h=>by simp at h
 |b::l,x,r,h,a,A=>by
  cases b<;>simp only[Zgq]at h<;>try cases h
  rcases bG.1 A with rfl|A
  ·exact⟨_,_,rfl⟩
  exact Zgp h a A
theorem Zhf {G:Array TypeId} {t ty e:TypeId} {a:Option Addr} {n c:Nat} (H:G[0]? =some t) (I:P.underlying t=some (.slice e)):Zv P K (Builtin.len_ G ty #[.slice a n c]):=by
 unfold Builtin.len_;rw[H];refine Xr (fun _=>Yg) fun d K A=>?_;rw[I]at A;cases A;exact Zn
theorem ZiD {s d:TypeId} {k j:IntKind} {n:Int} (G:P.underlying d=some (.int k)):Zv P K (convert s d (.int j n)):=by
 unfold convert;refine Zg (fun _=>ZZ) fun A K=>Xr (fun _=>Yg) fun H K h=>?_;rw[G]at h;cases h;cases A<;>exact Zn
theorem VR.sliceV {u:Value} {a:AV} (h:VR R a u) (G:(∃s n f tk,a= .isl s n f tk)\/(∃id s lo n c,a= .msl id s lo n c)\/(∃id n,a= .gsl id n)\/(∃id e l,a= .nsub id e l)):∃x n c,u= .slice x n c:=by
 rcases G with⟨s,n,f,tk,rfl⟩|⟨id,s,lo,n,c,rfl⟩|⟨id,n,rfl⟩|⟨id,e,l,rfl⟩
 ·have:=h.isl_inv;cases this<;>exact⟨_,_,_,rfl⟩
 ·cases h with
  |pure _ _ A=>cases A
  |msl=>exact⟨_,_,_,rfl⟩
 ·cases h with
  |pure _ _ A=>cases A
  |gsl=>exact⟨_,_,_,rfl⟩
 cases h with
 |pure _ _ A=>cases A
 |nsub=>exact⟨_,_,_,rfl⟩
theorem Zm9 (n:Nat) (x:List Int):ZcR (Xf n x):=by
 cases n with
 |zero=>trivial
 |succ n=>
  have G:∀(m:Nat) (x:List Int),∀c∈Qv m x,Zh5 c:=by
   intro m;induction m with
   |zero=>intro x c A;cases A
   |succ m H=>
    intro x c A;rcases bG.1 A with rfl|A
    ·trivial
    exact H _ c A
  intro i c A;refine G (n+1) x c ?_;rw[List.getElem?_toArray]at A;exact List.mem_of_getElem? A
theorem ZcD {G:TypeId} {H:Nat} {k:AV} {g:Unit->List Int} {u:Value} (I:Zhk (tyP P) G H k=some g) (A:VR R k u):ZcR u:=by
 rw[(ZdI I A).1];exact Zm9 _ _
theorem Zgt {I J:TypeId} {A n:Nat} {L:Unit->List (List Int×List Int)} {k:AV} {ok:Bool} {r:AV×Cd} {u:Value} (hv:ZdG (tyP P) I J A n L k ok=some r) (G:VR R k u):ZcR u:=by
 unfold ZdG at hv;split at hv
 ·rename_i g H;exact ZcD H G
 cases hv
theorem ZiL {t:TypeId} {m k:AV} {ok:Bool} {h:List Zh} {r:AV×Cd} {u:Value} (hv:JL (tyP P) t m k ok h=some r) (A:VR R k u):ZcR u:=by
 unfold JL at hv;split at hv;case h_2=>cases hv
 split at hv
 ·split at hv
  ·split at hv
   ·rw[A.int_inv];trivial
   cases hv
  ·exact Zgt hv A
  ·split at hv
   ·rename_i g G _;exact ZcD G A
   cases hv
  cases hv
 ·exact Zgt hv A
 cases hv
theorem Zfp {t:TypeId} {m k x:AV} {h:List Zh} {r:AV×List Zh×Cd} {u:Value} (hv:XJ (tyP P) t m k x h=some r) (A:VR R k u):ZcR u:=by
 unfold XJ at hv;split at hv;case h_2=>cases hv
 split at hv
 ·split at hv
  ·rw[A.int_inv];trivial
  cases hv
 ·split at hv
  ·rename_i g d G H;exact ZcD G A
  cases hv
 ·split at hv
  ·rename_i g _ _ _ G;exact ZcD G A
  cases hv
 cases hv
theorem Zlj {v:Value}:Zv P K (Instr.entry v):=by
 unfold Instr.entry;split
 ·refine Xj (fun o A=>?_) fun o A=>?_
  ·split
   ·split
    ·refine Xj (fun o A=>?_) fun o A=>?_
     ·split
      ·refine Yu (Zg (fun _=>Q6) fun _ _=>?_) ?_<;>(dsimp only;split<;>trivial)
      trivial
     cases o<;>first|(cases A;done)|trivial
    trivial
   trivial
  cases o<;>first|(cases A;done)|trivial
 trivial
theorem Znp {v:Value} {ty:TypeId}:Zv P K (Instr.next v false ty):=by
 unfold Instr.next;dsimp only;split
 ·refine Xj (fun o A=>?_) fun o A=>?_
  ·split
   ·exact absurd (show false=true by assumption) (by decide)
   ·exact Zn
   ·refine Xj (fun o A=>?_) fun o A=>?_
    ·split
     ·refine Yu (Qc.bind Q6 fun _ J _ I=>?_) ?_
      ·refine Qc.bind Zah fun n H _ G=>?_;split
       ·exact Qc.bind (XD (G _ (I _ (.inl (.inr rfl)))) rfl) fun _ H _ _=>Zn
       ·exact Zn
       exact Z8
      refine Qc.bind Zah fun n H _ G=>?_;split
      ·exact Qc.bind (XD (G _ (.inl (.inr rfl))) rfl) fun _ H _ _=>Zn
      ·exact Zn
      exact Z8
     exact Z8
    cases o<;>first|(cases A;done)|trivial
   exact Z8
  cases o<;>first|(cases A;done)|trivial
 exact Z8
theorem Zlg {t:TypeId} {v:Value}:Zv P K (Instr.range t v):=by
 unfold Instr.range;refine Zg (fun _=>ZZ) fun u K=>?_;split
 ·exact Xr (Q:=fun o:Obj=>o.isChan=false) (fun _=>(show Obj.isChan _=false from rfl)) fun o K A=>Zg (fun _=>YN A) fun _ _=>trivial
 ·exact Xr (Q:=fun o:Obj=>o.isChan=false) (fun _=>(show Obj.isChan _=false from rfl)) fun o K A=>Zg (fun _=>YN A) fun _ _=>trivial
 ·refine Xj (fun o A=>?_) fun o A=>?_
  ·split
   ·exact Xr (Q:=fun o:Obj=>o.isChan=false) (fun _=>(show Obj.isChan _=false from rfl)) fun o K A=>Zg (fun _=>YN A) fun _ _=>trivial
   trivial
  cases o<;>first|(cases A;done)|trivial
 trivial
theorem Zqz {o:Oper} {E:Operand->AV} {ρ:Operand->Value} (hK:∀v,ρ (.const v)=v) (U:∀x∈o.op.operands,VR R (E x) (ρ x)) {h:List Zh} {v:AV} {c:Cd} (hv:Jv P E h o.op=some (v,c)):Zv P K (execOp ρ o):=by
 obtain⟨dst,op,ty,pos,after,guard⟩:=o;dsimp only at U hv;cases op with
 |move x=>exact Zn
 |assign x=>exact Zn
 |pick a b d=>exact Zg (fun _=>Ze4) fun _ _=>Zn
 |nilCheck x=>
  have A:=U x (by simp[bD]);have hp:∃a,ρ x= .pointer (some a):=by
   simp only[Jv]at hv;generalize ρ x=u at A;split at hv;all_goals first|(cases hv;done)|skip
   all_goals
    rename_i ac;rw[ac]at A;cases A with
    |pure _ _ hp=>cases hp<;>exact⟨_,rfl⟩
    |_=>exact⟨_,rfl⟩
  obtain⟨a,G⟩:=hp;simp only[execOp,G];exact Zn
 |load t a=>exact QI fun _=>Ze3
 |fieldAddr t x f=>
  simp only[Jv]at hv;split at hv
  ·rename_i T hT;unfold Jc at hv;split at hv
   ·rename_i au hk;obtain⟨fl,ao,rfl⟩:=Zcq hT hk;split at hv
    ·rename_i ar sz g hf;split at hv
     ·cases hv
     rename_i ap;rw[List.getElem?_map,aG]at hf;obtain⟨fd,ai,aq⟩:=hf;rw[bN]at ai;obtain⟨j,d,hj,hd,ho,hs,hg⟩:=Zci aq;refine QI fun K=>Ziz fun fs f' h1 h2 i h3=>?_;rw[ao]at h1;cases h1;rw[ai]at h2;cases h2;rw[hj]at h3;cases h3;intro h0;rw[hs]at h0;subst h0;exact ap (by simp[ZD])
    cases hv
   cases hv
  cases hv
 |indexAddr t x i=>exact QI fun _=>Ziy
 |binOp op t x y yt=>
  have A:=U x (by simp[bD]);have Y:=U y (by simp[bD]);refine QI fun K=>Zg (fun _=>ZiB) fun _ K=>?_;simp only[Jv]at hv;unfold ZeD at hv;split at hv
  ·rename_i hn;split at hv
   ·rename_i I hu;rw[show ρ y= .slice none 0 0 by rw[ZhE hn];exact hK _];obtain⟨a,n,c',H⟩:∃a n c',ρ x= .slice a n c':=by
     have Z:∃r,Zdb op (E x)=some r:=⟨_,hv⟩;obtain⟨r,Z⟩:=Z;unfold Zdb at Z;split at Z;all_goals first|(cases Z;done)|skip
     all_goals
      rename_i ac;exact A.sliceV (by rw[ac];first|exact .inl ⟨_,_,_,_,rfl⟩|exact .inr (.inl ⟨_,_,_,_,_,rfl⟩)|exact .inr (.inr (.inl ⟨_,_,rfl⟩))|exact .inr (.inr (.inr ⟨_,_,_,rfl⟩)))
    rw[H];have ak:op= .eql\/op= .neq:=by
     unfold Zdb at hv;split at hv;all_goals first|(cases hv;done)|skip
     all_goals
      split at hv;all_goals first|exact .inl rfl|exact .inr rfl|cases hv
    rcases ak with rfl|rfl
    ·exact Zg (fun K=>ZcY _ _ _ _ _ K) fun _ _=>Zn
    exact Zg (fun K=>ZcY _ _ _ _ _ K) fun _ _=>Zn
   cases hv
  split at hv
  ·rename_i k a k' b V ae;rw[V]at A;rw[ae]at Y;rw[A.int_inv,Y.int_inv];exact ZjK
  ·rename_i xs ys V ae;rw[V]at A;obtain⟨us,hu,aj,ah⟩:=A.agg_inv;split at hv
   ·rw[hu];split at hv
    ·simp only[aG]at hv;obtain⟨g,hg,_⟩:=hv;exact Zbp (ZkC aj ah (JB hg)) (by simp) (by simp) (.inl rfl)
    ·simp only[aG]at hv;obtain⟨g,hg,_⟩:=hv;exact Zbp (ZkC aj ah (JB hg)) (by simp) (by simp) (.inr rfl)
    cases hv
   cases hv
  ·rename_i a b V ae;rw[V]at A;rw[A.bool_inv];split at hv
   ·split at hv
    ·exact Zbp trivial (by simp) (by simp) (.inl rfl)
    ·exact Zbp trivial (by simp) (by simp) (.inr rfl)
    cases hv
   cases hv
  cases hv
 |unOp op t x=>
  have A:=U x (by simp[bD]);cases op with
  |not=>
   simp only[Jv]at hv;split at hv
   ·rename_i a G;rw[G]at A;simp only[execOp,A.bool_inv];exact QI fun _=>Zn
   cases hv
  |neg=>
   simp only[Jv]at hv;split at hv
   ·rename_i k a G;rw[G]at A;simp only[execOp,A.int_inv];exact QI fun _=>Zn
   cases hv
  |_=>simp[Jv]at hv
 |convert s d x=>
  have A:=U x (by simp[bD]);simp only[Jv]at hv;split at hv
  ·rename_i k a S D G hS hD;rw[G]at A;split at hv
   ·rename_i k' hk;simp only[execOp,A.int_inv];exact QI fun _=>ZiD (ZoN hD hk)
   cases hv
  cases hv
 |extract x i=>exact QI fun _=>ZiA
 |build t ps=>exact QI fun _=>Zlm
 |index t x i=>exact QI fun _=>Zlh
 |lookup t m k ok=>exact QI fun _=>ZjJ (ZiL (by simpa only[Jv]using hv) (U k (by simp[bD])))
 |entry x=>exact QI fun _=>Zlj
 |field t x i=>exact QI fun _=>Zli
 |makeFunc fn first aw=>exact Zn
 |slice t x lo hi mx=>exact QI fun _=>Ziw
 |call cl=>
  obtain⟨aa,args,argTypes⟩:=cl;cases aa with
  |builtin b=>
   have A:∀x∈args,VR R (E x) (ρ x):=fun x A=>U x (by simp[bD,Call.operands,A]);cases b with
   |len=>
    simp only[Jv]at hv;have one:∀x,args.toList.map E=[x]->∃u,args.map ρ= #[u]/\VR R x u:=fun x ab=>by
     obtain⟨l⟩:=args;match l,ab,A with
     |[z],ab,A=>exact⟨ρ z,by simp,by
       have:=A z (by simp);simp at ab
       rwa [ab]at this⟩
    have fin:∀ {a:AV} {t:TypeId} {ts:List TypeId},args.toList.map E=[a]->argTypes.toList=t::ts->(∃I,P.underlying t=some (.slice I))->
      ((∃s n f tk,a= .isl s n f tk)\/(∃id s lo n c,a= .msl id s lo n c)\/(∃id n,a= .gsl id n)\/(∃id e l,a= .nsub id e l))->Zv P K (execOp ρ {dst,op:=.call {callee:=.builtin .len,args,argTypes},type:=ty,pos,after,guard}):=by
     intro a t ts G J ⟨I,al⟩ hs;obtain⟨u,hu,am⟩:=one _ G;obtain⟨x,n,c,rfl⟩:=am.sliceV hs;show Zv P K (do pure (.value (<-Builtin.len_ argTypes ty (args.map ρ))):Sem Next);rw[hu];exact QI fun _=>Zhf (by rw[<-bN,J];rfl) al
    split at hv
    ·rename_i G J;split at hv
     ·rename_i I H;exact fin G J ⟨I,H⟩ (.inl ⟨_,_,_,_,rfl⟩)
     cases hv
    ·rename_i G J;split at hv
     ·rename_i I H;exact fin G J ⟨I,H⟩ (.inr (.inl ⟨_,_,_,_,_,rfl⟩))
     cases hv
    ·rename_i G J;split at hv
     ·rename_i I H;exact fin G J ⟨I,H⟩ (.inr (.inr (.inl ⟨_,_,rfl⟩)))
     cases hv
    ·rename_i G J;split at hv
     ·rename_i I H;exact fin G J ⟨I,H⟩ (.inr (.inr (.inr ⟨_,_,_,rfl⟩)))
     cases hv
    cases hv
   |max=>
    simp only[Jv]at hv;split at hv
    ·rename_i k x r G;have hm:=Zgp hv;show Zv P K (do pure (.value (<-Builtin.max_ argTypes ty (args.map ρ))):Sem Next);obtain⟨l⟩:=args;match l,G,A with
     |z::l,G,A=>
      simp only[bV,cB]at G;have hz:=A z (by simp);rw[G.1]at hz;refine QI fun K=>?_;unfold Builtin.max_;simp only[eY,bV,hz.int_inv];refine Zbn (fun a k b K=>Znr) _ _ _ fun v hv=>?_;obtain⟨y,Y,rfl⟩:=bE.1 hv;obtain⟨k',n',e⟩:=hm (E y) (by rw[<-G.2];exact bE.2 ⟨y,Y,rfl⟩);have:=A y (by simp[Y]);rw[e]at this;exact⟨_,_,this.int_inv⟩
    cases hv
   |min=>
    simp only[Jv]at hv;split at hv
    ·rename_i k x r G;have hm:=Zgp hv;show Zv P K (do pure (.value (<-Builtin.min_ argTypes ty (args.map ρ))):Sem Next);obtain⟨l⟩:=args;match l,G,A with
     |z::l,G,A=>
      simp only[bV,cB]at G;have hz:=A z (by simp);rw[G.1]at hz;refine QI fun K=>?_;unfold Builtin.min_;simp only[eY,bV,hz.int_inv];refine Zbn (fun a k b K=>Znq) _ _ _ fun v hv=>?_;obtain⟨y,Y,rfl⟩:=bE.1 hv;obtain⟨k',n',e⟩:=hm (E y) (by rw[<-G.2];exact bE.2 ⟨y,Y,rfl⟩);have:=A y (by simp[Y]);rw[e]at this;exact⟨_,_,this.int_inv⟩
    cases hv
   |_=>simp[Jv]at hv
  |_=>simp[Jv]at hv
 |_=>simp[Jv]at hv
theorem Zke {gr:Bool} {o:Oper} {E:Operand->AV} {ρ:Operand->Value} (I:∀x∈o.op.operands,VR R (E x) (ρ x)) {h:List Zh} {v:AV} {h':List Zh} {c:Cd} (hv:evE gr P E h o.op=some (v,h',c)):Zv P K (execOp ρ o):=by
 obtain⟨Z,S,ty,pos,U,V⟩:=o;dsimp only at I hv;have int:∀ {x:Operand},x∈S.operands->(∃k n,E x= .int k n)->ZcR (ρ x):=fun J ⟨k,n,e⟩=>by
  have:=I _ J;rw[e]at this;rw[this.int_inv];trivial
 cases S with
 |alloc t=>exact QI fun _=>Zgm
 |box t x=>exact QI fun _=>Zqb
 |store t a x=>exact Zqa fun _=>ZdC
 |makeSlice t n c=>exact QI fun _=>Zgk
 |buildSlice t n ps=>exact QI fun _=>ZbI
 |makeMap t r=>
  cases r with
  |none=>exact QI fun _=>Zix
  |some r=>simp[evE]at hv
 |mapUpdate t m k x=>exact Zqa fun _=>Zgi (Zfp (by simpa only[evE]using hv) (I k (by simp[bD])))
 |range t x=>exact QI fun _=>Zlg
 |call cl=>
  obtain⟨G,H,A⟩:=cl;cases G with
  |builtin b=>
   cases b with
   |append=>exact QI fun _=>ZjL
   |copy=>exact QI fun _=>Zns
   |clear=>
    simp only[evE]at hv;split at hv
    ·rename_i x t ts Y ht;show Zv P K (do pure (.value (<-Builtin.clear_ A ty (H.map ρ))):Sem Next);obtain⟨l⟩:=H;obtain rfl:l=[x]:=Y;have J:=I x (by simp[bD,Call.operands]);simp only[eY,bV,List.map_nil];split at hv
     ·split at hv
      ·obtain⟨a,n,c',e⟩:=J.sliceV (by
        unfold ZgS at hv;split at hv
        ·rename_i e _;rw[e];exact .inr (.inl ⟨_,_,_,_,_,rfl⟩)
        all_goals first|(cases hv;done)|(rename_i e _;rw[e];exact .inr (.inr (.inl ⟨_,_,rfl⟩)))|(rename_i e _;rw[e];exact .inr (.inr (.inr ⟨_,_,_,rfl⟩)))|(rename_i e _;rw[e];exact .inl ⟨_,_,_,_,rfl⟩))
       rw[e];exact QI fun _=>Zlk (by simp)
      cases hv
     cases hv
    cases hv
   |_=>simp[evE]at hv
  |_=>simp[evE]at hv
 |_=>simp[evE]at hv
end
end Vm
end Go.Proofs.YtjgpiclllehgmaaGreat
