/- Lemmas. -/
import Derived.Calls
import Derived.Laws.Entries
import Derived.Laws.Cells
import Derived.Laws.BitsLemmas
import Derived.Laws.Slices
import Derived.Laws.StructEq
import Derived.ChangeKeysEq
set_option linter.all false
open Array renaming getD_eq_getD_getElem?->aI,getElem?_eq_getElem->aY,getElem?_extract->fi,getElem?_setIfInBounds->bS,getElem?_toList->bN,mem_toList_iff->cL
open Bool renaming and_eq_true->aS,false_eq_true->aX,not_eq_true'->cG,not_true->d9,true_and->fO
open Go.Instr renaming checkKey->cY,findAsking->eC,findKey->dP,findNow->dQ,indexAt->eP,loadAt->ec,sliceAt->eQ,sliceBounds->dA,sureAddr->cN
open Int renaming eq_ofNat_of_zero_le->bU
open List renaming all_eq_true->bM,drop_drop->gj,drop_eq_nil_of_le->bB,eq_nil_of_length_eq_zero->cP,forIn_cons->gM,getD_cons_zero->fa,getD_eq_getElem?_getD->aA,getElem?_cons_zero->bJ,getElem?_drop->cT,getElem?_eq_getElem->aC,getElem?_eq_some_iff->aE,getElem?_map->aP,getElem?_set->bQ,getElem?_take->cR,getElem_cons_succ->gP,length_eq_one_iff->eH,length_eq_zero_iff->gK,lookup->eV,map_cons->bX,mem_cons->bG,mem_cons_of_mem->aR,mem_cons_self->aU,mem_map->bE,mem_of_getElem?->aZ,mem_singleton->aN,nodup_cons->ee,range'->eG
open List.cons renaming injEq->cB
open Nat renaming add_assoc->dG,add_mul->dI,add_zero->dS,le_refl->aJ,le_trans->cF,lt_of_lt_of_le->cH,mul_le_mul_right->aL,sub_zero->fG,succ_mul->bI,zero_add->dB,zero_mul->ep
open Go.Op renaming operands->bD
open Option renaming bind_eq_some_iff->ej,getD_some->bY,isSome->gV,map_eq_some_iff->aG,map_some->cI
open Option.some renaming injEq->aD
open Prod.mk renaming injEq->aK
open Go.Result renaming andThen_ok->aH
open Go.Sem renaming run_bind->aQ,run_pure->bC
namespace Go.Proofs.YtjgpiclllehgmaaGreat
theorem iP.{u} {c:Prop} {h:Decidable c} (hnc:¬c) {α:Sort u} {t e:α}:ite c t e=e:=if_neg hnc
theorem iQ.{u} {c:Prop} {h:Decidable c} (hc:c) {α:Sort u} {t e:α}:ite c t e=t:=if_pos hc
theorem iR {p:Prop} [Decidable p]:(decide p=true)=p:=decide_eq_true_eq
theorem iS {p:Prop} {x:Decidable p}:decide p=false<->¬p:=decide_eq_false_iff_not
theorem iU {p:Prop} [inst:Decidable p]:decide p=true->p:=of_decide_eq_true
theorem iV {p:Prop} [inst:Decidable p]:decide p=false->¬p:=of_decide_eq_false
theorem iW {p:Prop} [inst:Decidable p]:¬p->decide p=false:=decide_eq_false
theorem iX {p:Prop} [inst:Decidable p]:p->decide p=true:=decide_eq_true
theorem iY.{u} {α:Type u} [BEq α] [LawfulBEq α] {a b:α}:(a != b)=false<->a=b:=bne_eq_false_iff_eq
end Go.Proofs.YtjgpiclllehgmaaGreat
namespace Go.Proofs.YtjgpiclllehgmaaGreat
namespace Vm
open Go
def ZK (a b:Nat):Bool:=decide (a=b)
def Qd (a b:Nat):Bool:=decide (a<=b)
def ltN (a b:Nat):Bool:=decide (a<b)
theorem ZF {a b:Nat} (h:ZK a b=true):a=b:=iU h
theorem Xc {a b:Nat} (h:Qd a b=true):a<=b:=iU h
theorem ZaD {a b:Nat} (h:ltN a b=true):a<b:=iU h
inductive Tk where
 |none|nil|exact|own (id:Nat)|nn
def Tk.ow:Tk->Bool
 |.own _|.nn=>true
 |_=>false
inductive AV where
 |undef
 |bool (b:Unit->Bool)
 |int (k:IntKind) (n:Unit->Int)
 |str (s:Unit->ByteArray)
 |ptr (id off:Nat)
 |nilptr
 |iptr (cells:List AV) (off:Nat)
 |isl (s:Nat) (n:Unit->Int) (f:(Unit->Int)->List AV) (tk:Tk)
 |aptr (id s:Nat) (e:Unit->Int) (off:Nat)
 |msl (id s:Nat) (lo n c:Unit->Int)
 |gsl (id:Nat) (n:Unit->Int)
 |gptr (id s:Nat) (n e:Unit->Int) (off:Nat)
 |nsub (id:Nat) (e l:Unit->Int)
 |nptr (id s:Nat) (e k:Unit->Int) (off:Nat)
 |lit (s:Nat) (cs:List AV)
 |map (id:Nat)
 |mit (id:Nat)
 |cch (c:Nat)
 |imap (ka n:Nat) (L:Unit->List (List Int×List Int))
 |nilmap
 |fn (f:FuncId) (first cap:List AV)
 |yld (id:Nat)
 |nilfn
 |agg (cs:List AV)
 |tup (vs:List AV)
 |gd (g:Unit->Bool) (v:AV)
 |ob (g b:Unit->Bool)
structure Ziw where
 ps:Array Tmp
 a:Code
 x:Code
 st:LoopState
 pe:Option Code
inductive Gob where
 |chq (c:Nat) (l:Unit->List Bool)
 |mapL (ka n:Nat) (L:Unit->List (List Int×List Int))
 |mapM (ka kb n:Nat) (L:Unit->List (List Int×List (List Int×List Int)))
 |mapIt (ka n:Nat) (L:Unit->List (List Int×List Int)) (seen:Unit->List (List Int)) (cur:Unit->List Int×List Int)
 |any
inductive Zi where
 |cells (cs:List AV)
 |arr (s:Nat) (n:Unit->Int) (f:(Unit->Int)->List AV)
 |tok (s:Nat) (hw:Unit->Int)
 |gar (s:Nat) (n:Unit->Int) (f:(Unit->Int)->List AV)
 |fro (s:Nat) (n:Unit->Int) (f:(Unit->Int)->List AV)
 |vgar (s:Nat) (n:Unit->Int) (f:(Unit->Int)->List AV)
 |fam (z s:Nat) (n:Unit->Int) (m:(Unit->Int)->Unit->Int) (g:(Unit->Int)->(Unit->Int)->List AV)
 |mapB (m:(Unit->Int)->Unit->Bool)
 |loop (s:List AV) (d:Ziw)
 |gob (g:Gob)
 |main
 |dead
structure Loc where
 b:Nat
 o:Nat
structure RC where
 w:World
 m:Nat
 n0:Nat
 α:Nat->Loc
 hw:Nat->Int
 hv:Nat->Value
 ok:Nat->Nat->Nat->Prop
 cx:Option Nat:=none
def QF:Nat->List Int->List Value
 |0,_=>[]
 |n+1,xs=>.int .i64 (xs.headD 0)::QF n xs.tail
def Xu:Nat->List Int->Value
 |0,xs=>.int .i64 (xs.headD 0)
 |n+1,xs=>.agg (QF (n+1) xs).toArray
def Zkl:Nat->Nat
 |0=>1
 |n+1=>n+1
structure ZrC {α:Type} (ka:Nat) (V:α->Value->Prop) (l:List (MapEntry×(List Int×α))) (es:Array MapEntry) (clk:Nat) (L:List (List Int×α)):Prop where
 es:l.map (·.1)=es.toList
 L:(l.map (·.2)).Perm L
 nd:(l.map (·.2.1)).Nodup
 bn:(l.map (·.1.born)).Nodup
 e:∀p∈l,p.1.key=Xu ka p.2.1/\V p.2.2 p.1.val/\p.2.1.length=Zkl ka/\p.1.born<clk
def ZeV {α:Type} (A:Nat) (V:α->Value->Prop) (es:Array MapEntry) (clk:Nat) (L:List (List Int×α)):Prop:=∃l,ZrC A V l es clk L
inductive PR (w:World) (ok:Nat->Nat->Nat->Prop):AV->Value->Prop where
 |bool (b):PR w ok (.bool b) (.bool (b ()))
 |int (k n):PR w ok (.int k n) (.int k (n ()))
 |str (s):PR w ok (.str s) (.string (s ()))
 |nilptr:PR w ok .nilptr (.pointer none)
 |cch (c):PR w ok (.cch c) (.chan (some c))
 |imap (ka n:Nat) (L:Unit->List (List Int×List Int)) (b:Nat) (es:Array MapEntry) (clk:Nat) (h1:w.heap[b]? =some (.map es clk)) (h2:ZeV ka (λxs v=>v=Xu n xs) es clk (L ())) (h3:ok b 0 1):PR w ok (.imap ka n L) (.map (some b))
 |imap0 (ka n:Nat) (L:Unit->List (List Int×List Int)) (h:L ()=[]):PR w ok (.imap ka n L) (.map none)
 |nilmap:PR w ok .nilmap (.map none)
 |nilfn:PR w ok .nilfn .nilFunc
 |iptr (cs:List AV) (off b o:Nat) (us:Nat->Value) (h1:∀j c,cs[j]? =some c->w.cell? ⟨b,o+j,none⟩=some (us j)) (h2:∀j c,cs[j]? =some c->PR w ok c (us j))
   (h3:ok b o cs.length):PR w ok (.iptr cs off) (.pointer (some ⟨b,o+off,none⟩))
 |isl0 (s n f tk) (h:n ()=0) (ht:tk.ow=false):PR w ok (.isl s n f tk) (.slice none 0 0)
 |islE (s n f tk) (a:Addr) (h:n ()=0) (ht:tk= .none\/tk= .exact):PR w ok (.isl s n f tk) (.slice (some a) 0 0)
 |isl (s n f tk b o) (len cap:Nat) (us:Nat->Nat->Value) (hn:n ()=(len:Int)) (hc:len<=cap) (ht:tk= .none\/tk= .exact) (he:tk= .exact->cap=len)
   (hl:∀i:Nat,i<len->(f (λ_=>(i:Int))).length=s)
   (h1:∀i j c,i<len->(f (λ_=>(i:Int)))[j]? =some c->w.cell? ⟨b,o+i*s+j,none⟩=some (us i j))
   (h2:∀i j c,i<len->(f (λ_=>(i:Int)))[j]? =some c->PR w ok c (us i j))
   (h3:ok b o (len*s)):PR w ok (.isl s n f tk) (.slice (some ⟨b,o,none⟩) len cap)
inductive VR (R:RC):AV->Value->Prop where
 |pure (a v) (h:PR R.w R.ok a v):VR R a v
 |undef (v):VR R .undef v
 |ptr (id off) (h:id<R.m):VR R (.ptr id off) (.pointer (some ⟨(R.α id).b,(R.α id).o+off,none⟩))
 |own (s n f id v) (h:id<R.m) (hp:PR R.w R.ok (.isl s n f .none) v) (hn:n ()<=R.hw id) (he:n ()=R.hw id->v=R.hv id):VR R (.isl s n f (.own id)) v
 |nn (s n f v) (hp:PR R.w R.ok (.isl s n f .none) v) (hv:v≠ .slice none 0 0):VR R (.isl s n f .nn) v
 |aptr (id s e off) (i:Nat) (h:id<R.m) (he:e ()=(i:Int)):VR R (.aptr id s e off) (.pointer (some ⟨(R.α id).b,(R.α id).o+i*s+off,none⟩))
 |msl (id s lo n c) (i len cap:Nat) (h:id<R.m) (hlo:lo ()=(i:Int)) (hn:n ()=(len:Int)) (hc:c ()=(cap:Int)) (hle:len<=cap):
   VR R (.msl id s lo n c) (.slice (some ⟨(R.α id).b,(R.α id).o+i*s,none⟩) len cap)
 |gsl (id n a l c) (h:id<R.m) (hn:n ()<=R.hw id) (he:n ()=R.hw id->.slice a l c=R.hv id) (hl:n ()=(l:Int)/\(l=0\/∃b o:Nat,a=some ⟨b,o,none⟩)):VR R (.gsl id n) (.slice a l c)
 |gptr (id s n e off a) (h:id<R.m) (hn:n ()<=R.hw id) (he:n ()=R.hw id->∃(b o i l c:Nat),R.hv id= .slice (some ⟨b,o,none⟩) l c/\e ()=(i:Int)/\a=⟨b,o+i*s+off,none⟩):VR R (.gptr id s n e off) (.pointer (some a))
 |nsub (id e l a ll c) (us:Array Value) (i:Nat) (h:id<R.m) (hv:R.hv id= .tuple us) (he:e ()=(i:Int)) (hu:us[i]? =some (.slice a ll c)) (hl:l ()=(ll:Int)/\(ll=0\/∃b o:Nat,a=some ⟨b,o,none⟩)):VR R (.nsub id e l) (.slice a ll c)
 |nptr (id s e k off) (us:Array Value) (i b o l c j:Nat) (h:id<R.m) (hv:R.hv id= .tuple us) (he:e ()=(i:Int)) (hu:us[i]? =some (.slice (some ⟨b,o,none⟩) l c)) (hk:k ()=(j:Int)):VR R (.nptr id s e k off) (.pointer (some ⟨b,o+j*s+off,none⟩))
 |lit (s cs b o) (us:Nat->Value) (hs:cs.length=s) (h1:∀j c,cs[j]? =some c->R.w.cell? ⟨b,o+j,none⟩=some (us j)) (h2:∀j c,cs[j]? =some c->VR R c (us j)) (h3:R.ok b o s):VR R (.lit s cs) (.slice (some ⟨b,o,none⟩) 1 1)
 |map (id) (h:id<R.m):VR R (.map id) (.map (some (R.α id).b))
 |mit (id) (h:id<R.m) (h0:(R.α id).o=0):VR R (.mit id) (.pointer (some ⟨(R.α id).b,0,none⟩))
 |fn (f) (xs bs:List AV) (us vs:Array Value) (ha:xs.length=us.size) (hb:bs.length=vs.size) (h1:∀j c,xs[j]? =some c->VR R c (us.getD j Go.undef)) (h2:∀j c,bs[j]? =some c->VR R c (vs.getD j Go.undef)):
   VR R (.fn f xs bs) (.func (.func f) us vs)
 |yld (id) (h:id<R.m):VR R (.yld id) (.func (.yield (R.α id).b) #[] #[])
 |agg (cs:List AV) (us:Array Value) (ha:cs.length=us.size) (h:∀j c,cs[j]? =some c->VR R c (us.getD j Go.undef)):VR R (.agg cs) (.agg us)
 |tup (cs:List AV) (us:Array Value) (ha:cs.length=us.size) (h:∀j c,cs[j]? =some c->VR R c (us.getD j Go.undef)):VR R (.tup cs) (.tuple us)
 |gd (g a v) (h:g ()=true->VR R a v):VR R (.gd g a) v
 |ob (g b:Unit->Bool) (v) (h1:g ()=true->v= .bool (b ())) (h2:g ()=false->v=Go.undef):VR R (.ob g b) v
theorem PR.mono {w w':World} {ok S:Nat->Nat->Nat->Prop} {a:AV} {v:Value} (h:PR w ok a v)
  (Y:∀b o n,ok b o n->S b o n) (hc:∀b o n,ok b o n->∀j,j<n->w'.cell? ⟨b,o+j,none⟩=w.cell? ⟨b,o+j,none⟩)
  (hm:∀b,ok b 0 1->∀es A,w.heap[b]? =some (.map es A)->w'.heap[b]? =some (.map es A)):PR w' S a v:=by
 induction h with
 |bool b=>exact .bool b
 |int k n=>exact .int k n
 |str s=>exact .str s
 |nilptr=>exact .nilptr
 |cch c=>exact .cch c
 |imap U n L b es A I V G=>exact .imap U n L b es A (hm b G es A I) V (Y _ _ _ G)
 |imap0 U n L h=>exact .imap0 U n L h
 |nilmap=>exact .nilmap
 |nilfn=>exact .nilfn
 |iptr cs ac b o us I V G ih=>
  exact .iptr cs ac b o us (λj c J=>(hc b o _ G j (aE.1 J).1).trans (I j c J)) ih (Y _ _ _ G)
 |isl0 s n f tk h H=>exact .isl0 s n f tk h H
 |islE s n f tk a h H=>exact .islE s n f tk a h H
 |isl s n f tk b o len ab us hn Z H he hl I V G ih=>
  refine .isl s n f tk b o len ab us hn Z H he hl (λi j c hi J=>?_) ih (Y _ _ _ G);have ae:j<s:=(hl i hi)▸(aE.1 J).1;have aa:i*s+j<len*s:=by
   have:(i+1)*s<=len*s:=aL s hi;rw[bI]at this;omega
  have:=hc b o _ G (i*s+j) aa;rw[show o+i*s+j=o+(i*s+j)from by omega];exact this.trans (by rw[show o+(i*s+j)=o+i*s+j from by omega];exact I i j c hi J)
def Zhl (v H:Value):Prop:=∀G,v= .tuple G->∃A,H= .tuple A/\∀(i:Nat) (x:Value),G[i]? =some x->A[i]? =some x
theorem Zhl.refl (v:Value):Zhl v v:=λA h=>⟨A,h,λ_ _ h=>h⟩
theorem Zhl.trans {a b c:Value} (h:Zhl a b) (h':Zhl b c):Zhl a c:=λI e=>by
 obtain⟨H,J,k⟩:=h I e;obtain⟨A,G,S⟩:=h' H J;exact⟨A,G,λi x U=>S i x (k i x U)⟩
theorem Zhl.of {a b:Value} (h:∀A,a≠ .tuple A):Zhl a b:=λA e=>absurd e (h A)
structure RC.le (R R':RC):Prop where
 m:R.m<=R'.m
 α:∀id,id<R.m->R'.α id=R.α id
 tk:∀id,id<R.m->R.hw id<=R'.hw id/\(R.hw id=R'.hw id->R'.hv id=R.hv id)
 fm:∀id,id<R.m->Zhl (R.hv id) (R'.hv id)
 ok:∀b o n,R.ok b o n->R'.ok b o n
 keep:∀b o n,R.ok b o n->∀j,j<n->R'.w.cell? ⟨b,o+j,none⟩=R.w.cell? ⟨b,o+j,none⟩
 keepM:∀b,R.ok b 0 1->∀es clk,R.w.heap[b]? =some (.map es clk)->R'.w.heap[b]? =some (.map es clk)
 cx:R'.cx=R.cx
theorem RC.le.refl (R:RC):R.le R:=⟨aJ _,λ_ _=>rfl,λ_ _=>⟨Int.le_refl _,λ_=>rfl⟩,λ_ _=>.refl _,λ_ _ _ h=>h,λ_ _ _ _ _ _=>rfl,λ_ _ _ _ h=>h,rfl⟩
theorem RC.le.trans {R R' H:RC} (h:R.le R') (h':R'.le H):R.le H:=by
 refine⟨cF h.m h'.m,λid A=>(h'.α id (cH A h.m)).trans (h.α id A),λid A=>?_,λid A=>(h.fm id A).trans (h'.fm id (cH A h.m)),λb o n G=>h'.ok _ _ _ (h.ok _ _ _ G),λb o n G j J=>(h'.keep b o n (h.ok _ _ _ G) j J).trans (h.keep b o n G j J),λb G es I e=>h'.keepM b (h.ok _ _ _ G) es I (h.keepM b G es I e),h'.cx.trans h.cx⟩;obtain⟨U,V⟩:=h.tk id A;obtain⟨S,Y⟩:=h'.tk id (cH A h.m);exact⟨Int.le_trans U S,λe=>(Y (by omega)).trans (V (by omega))⟩
theorem VR.mono {R R':RC} {a:AV} {v:Value} (h:VR R a v) (hr:R.le R'):VR R' a v:=by
 induction h with
 |pure a v h=>exact .pure a v (h.mono hr.ok hr.keep hr.keepM)
 |undef v=>exact .undef v
 |ptr id A h=>rw[<-hr.α id h];exact .ptr id A (cH h hr.m)
 |own s n f id v h hp Z H=>
  obtain⟨t1,U⟩:=hr.tk id h;exact .own s n f id v (cH h hr.m) (hp.mono hr.ok hr.keep hr.keepM) (by omega) (λe=>by rw[U (by omega)];exact H (by omega))
 |nn s n f v hp hv=>exact .nn s n f v (hp.mono hr.ok hr.keep hr.keepM) hv
 |aptr id s e A i h H=>rw[<-hr.α id h];exact .aptr id s e A i (cH h hr.m) H
 |msl id s lo n c i len ab h ae Z hc ah=>rw[<-hr.α id h];exact .msl id s lo n c i len ab (cH h hr.m) ae Z hc ah
 |gsl id n a l c h Z H hl=>
  obtain⟨t1,U⟩:=hr.tk id h;exact .gsl id n a l c (cH h hr.m) (by omega) (λe=>by rw[U (by omega)];exact H (by omega)) hl
 |gptr id s n e A a h Z H=>
  obtain⟨t1,U⟩:=hr.tk id h;exact .gptr id s n e A a (cH h hr.m) (by omega) (λe=>by rw[U (by omega)];exact H (by omega))
 |nsub id e l a ll c G i h hv H hu hl=>
  obtain⟨V,I,J⟩:=hr.fm id h G hv;exact .nsub id e l a ll c V i (cH h hr.m) I H (J _ _ hu) hl
 |nptr id s e k A G i b o l c j h hv H hu hk=>
  obtain⟨V,I,J⟩:=hr.fm id h G hv;exact .nptr id s e k A V i b o l c j (cH h hr.m) I H (J _ _ hu) hk
 |lit s cs b o G hs I J h3 S=>exact .lit s cs b o G hs (λj c hj=>(hr.keep b o _ h3 j (hs▸(aE.1 hj).1)).trans (I j c hj)) S (hr.ok _ _ _ h3)
 |map id h=>rw[<-hr.α id h];exact .map id (cH h hr.m)
 |mit id h h0=>rw[<-hr.α id h];exact .mit id (cH h hr.m) ((congrArg Loc.o (hr.α id h)).trans h0)
 |fn f xs bs G vs Y hb I J aa ac=>exact .fn f xs bs G vs Y hb aa ac
 |yld id h=>rw[<-hr.α id h];exact .yld id (cH h hr.m)
 |agg cs G Y h S=>exact .agg cs G Y S
 |tup cs G Y h S=>exact .tup cs G Y S
 |gd g a v h S=>exact .gd g a v S
 |ob g b v I J=>exact .ob g b v I J
def Zd7 (v:Value) (b:Nat):Prop:=∃a n c,v= .slice (some a) n c/\0<c/\a.block=b
def ZE (R:RC) (id:Nat):Zi->Nat->Prop
 |.cells _,b|.arr ..,b|.mapB _,b|.loop ..,b|.gob _,b=>(R.α id).b=b
 |.tok ..,b=>∃a n c,R.hv id= .slice (some a) n c/\n<c/\a.block=b
 |.gar ..,b|.vgar ..,b=>∃a n c,R.hv id= .slice (some a) n c/\0<c/\a.block=b
 |.fam ..,b=>∃A,R.hv id= .tuple A/\∃(i:Nat) (v:Value),A[i]? =some v/\Zd7 v b
 |.fro ..,_|.dead,_|.main,_=>False
def Qo (R:RC) (id:Nat) (blk:Zi) (b o n:Nat):Prop:=
 match blk with
 |.tok s _=>∀a len A,R.hv id= .slice (some a) len A->len<A->a.block=b->o+n<=a.off+len*s
 |blk=>¬ZE R id blk b
def Zdb (R:RC) (h:List Zi) (b o n:Nat):Prop:=∀id blk,h[id]? =some blk->Qo R id blk b o n
def Zxp (es:List MapEntry) (m:(Unit->Int)->Unit->Bool):Prop:=
 (∀e∈es,∃x b,e.key= .int .i64 x/\e.val= .bool b)/\
 ∀x:Int,(∀e∈es,e.key≠ .int .i64 x)/\m (λ_=>x) ()=false\/∃(i:Nat) (e:MapEntry),es[i]? =some e/\e.key= .int .i64 x/\e.val= .bool (m (λ_=>x) ())/\∀j A,j<i->es[j]? =some A->A.key≠ .int .i64 x
def Zs7:Obj->Bool
 |.map .. |.chan .. |.mapIter .. =>true
 |_=>false
def SL (R:RC) (s:List AV) (tmps:Array Value):Prop:=tmps.size=s.length/\∀i a,s[i]? =some a->VR R a (tmps.getD i undef)
def J4 (Q:AV->Value->Prop) (w:World) (s:Nat) (n:Unit->Int) (f:(Unit->Int)->List AV) (v:Value):Prop:=(n ()=0/\∃a:Option Addr,v= .slice a 0 0)\/
 ∃(b o len A:Nat) (arr:Array Value) (ty:TypeId),n ()=(len:Int)/\len<=A/\v= .slice (some ⟨b,o,none⟩) len A/\w.heap[b]? =some (.cells arr ty (0,0))/\o+A*s<=arr.size/\
  ∀i:Nat,i<len->(f (λ_=>(i:Int))).length=s/\∀j c,(f (λ_=>(i:Int)))[j]? =some c->Q c (arr.getD (o+i*s+j) undef)
abbrev ZvS (R:RC) (s:Nat) (n:Unit->Int) (f:(Unit->Int)->List AV) (v:Value):Prop:=J4 (VR R) R.w s n f v
abbrev ZvT (R:RC) (s:Nat) (n:Unit->Int) (f:(Unit->Int)->List AV) (v:Value):Prop:=J4 (PR R.w R.ok) R.w s n f v
def ZjE (R:RC) (b:Nat) (o:Obj):Gob->Prop
 |.chq c l=>b=c/\R.cx=some c/\∃s r U,o= .chan 0 ((l ()).map Value.bool).toArray false s r U
 |.mapL H n L=>∃es A,o= .map es A/\ZeV H (λJ v=>v=Xu n J) es A (L ())
 |.mapM H V n L=>∃es A,o= .map es A/\ZeV H (λm v=>PR R.w R.ok (.imap V n λ_=>m) v) es A (L ())
 |.mapIt H n L G S=>(L ()=[]/\G ()=[]/\∃I,o= .mapIter none 0 I 0)\/∃(m:Nat) (es:Array MapEntry) (A:Nat) (I:Array Nat) (l:List (MapEntry×(List Int×List Int))),o= .mapIter (some m) A I A/\R.w.heap[m]? =some (.map es A)/\R.ok m 0 1/\ZrC H (λJ v=>v=Xu n J) l es A (L ())/\
   (∀p∈l,I.contains p.1.born=(G ()).contains p.2.1)/\(G ()≠ []->∃p∈l,I.back?=some p.1.born/\p.2=S ())
 |.any=>True
theorem ZjE.mono {R R':RC} {b:Nat} {o:Obj} {g:Gob} (h:ZjE R b o g) (hr:R.le R'):ZjE R' b o g:=by
 cases g with
 |chq c l=>exact⟨h.1,hr.cx.trans h.2.1,h.2.2⟩
 |mapL V n L=>exact h
 |mapM V kb n L=>
  obtain⟨es,A,e,l,S,I,G,J,U⟩:=h;exact⟨es,A,e,l,S,I,G,J,λp H=>⟨(U p H).1,(U p H).2.1.mono hr.ok hr.keep hr.keepM,(U p H).2.2⟩⟩
 |mapIt V n L Z aa=>
  rcases h with h|⟨m,es,A,Y,l,S,I,G,J⟩
  ·exact .inl h
  exact .inr ⟨m,es,A,Y,l,S,hr.keepM m G es A I,hr.ok _ _ _ G,J⟩
 |any=>trivial
theorem ZjE.tr {R R':RC} {b:Nat} {o:Obj} {g:Gob} (h:ZjE R b o g) (hw:R'.w=R.w) (G:∀b o n,R.ok b o n->R'.ok b o n) (Z:R'.cx=R.cx):ZjE R' b o g:=by
 cases g with
 |chq c l=>exact⟨h.1,Z.trans h.2.1,h.2.2⟩
 |mapL Y n L=>exact h
 |mapM Y kb n L=>
  obtain⟨es,A,e,l,S,I,V,J,U⟩:=h;exact⟨es,A,e,l,S,I,V,J,λp H=>⟨(U p H).1,(U p H).2.1.mono G (λ_ _ _ _ _ _=>by rw[hw]) (λ_ _ _ _ h=>by rw[hw];exact h),(U p H).2.2⟩⟩
 |mapIt Y n L aa ab=>
  rcases h with h|⟨m,es,A,sn,l,S,I,V,J⟩
  ·exact .inl h
  exact .inr ⟨m,es,A,sn,l,S,by rw[hw];exact I,G _ _ _ V,J⟩
 |any=>trivial
def BR (R:RC) (id:Nat):Zi->Prop
 |.cells cs=>∃arr ty,R.w.heap[(R.α id).b]? =some (.cells arr ty (0,0))/\(R.α id).o+cs.length<=arr.size/\
   ∀j c,cs[j]? =some c->VR R c (arr.getD ((R.α id).o+j) undef)
 |.arr s n f=>∃arr ty,∃len:Nat,R.w.heap[(R.α id).b]? =some (.cells arr ty (0,0))/\n ()=(len:Int)/\(R.α id).o+len*s<=arr.size/\
   ∀i:Nat,i<len->(f (λ_=>(i:Int))).length=s/\∀j c,(f (λ_=>(i:Int)))[j]? =some c->PR R.w R.ok c (arr.getD ((R.α id).o+i*s+j) undef)
 |.tok s hw=>R.hw id=hw ()/\((hw ()=0/\∃a:Option Addr,R.hv id= .slice a 0 0)\/
   ∃(b o len A:Nat),hw ()=(len:Int)/\len<=A/\R.hv id= .slice (some ⟨b,o,none⟩) len A/\
    (len<A->∃(arr:Array Value) (ty:TypeId),R.w.heap[b]? =some (.cells arr ty (0,0))/\o+A*s<=arr.size))
 |.gar s n f=>R.hw id=n ()/\((n ()=0/\∃a:Option Addr,R.hv id= .slice a 0 0)\/
   ∃(b o len A:Nat) (arr:Array Value) (ty:TypeId),n ()=(len:Int)/\len<=A/\R.hv id= .slice (some ⟨b,o,none⟩) len A/\R.w.heap[b]? =some (.cells arr ty (0,0))/\o+A*s<=arr.size/\
    ∀i:Nat,i<len->(f (λ_=>(i:Int))).length=s/\∀j c,(f (λ_=>(i:Int)))[j]? =some c->PR R.w R.ok c (arr.getD (o+i*s+j) undef))
 |.vgar s n f=>R.hw id=n ()/\ZvS R s n f (R.hv id)
 |.fam z s n m g=>R.n0<=z/\R.hw id=n ()/\∃G:Array Value,R.hv id= .tuple G/\n ()=(G.size:Int)/\(∀(i:Nat) (v:Value),G[i]? =some v->ZvT R s (m λ_=>(i:Int)) (g λ_=>(i:Int)) v)/\
   ∀(i j:Nat) (v I:Value) (b:Nat),i≠j->G[i]? =some v->G[j]? =some I->Zd7 v b->¬Zd7 I b
 |.fro s n f=>R.hw id=n ()/\PR R.w R.ok (.isl s n f .none) (R.hv id)
 |.mapB m=>∃es H,R.w.heap[(R.α id).b]? =some (.map es H)/\Zxp es.toList m
 |.loop s d=>∃l,R.w.heap[(R.α id).b]? =some (.loop l)/\l.params=d.ps/\l.assign=d.a/\l.body=d.x/\l.state=d.st/\l.pending=d.pe/\SL R s l.tmps
 |.gob g=>∃o,R.w.heap[(R.α id).b]? =some o/\Zs7 o=true/\ZjE R (R.α id).b o g
 |.main=>R.cx=none
 |.dead=>True
def Zaz:Zi->Bool
 |.tok .. |.gar .. |.vgar .. |.fam .. =>true
 |_=>false
structure HR (G:Nat->Nat->Nat->Prop) (R:RC) (h:List Zi):Prop where
 len:h.length=R.m
 okd:∀b o n,R.ok b o n↔b<R.w.heap.size/\G b o n/\Zdb R h b o n
 blk:∀id blk,h[id]? =some blk->BR R id blk
 dis:∀i j bi bj b,i≠j->h[i]? =some bi->h[j]? =some bj->ZE R i bi b->¬ZE R j bj b
 cl:∀b o n o' n',G b o n->o<=o'->o'+n'<=o+n->G b o' n'
 fresh:∀b o n,R.w.heap.size<=b->G b o n
 tokG:∀id blk b,h[id]? =some blk->Zaz blk=true->ZE R id blk b->∀o n,G b o n
 n0m:R.n0<=R.m
structure Xs (R:RC) (h:List Zi) (R':RC) (h':List Zi):Prop where
 n0:R'.n0=R.n0
 os:R'.w.os=R.w.os
 tape:R'.w.tape=R.w.tape
 output:R'.w.output=R.w.output
 size:R.w.heap.size<=R'.w.heap.size
 m:R.m<=R'.m
 α:∀id,id<R.m->R'.α id=R.α id
 ok:∀b o n,R.ok b o n->R'.ok b o n
 keep:∀b o n,R.ok b o n->∀j,j<n->R'.w.cell? ⟨b,o+j,none⟩=R.w.cell? ⟨b,o+j,none⟩
 frame:∀b,b<R.w.heap.size->(∀id blk,h[id]? =some blk->¬ZE R id blk b)->R'.w.heap[b]? =R.w.heap[b]?
 own:∀id blk b,h'[id]? =some blk->ZE R' id blk b->R.w.heap.size<=b\/∃id₁ blk₁,h[id₁]? =some blk₁/\ZE R id₁ blk₁ b/\(id₁=id\/R.n0<=id₁)
theorem Xs.refl (R:RC) (h:List Zi):Xs R h R h:=
 ⟨rfl,rfl,rfl,rfl,aJ _,aJ _,λ_ _=>rfl,λ_ _ _ k=>k,λ_ _ _ _ _ _=>rfl,λ_ _ _=>rfl,λid blk b G A=>.inr ⟨id,blk,G,A,.inl rfl⟩⟩
theorem Xs.trans {R R' I:RC} {h h' H:List Zi} (x:Xs R h R' h') (y:Xs R' h' I H):Xs R h I H:=by
 have e:=x.n0
 refine⟨y.n0.trans x.n0,y.os.trans x.os,y.tape.trans x.tape,y.output.trans x.output,cF x.size y.size,cF x.m y.m,λid G=>(y.α id (cH G x.m)).trans (x.α id G),
  λb o n k=>y.ok _ _ _ (x.ok _ _ _ k),λb o n k j hj=>(y.keep b o n (x.ok _ _ _ k) j hj).trans (x.keep b o n k j hj),λb Z hn=>?_,λid blk b G V=>?_⟩
 ·refine(y.frame b (cH Z x.size) (λid blk G V=>?_)).trans (x.frame b Z hn);rcases x.own id blk b G V with A|⟨Y,J,A,S,_⟩
  ·omega
  exact hn Y J A S
 rcases y.own id blk b G V with A|⟨Y,J,A,S,h3⟩
 ·exact .inl (cF x.size A)
 rcases x.own Y J b A S with U|⟨i2,b2,U,h5,h6⟩
 ·exact .inl U
 refine .inr ⟨i2,b2,U,h5,?_⟩;omega
def Gof (R:RC) (h:List Zi):Nat->Nat->Nat->Prop:=λb o n=>R.ok b o n\/R.w.heap.size<=b\/∃id blk,h[id]? =some blk/\Zaz blk=true/\ZE R id blk b
theorem SL.mono {R R':RC} {s:List AV} {tmps:Array Value} (h:SL R s tmps) (hr:R.le R'):SL R' s tmps:=⟨h.1,λi a A=>(h.2 i a A).mono hr⟩
theorem SL.getD {R:RC} {s:List AV} {tmps:Array Value} (h:SL R s tmps) (i:Nat):VR R (s.getD i .undef) (tmps.getD i undef):=by
 by_cases hi:i<s.length
 ·have:=h.2 i s[i] (aC hi);rw[aA,aC hi];exact this
 rw[aA,List.getElem?_eq_none (by omega)];exact .undef _
theorem SL.set {R:RC} {s:List AV} {tmps:Array Value} (h:SL R s tmps) {a:AV} {v:Value} (hv:VR R a v) (d:Nat):SL R (s.set d a) (tmps.setIfInBounds d v):=by
 refine⟨by simp[h.1],λi x A=>?_⟩;rw[bQ]at A;rw[aI,bS];by_cases e:d=i
 ·subst e;simp only[if_true]at A|-;split at A
  ·rename_i G;rw[iQ (by rw[h.1];exact G)];simp only[aD]at A;subst A;exact hv
  cases A
 rw[iP e]at A|-;rw[<-aI];exact h.2 i x A
theorem HR.sub {G:Nat->Nat->Nat->Prop} {R:RC} {h:List Zi} (H:HR G R h) {b o n A I:Nat} (V:R.ok b o n) (h1:o<=A) (Z:A+I<=o+n):R.ok b A I:=by
 obtain⟨hb,hg,ha⟩:=(H.okd _ _ _).1 V;refine(H.okd _ _ _).2 ⟨hb,H.cl _ _ _ _ _ hg h1 Z,λid blk U=>?_⟩;have:=ha id blk U;cases blk with
 |tok s hw=>exact λa len S hv Y J=>by have:=this a len S hv Y J;omega
 |_=>exact this
theorem HR.entry {G:Nat->Nat->Nat->Prop} {R:RC} {h:List Zi} (H:HR G R h):HR (Gof R h) R h:=by
 refine⟨H.len,λb o n=>⟨λk=>⟨((H.okd _ _ _).1 k).1,.inl k,((H.okd _ _ _).1 k).2.2⟩,λ⟨S,A,h3⟩=>?_⟩,H.blk,H.dis,λb o n Y V k S A=>?_,λ_ _ _ h=>.inr (.inl h),λid blk b U J I o n=>.inr (.inr ⟨id,blk,U,J,I⟩),H.n0m⟩
 ·rcases A with A|A|⟨id,blk,U,J,I⟩
  ·exact A
  ·omega
  exact(H.okd _ _ _).2 ⟨S,H.tokG id blk b U J I o n,h3⟩
 rcases k with k|k|k
 ·exact .inl (H.sub k S A)
 ·exact .inr (.inl k)
 exact .inr (.inr k)
structure Imp (v w:AV):Prop where
 f:∀(R:RC) (u:Value),VR R v u->VR R w u
theorem Imp.refl (v:AV):Imp v v:=⟨λ_ _ h=>h⟩
inductive Cn where
 |d (P:Unit->Prop) (b:Unit->Bool) (ok:b ()=true->P ())
 |e (v w:Unit->AV)
 |i (g:Unit->Bool) (x:Cn)
def Cn.p:Cn->Prop
 |.d P _ _=>P ()
 |.e v w=>v ()=w ()\/Imp (v ()) (w ())
 |.i g x=>g ()=true->x.p
abbrev dd (P:Unit->Prop) [i:∀u,Decidable (P u)]:Cn:=.d P (λu=>decide (P u)) iU
abbrev Cd:=List Cn
def ZV (c:Cd):Prop:=∀x∈c,x.p
theorem Cn.out {P:Unit->Prop} {b:Unit->Bool} {ok:b ()=true->P ()} (h:(Cn.d P b ok).p):P ():=h
theorem Yp:ZV []:=λ_ h=>by cases h
theorem Z7 {a b:Cd} (h:ZV (a++b)):ZV a/\ZV b:=⟨λp A=>h p (List.mem_append_left _ A),λp A=>h p (List.mem_append_right _ A)⟩
inductive TK where
 |struct (fs:List (Option (Nat×Nat×Bool)))
 |array (n esz:Nat)
 |slice (e:TypeId) (esz eb:Nat)
 |int (k:IntKind)
 |string|bool|ptr|map|func|other
structure TI where
 k:TK
 agg:Bool
 size:Nat
 bytes:Nat
 zero:Option Value
def ZbJ:TypeDesc->Bool
 |.struct _|.array _ _=>true
 |_=>false
def ZbC (P:Program) (f:Field):Option (Nat×Nat×Bool):=
 match P.info? f.type,P.underlying f.type with
 |some i,some d=>some (f.offset,i.size,ZbJ d)
 |_,_=>none
def ZI (P:Program) (t:TypeId):Option TI:=
 match P.info? t,P.underlying t with
 |some i,some d=>some {size:=i.size,bytes:=i.bytes,zero:=i.zero,agg:=ZbJ d,k:=match d with
   |.struct A=>.struct (A.toList.map (ZbC P))
   |.array n e=>(match P.info? e with
    |some j=>.array n j.size
    |none=>.other)
   |.slice e=>(match P.info? e with
    |some j=>.slice e j.size j.bytes
    |none=>.other)
   |.int k=>.int k
   |.string=>.string
   |.bool=>.bool
   |.pointer _=>.ptr
   |.map _ _=>.map
   |.func .. =>.func
   |_=>.other}
 |_,_=>none
def Zbq:Value->AV
 |.bool b=>.bool (λ_=>b)
 |.int k n=>.int k (λ_=>n)
 |.string s=>.str (λ_=>s)
 |.pointer none=>.nilptr
 |.slice none 0 0=>.isl 0 (λ_=>0) (λ_=>[]) .nil
 |.map none=>.nilmap
 |.nilFunc=>.nilfn
 |_=>.undef
def XQ:Value->AV
 |.agg cs=>.agg (cs.toList.map Zbq)
 |v=>Zbq v
def ev (s:List AV):Operand->AV
 |.tmp t=>s.getD t .undef
 |.const v=>XQ v
 |.func f=>.fn f [] []
 |.global _=>.undef
def strip:AV->AV
 |.gd _ v=>v
 |.ob _ b=>.bool b
 |v=>v
def ZaB:AV->Cd
 |.gd g _=>[dd λ_=>g ()=true]
 |.ob g _=>[dd λ_=>g ()=true]
 |_=>[]
def Zfy (k:IntKind) (n:Unit->Int):AV×Cd:=match k with
 |.i64=>(.int .i64 n,[dd λ_=>-9223372036854775808<=n ()/\n ()<=9223372036854775807])
 |k=>(.int k (λ_=>k.wrap (n ())),[])
def Ztz (op:BinOp) (k:IntKind) (a b:Unit->Int):Option (AV×Cd):=match op with
 |.add=>some (Zfy k λ_=>a ()+b ())
 |.sub=>some (Zfy k λ_=>a ()-b ())
 |.mul=>some (Zfy k λ_=>a ()*b ())
 |.lss=>some (.bool (λ_=>decide (a ()<b ())),[])
 |.leq=>some (.bool (λ_=>decide (a ()<=b ())),[])
 |.gtr=>some (.bool (λ_=>decide (a ()>b ())),[])
 |.geq=>some (.bool (λ_=>decide (a ()≥b ())),[])
 |.eql=>some (.bool (λ_=>a ()==b ()),[])
 |.neq=>some (.bool (λ_=>a () !=b ()),[])
 |.quo=>some ((Zfy k λ_=>(a ()).tdiv (b ())).1,dd (λ_=>b ()≠0)::(Zfy k λ_=>(a ()).tdiv (b ())).2)
 |.rem=>some (.int k (λ_=>(a ()).tmod (b ())),[dd λ_=>b ()≠0])
 |.and=>some (.int k (λ_=>k.wrap (BitVec.ofInt k.bits (a ())&&&BitVec.ofInt k.bits (b ())).toNat),[])
 |.or=>some (.int k (λ_=>k.wrap (BitVec.ofInt k.bits (a ())|||BitVec.ofInt k.bits (b ())).toNat),[])
 |.xor=>some (.int k (λ_=>k.wrap (BitVec.ofInt k.bits (a ())^^^BitVec.ofInt k.bits (b ())).toNat),[])
 |_=>none
def ZiL (op:BinOp) (k:IntKind) (a b:Unit->Int):Option (AV×Cd):=match op with
 |.shr=>some (.int k (λ_=>(a ()).fdiv (2^ min (b ()).toNat k.bits)),[dd λ_=>0<=b ()])
 |.shl=>some (.int k (λ_=>k.wrap (a ()*2^ min (b ()).toNat k.bits)),[dd λ_=>0<=b ()])
 |_=>none
theorem ZbY (n:Int) (h:-9223372036854775808<=n/\n<=9223372036854775807):IntKind.i64.wrap n=n:=by
 rw[IntKind.wrap_i64];omega
theorem ZcD {R:RC} (k:IntKind) (n:Unit->Int) (h:ZV (Zfy k n).2):VR R (Zfy k n).1 (.int k (k.wrap (n ()))):=by
 unfold Zfy at*;cases k with
 |i64=>have:=Cn.out (h _ (aN.2 rfl));rw[ZbY _ this];exact .pure _ _ (.int _ _)
 |_=>exact .pure _ _ (.int _ (λ_=>_))
section
variable {P:Program} {w:World}
theorem XJ {t:TypeId} {T:TI} (h:ZI P t=some T):∃i d,P.info? t=some i/\P.underlying t=some d/\T.size=i.size/\T.bytes=i.bytes/\T.zero=i.zero/\T.agg=ZbJ d:=by
 unfold ZI at h;split at h
 ·rename_i i d G A;simp only[aD]at h;subst h;exact⟨i,d,G,A,rfl,rfl,rfl,rfl⟩
 cases h
theorem Jx {t:TypeId} {T:TI} {e:TypeId} {s b:Nat} (h:ZI P t=some T) (A:T.k= .slice e s b):
  ∃j,P.underlying t=some (.slice e)/\P.info? e=some j/\j.size=s/\j.bytes=b:=by
 unfold ZI at h;split at h
 ·rename_i i d H G;simp only[aD]at h;subst h;cases d<;>simp only[]at A<;>try (cases A;done)
  all_goals (split at A<;>simp_all)
 cases h
theorem ZjL {t:TypeId} {T:TI} {n s:Nat} (h:ZI P t=some T) (A:T.k= .array n s):
  ∃e j,P.underlying t=some (.array n e)/\P.info? e=some j/\j.size=s:=by
 unfold ZI at h;split at h
 ·rename_i i d H G;simp only[aD]at h;subst h;cases d<;>simp only[]at A<;>try (cases A;done)
  all_goals (split at A<;>simp_all)
 cases h
theorem Zcx {t:TypeId} {T:TI} {l:List (Option (Nat×Nat×Bool))} (h:ZI P t=some T) (A:T.k= .struct l):
  ∃G,P.underlying t=some (.struct G)/\l=G.toList.map (ZbC P):=by
 unfold ZI at h;split at h
 ·rename_i i d I H;simp only[aD]at h;subst h;cases d<;>simp only[]at A<;>try (cases A;done)
  all_goals first
   |(simp only[TK.struct.injEq]at A;exact⟨_,H,A.symm⟩)
   |(split at A<;>simp_all)
 cases h
theorem Zo7 {t:TypeId} {T:TI} {k:IntKind} (h:ZI P t=some T) (A:T.k= .int k):P.underlying t=some (.int k):=by
 unfold ZI at h;split at h
 ·rename_i i d H G;simp only[aD]at h;subst h;cases d<;>simp only[]at A<;>try (cases A;done)
  all_goals first
   |(simp only[TK.int.injEq]at A;rw[G,A])
   |(split at A<;>simp_all)
 cases h
theorem Zcp {f:Field} {o s:Nat} {g:Bool} (h:ZbC P f=some (o,s,g)):∃i d,P.info? f.type=some i/\P.underlying f.type=some d/\f.offset=o/\i.size=s/\ZbJ d=g:=by
 unfold ZbC at h;split at h
 ·rename_i i d G A;simp only[aD,aK]at h;exact⟨i,d,G,A,h.1,h.2.1,h.2.2⟩
 cases h
theorem Xx {t:TypeId} {i:TypeInfo} (h:P.info? t=some i):(typeInfo t).run P w= .ok i w:=by
 simp[typeInfo,h]
theorem Zy {t:TypeId} {d:TypeDesc} (h:P.underlying t=some d):(underlying t).run P w= .ok d w:=by
 simp[underlying,h]
theorem Z6 {t:TypeId} {i:TypeInfo} (h:P.info? t=some i):(sizeOf t).run P w= .ok i.size w:=by
 simp[sizeOf,Xx h]
theorem ZaS {t:TypeId} {d:TypeDesc} (h:P.underlying t=some d):(isAgg t).run P w= .ok (ZbJ d) w:=by
 cases d<;>simp[isAgg,Zy h,ZbJ]
theorem QI (b o i:Nat):(⟨b,o,none⟩:Addr).add i=⟨b,o+i,none⟩:=by
 unfold Addr.add;split
 ·rename_i h;subst h;rfl
 rfl
theorem Ze9 {t:TypeId} {T:TI} (h:ZI P t=some T) (b o:Nat) (us:Nat->Value)
  (A:∀j,j<(if T.agg then T.size else 1)->w.cell? ⟨b,o+j,none⟩=some (us j)):
  (loadVar t ⟨b,o,none⟩).run P w= .ok (if T.agg then .agg ((List.range T.size).map us).toArray else us 0) w:=by
 obtain⟨i,d,U,G,S,_,_,I⟩:=XJ h;unfold loadVar;simp only[aQ,ZaS G,aH];rw[<-I];cases hg:T.agg
 ·rw[hg]at A;have:=A 0 (by simp);rw[dS]at this;simp[this]
 rw[hg]at A;simp only[if_true,aQ,Z6 U,aH,<-S];have J:=run_loadCells (P:=P) w ⟨b,o,none⟩ T.size us (λj H=>by rw[QI];exact A j (by simpa using H));simp only[J,aH,bC]
end
end Vm
namespace Vm
open Go
def Zc2 (T:TI) (cs:List AV) (off:Nat):Option AV:=
 if T.agg then(if Qd (off+T.size) cs.length then some (.agg ((cs.drop off).take T.size))else none)else cs[off]?
def pos (b:Bool):Option Unit:=if b then some ()else none
def Jw (h:List Zi) (id:Nat):Option (List AV):=match h[id]? with
 |some (.cells cs)=>some cs
 |_=>none
def Zlp:List (Unit->Int)->Int->Int
 |[],_=>0
 |a::r,e=>if e=0 then a ()else Zlp r (e-1)
def ZjS:List (Unit->Bool)->Int->Bool
 |[],_=>false
 |a::r,e=>if e=0 then a ()else ZjS r (e-1)
def Zh8:List AV->Option (List (Unit->Int))
 |[]=>some []
 |.int .i64 a::r=>(match Zh8 r with
  |some l=>some (a::l)
  |none=>none)
 |_=>none
def ZeP:List AV->Option (List (Unit->Bool))
 |[]=>some []
 |.bool a::r=>(match ZeP r with
  |some l=>some (a::l)
  |none=>none)
 |_=>none
def Zny (cs:List AV) (e:Unit->Int):Option AV:=match Zh8 cs with
 |some l=>some (.int .i64 λ_=>Zlp l (e ()))
 |none=>(match ZeP cs with
  |some l=>some (.bool λ_=>ZjS l (e ()))
  |none=>none)
def bnd (e:Unit->Int) (n:Nat):Cd:=[dd λ_=>0<=e ()/\e ()<(n:Int)]
def Zh6 (T:TI) (h:List Zi):AV->Option (AV×Cd)
 |.ptr id A=>(match Jw h id with
  |some cs=>(Zc2 T cs A).map (·,[])
  |none=>none)
 |.iptr cs A=>(Zc2 T cs A).map (·,[])
 |.aptr id s e A=>(match h[id]? with
  |some (.arr s' n f)=>if ZK s s' then(Zc2 T (f e) A).map (·,[dd λ_=>0<=e ()/\e ()<n ()])else none
  |some (.cells cs)=>if ZK s 1&&ZK A 0&& !T.agg then(match Zny cs e with
   |some v=>some (v,bnd e cs.length)
   |none=>none)else none
  |_=>none)
 |.gptr id s n e A=>(match h[id]? with
  |some (.gar s' m f)=>if ZK s s' then(Zc2 T (f e) A).map (·,[dd λ_=>n ()=m ()/\0<=e ()/\e ()<m ()])else none
  |some (.vgar s' m f)=>if ZK s s' then(Zc2 T (f e) A).map (·,[dd λ_=>n ()=m ()/\0<=e ()/\e ()<m ()])else none
  |_=>none)
 |.nptr id s e k A=>(match h[id]? with
  |some (.fam _ s' n m g)=>if ZK s s' then(Zc2 T (g e k) A).map (·,[dd λ_=>0<=e ()/\e ()<n ()/\0<=k ()/\k ()<m e ()])else none
  |_=>none)
 |_=>none
def Jn (T:TI) (x:AV) (i:Nat):Option (AV×Cd):=
 match T.k with
 |.struct A=>(match A[i]? with
  |some (some (off,sz,_))=>if ZK sz 0 then none else(match x with
   |.ptr id o=>some (.ptr id (o+off),[])
   |.iptr cs o=>some (.iptr cs (o+off),[])
   |.aptr id s e o=>some (.aptr id s e (o+off),[])
   |.gptr id s n e o=>some (.gptr id s n e (o+off),[])
   |.nptr id s e k o=>some (.nptr id s e k (o+off),[])
   |_=>none)
  |_=>none)
 |_=>none
def Zah (T:TI) (x i:AV):Option (AV×Cd):=
 match i with
 |.int _ e=>(match T.k with
  |.slice _ A _=>(match x with
   |.isl s n f _=>if ZK s A then some (.iptr (f e) 0,[dd λ_=>0<=e ()/\e ()<n ()])else none
   |.msl id s lo n _=>if ZK s A then some (.aptr id s (λ_=>lo ()+e ()) 0,[dd λ_=>0<=e ()/\e ()<n ()])else none
   |.gsl id n=>some (.gptr id A n e 0,[dd λ_=>0<=e ()/\e ()<n ()])
   |.nsub id a l=>some (.nptr id A a e 0,[dd λ_=>0<=e ()/\e ()<l ()])
   |_=>none)
  |.array n A=>(match x with
   |.ptr id G=>some (.aptr id A e G,bnd e n)
   |_=>none)
  |_=>none)
 |_=>none
def ZeF (P:Program) (rec:TypeId->Nat->Bool):List Field->Nat->Nat->Bool
 |[],_,s=>ZK s 0
 |f::fs,off,s=>f.name != "_" &&ZK f.offset off&&(match P.info? f.type with
  |some i=>Qd i.size s&&rec f.type i.size&&ZeF P rec fs (off+i.size) (s-i.size)
  |none=>false)
def Ya (P:Program):Nat->TypeId->Nat->Bool
 |0,_,_=>false
 |d+1,t,s=>(match P.underlying t with
  |some (.int _)=>ZK s 1
  |some (.struct fs)=> !P.stoodInHeld t&&ZeF P (Ya P d) fs.toList 0 s
  |some (.array n e)=>(match P.info? e with
   |some i=>ZK (n*i.size) s&&Ya P d e i.size
   |none=>false)
  |_=>false)
def Jl:IntKind->IntKind->Bool
 |.i8,.i8|.i16,.i16|.i32,.i32|.i64,.i64|.u8,.u8|.u16,.u16|.u32,.u32|.u64,.u64=>true
 |_,_=>false
theorem Zew {j k:IntKind} (h:Jl j k=true):j=k:=by
 cases j<;>cases k<;>first|rfl|cases h
def ZO:List AV->List AV->Option (Unit->Bool)
 |[],[]=>some λ_=>true
 |.int j a::r,.int k b::s=>if Jl j k then(ZO r s).map λg=>λ_=>a ()==b ()&&g ()else none
 |_,_=>none
def ZgE (k:IntKind) (A:Bool):List AV->(Unit->Int)->Option (AV×Cd)
 |[],x=>some (.int k x,[])
 |.int _ y::r,x=>ZgE k A r (if A then λ_=>if y ()>x ()then y ()else x ()else λ_=>if y ()<x ()then y ()else x ())
 |_,_=>none
def AV.cellsOf:AV->List AV
 |.agg cs=>cs
 |v=>[v]
def putC (z:List AV) (off:Nat):List AV->List AV
 |[]=>z
 |v::r=>putC (z.set off v) (off+1) r
def Zdr (A:List (Option (Nat×Nat×Bool))) (E:Operand->AV) (z:List AV):List (Nat×Operand)->Option (List AV)
 |[]=>some z
 |(i,x)::r=>(match A[i]? with
  |some (some (off,sz,_))=>if ZK (E x).cellsOf.length sz&&Qd (off+sz) z.length then Zdr A E (putC z off (E x).cellsOf) r else none
  |_=>none)
def ZmT (t:Unit->Bool) (a b:AV):Option (AV×Cd):=match a,b with
 |.bool x,.bool y=>some (.bool (λ_=>bif t ()then x ()else y ()),[])
 |.gd g (.bool x),.bool y=>some (.bool (λ_=>bif t ()then x ()else y ()),[dd λ_=>t ()=true->g ()=true])
 |.bool x,.gd g (.bool y)=>some (.bool (λ_=>bif t ()then x ()else y ()),[dd λ_=>t ()=false->g ()=true])
 |.ob g x,.bool y=>some (.bool (λ_=>bif t ()then x ()else y ()),[dd λ_=>t ()=true->g ()=true])
 |.bool x,.ob g y=>some (.bool (λ_=>bif t ()then x ()else y ()),[dd λ_=>t ()=false->g ()=true])
 |.bool x,.undef=>some (.bool x,[dd λ_=>t ()=true])
 |.undef,.bool y=>some (.bool y,[dd λ_=>t ()=false])
 |_,_=>none
def ZmU (c a b:AV):Option (AV×Cd):=match c with
 |.bool t=>ZmT t a b
 |.ob g t=>(match ZmT t a b with
  |some (v,cd)=>some (v,dd (λ_=>g ()=true)::cd)
  |none=>none)
 |_=>none
def ZfI (T:TI) (x:AV) (lo hi A:Option AV):Option (AV×Cd):=
 match T.k,x with
 |.slice _ esz _,.isl s n f _=>if !ZK s esz then none else(match lo,hi,A with
  |none,none,none=>some (.isl s n f .none,[])
  |some (.int _ l),none,none=>some (.isl s (λ_=>n ()-l ()) (λe=>f (λ_=>e ()+l ())) .none,[dd λ_=>0<=l ()/\l ()<=n ()])
  |none,some (.int _ h),none=>some (.isl s h f .none,[dd λ_=>0<=h ()/\h ()<=n ()])
  |some (.int _ l),some (.int _ h),none=>some (.isl s (λ_=>h ()-l ()) (λe=>f (λ_=>e ()+l ())) .none,[dd λ_=>0<=l ()/\l ()<=h ()/\h ()<=n ()])
  |none,some (.int _ h),some (.int _ m)=>some (.isl s h f .exact,[dd λ_=>0<=h ()/\h ()=m ()/\h ()<=n ()])
  |_,_,_=>none)
 |.slice _ esz _,.msl id s o n c=>if !ZK s esz then none else(match lo,hi,A with
  |some (.int _ l),none,none=>some (.msl id s (λ_=>o ()+l ()) (λ_=>n ()-l ()) (λ_=>c ()-l ()),[dd λ_=>0<=l ()/\l ()<=n ()/\(l ()=0\/l ()<c ())])
  |none,some (.int _ h),none=>some (.msl id s o h c,[dd λ_=>0<=h ()/\h ()<=n ()])
  |_,_,_=>none)
 |.array n esz,.ptr id off=>(match lo,hi,A with
  |none,none,none=>if ltN 0 esz&&ZK (off/esz*esz) off then some (.msl id esz (λ_=>((off/esz:Nat):Int)) (λ_=>(n:Int)) (λ_=>(n:Int)),[])else none
  |_,_,_=>none)
 |_,_=>none
def zb:Option AV->Option Cd
 |none=>some []
 |some (.int _ l)=>some [dd λ_=>l ()=0]
 |_=>none
def Zf5 (T:TI) (x:AV) (lo hi A:Option AV):Option (AV×Cd):=match T.k,x with
 |.slice e esz b,.isl s n f .nil=>if ZK s esz then ZfI T x lo hi A else(match zb lo,zb hi,zb A with
  |some a,some b,some c=>if A.isNone||hi.isSome then some (.isl s n f .nil,a++(b++c))else none
  |_,_,_=>none)
 |_,_=>ZfI T x lo hi A
def plain:AV->Bool
 |.gd _ _|.ob _ _|.undef=>false
 |_=>true
def Zes:Operand->Bool
 |.const (.slice none 0 0)=>true
 |_=>false
def Zdk (op:BinOp):AV->Option (AV×Cd)
 |.isl _ _ _ .nil=>(match op with
  |.eql=>some (.bool (λ_=>true),[])
  |.neq=>some (.bool (λ_=>false),[])
  |_=>none)
 |.isl _ _ _ .nn=>(match op with
  |.eql=>some (.bool (λ_=>false),[])
  |.neq=>some (.bool (λ_=>true),[])
  |_=>none)
 |.isl _ n _ _=>(match op with
  |.eql=>some (.bool (λ_=>false),[dd λ_=>0<n ()])
  |.neq=>some (.bool (λ_=>true),[dd λ_=>0<n ()])
  |_=>none)
 |_=>none
def Zak (P:Program) (t:TypeId) (n:Nat):Bool:=Ya P 5 t n&& !P.eqGuardType P.depth t&&(match P.underlying t with
 |some d=>ZbJ d
 |none=>false)
def ZeQ (P:Program) (op:BinOp) (t:TypeId) (A:Bool) (x y:AV):Option (AV×Cd):=
 if A then(match P.underlying t with
  |some (.slice _)=>Zdk op x
  |_=>none)
 else match x,y with
  |.int k a,.int k' b=>(match op with
   |.shl|.shr=>ZiL op k a b
   |_=>if Jl k k' then Ztz op k a b else none)
  |.agg xs,.agg ys=>if Zak P t xs.length&&ZK xs.length ys.length then
     (match op with
     |.eql=>(ZO xs ys).map λg=>(.bool g,[])
     |.neq=>(ZO xs ys).map λg=>(.bool (λ_=> !g ()),[])
     |_=>none)else none
  |.bool a,.bool b=>(match P.underlying t with
   |some .bool=>(match op with
    |.eql=>some (.bool (λ_=>a ()==b ()),[])
    |.neq=>some (.bool (λ_=>a () !=b ()),[])
    |_=>none)
   |_=>none)
  |_,_=>none
def keyT (P:Program) (A:TypeId):Nat->Bool
 |0=>(match P.underlying A with
  |some (.int .i64)=>true
  |_=>false)
 |n+1=>Ya P 5 A (n+1)&&(match P.underlying A with
  |some d=>ZbJ d
  |none=>false)
structure TyF where
 un:TypeId->Option TypeDesc
 ti:TypeId->Option TI
 kT:TypeId->Nat->Bool
def tyP (P:Program):TyF:=⟨P.underlying,ZI P,keyT P⟩
structure TyF.le (A B:TyF):Prop where
 un:∀t d,A.un t=some d->B.un t=some d
 ti:∀t d,A.ti t=some d->B.ti t=some d
 kT:∀t n,A.kT t n=true->B.kT t n=true
def Zez:List AV->Option (Unit->List Int)
 |[]=>some λ_=>[]
 |.int .i64 a::r=>(match Zez r with
  |some g=>some λ_=>a ()::g ()
  |none=>none)
 |_=>none
def ZhA (A:TyF) (H:TypeId) (G:Nat):AV->Option (Unit->List Int)
 |.int .i64 a=>if ZK G 0&&A.kT H 0 then some λ_=>[a ()]else none
 |.agg cs=>if ZK G cs.length&&ltN 0 cs.length&&A.kT H cs.length then Zez cs else none
 |_=>none
def isZ:Value->Bool
 |.int .i64 z=>decide (z=0)
 |_=>false
def zN:Option Value->Option Nat
 |some (.int .i64 z)=>if decide (z=0)then some 0 else none
 |some (.agg cs)=>if cs.toList.all isZ&&ltN 0 cs.size then some cs.size else none
 |_=>none
def zIs (A:TyF) (G:TypeId) (n:Nat):Bool:=match zN ((A.ti G).bind (·.zero))with
 |some m=>ZK m n
 |none=>false
def Je:Nat->(Unit->List Int)->List AV
 |0,_=>[]
 |n+1,d=>.int .i64 (λ_=>(d ()).headD 0)::Je n λ_=>(d ()).tail
def Ze3:Nat->(Unit->List Int)->AV
 |0,d=>.int .i64 λ_=>(d ()).headD 0
 |n+1,d=>.agg (Je (n+1) d)
def Zqk (ok:Bool) (v:AV) (b:Unit->Bool):AV:=match ok with
 |true=>.tup [v,.bool b]
 |false=>v
def ZdQ (A:TyF) (I H:TypeId) (G n:Nat) (L:Unit->List (List Int×List Int)) (k:AV) (ok:Bool):Option (AV×Cd):=match ZhA A I G k with
 |some g=>if zIs A H n then some (Zqk ok (Ze3 n λ_=>((L ()).lookup (g ())).getD []) λ_=>((L ()).lookup (g ())).isSome,[])else none
 |none=>none
def JX (A:TyF) (t:TypeId) (m k:AV) (ok:Bool) (h:List Zi):Option (AV×Cd):=match A.un t with
 |some (.map kt et)=>(match m with
  |.map id=>(match h[id]? with
   |some (.mapB f)=>(match ok,k,A.un kt,(A.ti et).bind (·.zero)with
    |false,.int .i64 n,some (.int .i64),some (.bool false)=>some (.bool (f n),[])
    |_,_,_,_=>none)
   |some (.gob (.mapL G n L))=>ZdQ A kt et G n L k ok
   |some (.gob (.mapM G kb n L))=>(match ZhA A kt G k,(A.ti et).bind (·.zero)with
    |some g,some (.map none)=>some (Zqk ok (.imap kb n λ_=>((L ()).lookup (g ())).getD []) λ_=>((L ()).lookup (g ())).isSome,[])
    |_,_=>none)
   |_=>none)
  |.imap G n L=>ZdQ A kt et G n L k ok
  |_=>none)
 |_=>none
def Zjl (h:List Zi):AV->Option (AV×Cd)
 |.mit id=>(match h[id]? with
  |some (.gob (.mapIt ka n L seen cur))=>some (.tup [Ze3 ka λ_=>(cur ()).1,Ze3 n λ_=>(cur ()).2],[dd λ_=>seen ()≠ []])
  |_=>none)
 |_=>none
def JG (P:Program) (E:Operand->AV) (h:List Zi):Op->Option (AV×Cd)
 |.move x|.assign x=>some (E x,[])
 |.nilCheck x=>(match E x with
  |.ptr i o=>some (.ptr i o,[])
  |.iptr c o=>some (.iptr c o,[])
  |.aptr id s e o=>some (.aptr id s e o,[])
  |.gptr id s n e o=>some (.gptr id s n e o,[])
  |.nptr id s e k o=>some (.nptr id s e k o,[])
  |_=>none)
 |.pick c a b=>ZmU (E c) (E a) (E b)
 |.load t a=>(match ZI P t with
  |some T=>Zh6 T h (E a)
  |none=>none)
 |.fieldAddr t x f=>(match ZI P t with
  |some T=>Jn T (E x) f
  |none=>none)
 |.indexAddr t x i=>(match ZI P t with
  |some T=>Zah T (E x) (E i)
  |none=>none)
 |.binOp A t x y _=>ZeQ P A t (Zes y) (E x) (E y)
 |.unOp .not _ x=>(match E x with
  |.bool a=>some (.bool (λ_=> !a ()),[])
  |_=>none)
 |.unOp .neg _ x=>(match E x with
  |.int k a=>some (Zfy k λ_=>0-a ())
  |_=>none)
 |.convert s d x=>(match E x,ZI P s,ZI P d with
  |.int _ a,some _,some D=>(match D.k with
   |.int k=>some (Zfy k a)
   |_=>none)
  |_,_,_=>none)
 |.extract x i=>(match E x with
  |.tup G=>(match G[i]? with
   |some v=>some (v,[])
   |none=>none)
  |_=>none)
 |.build t ps=>(match ZI P t with
  |some T=>(match T.k,T.zero with
   |.struct fs,some z=>if fs.all gV&&ps.toList.all (λp=>plain (E p.2))then(Zdr fs E (XQ z).cellsOf ps.toList).map (λcs=>(.agg cs,[]))else none
   |_,_=>none)
  |none=>none)
 |.index t x i=>(match E x,E i,P.underlying t with
  |.str s,.int _ e,some .string=>some (.int .u8 λ_=>((((s ())[(e ()).toNat]?).map UInt8.toNat).getD 0:Nat),[dd λ_=>0<=e ()/\e ()<((s ()).size:Int)])
  |.agg cs,.int _ e,some (.array n el)=>(match ZI P el with
   |some T=>if ZK T.size 1&& !T.agg&&ZK cs.length n then(match Zny cs e with
    |some v=>some (v,bnd e n)
    |none=>none)else none
   |none=>none)
  |_,_,_=>none)
 |.lookup t m k ok=>JX (tyP P) t (E m) (E k) ok h
 |.entry x=>Zjl h (E x)
 |.field t x i=>(match ZI P t with
  |some T=>(match T.k,E x with
   |.struct fs,.agg cs=>(match fs[i]? with
    |some (some (off,sz,g))=>if g then(if Qd (off+sz) cs.length then some (.agg ((cs.drop off).take sz),[])else none)else(match cs[off]? with
     |some v=>some (v,[])
     |none=>none)
    |_=>none)
   |_,_=>none)
  |none=>none)
 |.makeFunc (.func f) a b=>some (.fn f (a.toList.map E) (b.toList.map E),[])
 |.slice t x lo I H=>(match ZI P t with
  |some T=>Zf5 T (E x) (lo.map E) (I.map E) (H.map E)
  |none=>none)
 |.call {callee:=.builtin .len,args,argTypes}=>(match args.toList.map E,argTypes.toList with
  |[.isl _ n _ _],t::_=>(match P.underlying t with
   |some (.slice _)=>some (.int .i64 n,[])
   |_=>none)
  |[.msl _ _ _ n _],t::_=>(match P.underlying t with
   |some (.slice _)=>some (.int .i64 n,[])
   |_=>none)
  |[.gsl _ n],t::_=>(match P.underlying t with
   |some (.slice _)=>some (.int .i64 n,[])
   |_=>none)
  |[.nsub _ _ n],t::_=>(match P.underlying t with
   |some (.slice _)=>some (.int .i64 n,[])
   |_=>none)
  |_,_=>none)
 |.call {callee:=.builtin .max,args,.. }=>(match args.toList.map E with
  |.int k x::r=>ZgE k true r x
  |_=>none)
 |.call {callee:=.builtin .min,args,.. }=>(match args.toList.map E with
  |.int k x::r=>ZgE k false r x
  |_=>none)
 |_=>none
section
variable {P:Program} {R:RC} {G:Nat->Nat->Nat->Prop} {h:List Zi}
def Row (R:RC) (b o:Nat) (cs:List AV):Prop:=∃A:Nat->Value,∀j c,cs[j]? =some c->R.w.cell? ⟨b,o+j,none⟩=some (A j)/\VR R c (A j)
theorem ZaO {t:TypeId} {T:TI} (hT:ZI P t=some T) {b o off:Nat} {cs:List AV} (H:Row R b o cs) {v:AV} (hv:Zc2 T cs off=some v):
  ∃u,(loadVar t ⟨b,o+off,none⟩).run P R.w= .ok u R.w/\VR R v u:=by
 obtain⟨I,J⟩:=H;unfold Zc2 at hv;cases hg:T.agg
 ·rw[hg]at hv;simp only[aX,if_false]at hv;obtain⟨V,U⟩:=J _ _ hv;refine⟨I off,?_,U⟩;rw[Ze9 hT b (o+off) (λj=>I (off+j)) (λj A=>?_)]
  ·simp[hg]
  rw[hg]at A;have:j=0:=by simp at A;omega
  subst this;exact V
 rw[hg]at hv;simp only[if_true]at hv;split at hv
 ·rename_i G;have G:=Xc G;simp only[aD]at hv;subst hv;refine⟨_,Ze9 hT b (o+off) (λj=>I (off+j)) (λj A=>?_),?_⟩
  ·rw[hg]at A;simp only[if_true]at A;have:=(J (off+j) _ (aC (show off+j<cs.length by omega))).1;rwa [<-dG]at this
  rw[hg];simp only[if_true];refine .agg _ _ (by simp;omega) (λj c A=>?_);rw[cR]at A;split at A
  ·rename_i S;rw[cT]at A;have:=(J _ _ A).2;simpa [S]using this
  cases A
 cases hv
theorem Jq {id:Nat} {cs:List AV} (h':Jw h id=some cs):h[id]? =some (.cells cs):=by
 unfold Jw at h';split at h'
 ·rename_i A;simp only[aD]at h';subst h';exact A
 cases h'
theorem Z4 {w:World} {b i:Nat} {arr:Array Value} {ty:TypeId} {fr:Nat×Nat} (h:w.heap[b]? =some (.cells arr ty fr)) (hi:i<arr.size):
  w.cell? ⟨b,i,none⟩=some (arr.getD i undef):=by
 simp[World.cell?,h,hi,Array.getD]
theorem ZhV (H:HR G R h) {id:Nat} {cs:List AV} (h':Jw h id=some cs):Row R (R.α id).b (R.α id).o cs:=by
 obtain⟨arr,ty,I,S,J⟩:=H.blk id _ (Jq h');refine⟨λj=>arr.getD ((R.α id).o+j) undef,λj c A=>⟨Z4 I ?_,J j c A⟩⟩;have:=(aE.1 A).1;omega
theorem ZjQ:∀(l:List (Unit->Int)) (i:Nat) (A:i<l.length),Zlp l (i:Int)=l[i] ()
 |[],i,A=>by simp at A
 |a::r,0,A=>by simp[Zlp]
 |a::r,i+1,A=>by
  have G:((i+1:Nat):Int)≠0:=by omega
  have H:((i+1:Nat):Int)-1=(i:Int):=by omega
  simp only[Zlp,iP G,H,gP];exact ZjQ r i (by simpa using A)
theorem ZjR:∀(l:List (Unit->Bool)) (i:Nat) (A:i<l.length),ZjS l (i:Int)=l[i] ()
 |[],i,A=>by simp at A
 |a::r,0,A=>by simp[ZjS]
 |a::r,i+1,A=>by
  have G:((i+1:Nat):Int)≠0:=by omega
  have H:((i+1:Nat):Int)-1=(i:Int):=by omega
  simp only[ZjS,iP G,H,gP];exact ZjR r i (by simpa using A)
theorem Zex:∀ {cs:List AV} {l:List (Unit->Int)},Zh8 cs=some l->l.length=cs.length/\∀(i:Nat) (A:i<l.length),cs[i]? =some (.int .i64 l[i])
 |[],l,h=>by
  simp only[Zh8,aD]at h;subst h;exact⟨rfl,λi A=>by simp at A⟩
 |a::r,l,h=>by
  unfold Zh8 at h;split at h
  ·rename_i G;cases G
  ·rename_i U S G;cases G;split at h
   ·rename_i V H;cases h;obtain⟨J,I⟩:=Zex H;refine⟨by simp[J],λi A=>?_⟩;cases i with
    |zero=>rfl
    |succ i=>exact I i (by simpa using A)
   cases h
  cases h
theorem Zds:∀ {cs:List AV} {l:List (Unit->Bool)},ZeP cs=some l->l.length=cs.length/\∀(i:Nat) (A:i<l.length),cs[i]? =some (.bool l[i])
 |[],l,h=>by
  simp only[ZeP,aD]at h;subst h;exact⟨rfl,λi A=>by simp at A⟩
 |a::r,l,h=>by
  unfold ZeP at h;split at h
  ·rename_i G;cases G
  ·rename_i U S G;cases G;split at h
   ·rename_i V H;cases h;obtain⟨J,I⟩:=Zds H;refine⟨by simp[J],λi A=>?_⟩;cases i with
    |zero=>rfl
    |succ i=>exact I i (by simpa using A)
   cases h
  cases h
theorem ZmG {cs:List AV} {e:Unit->Int} {v:AV} (hv:Zny cs e=some v) {i:Nat} (J:e ()=(i:Int)) (hi:i<cs.length) {u:Value} (S:∀c,cs[i]? =some c->VR R c u):VR R v u:=by
 unfold Zny at hv;split at hv
 ·rename_i l G;cases hv;obtain⟨U,H⟩:=Zex G;have I:=S _ (H i (by omega));cases I with
  |pure _ _ A=>
   cases A;have:(λ_:Unit=>Zlp l (e ()))=l[i]'(by omega):=funext λ_=>by rw[J,ZjQ l i (by omega)]
   rw[this];exact .pure _ _ (.int _ _)
 split at hv
 ·rename_i l G;cases hv;obtain⟨U,H⟩:=Zds G;have I:=S _ (H i (by omega));cases I with
  |pure _ _ A=>
   cases A;have:(λ_:Unit=>ZjS l (e ()))=l[i]'(by omega):=funext λ_=>by rw[J,ZjR l i (by omega)]
   rw[this];exact .pure _ _ (.bool _)
 cases hv
theorem Zki {t:TypeId} {T:TI} (hT:ZI P t=some T) (H:HR G R h) {a v:AV} {c:Cd} {u:Value} (ha:VR R a u)
  (hv:Zh6 T h a=some (v,c)) (hc:ZV c):∃x,(ec t u).run P R.w= .ok x R.w/\VR R v x:=by
 unfold Zh6 at hv;cases a with
 |ptr id Z=>
  cases ha with
  |pure _ _ hp=>cases hp
  |ptr _ _ ai=>
  simp only at hv;split at hv
  ·rename_i cs ba;simp only[aG,aK]at hv;obtain⟨v',A,rfl,rfl⟩:=hv;obtain⟨x,Y,I⟩:=ZaO hT (ZhV H ba) A;exact⟨x,by simp[ec,cN,Y],I⟩
  cases hv
 |iptr cs Z=>
  cases ha with
  |pure _ _ hp=>
  cases hp with
  |iptr _ _ b o us h1 h2 h3=>
  simp only[aG,aK]at hv;obtain⟨v',A,rfl,rfl⟩:=hv;obtain⟨x,Y,I⟩:=ZaO (b:=b) (o:=o) hT ⟨us,λj c J=>⟨h1 j c J,.pure _ _ (h2 j c J)⟩⟩ A;exact⟨x,by simp[ec,cN,Y],I⟩
 |aptr id s e Z=>
  cases ha with
  |pure _ _ hp=>cases hp
  |aptr _ _ _ _ i ai he=>
  simp only at hv;split at hv
  ·rename_i s' n f hb;split at hv
   ·rename_i S;have S:=ZF S;subst S;simp only[aG,aK]at hv;obtain⟨v',A,rfl,rfl⟩:=hv;have hr:=(Cn.out (hc _ (aN.2 rfl)));obtain⟨arr,ty,len,h1,hn,h2,h3⟩:=H.blk id _ hb;rw[he,hn]at hr;have V:i<len:=by omega
    obtain⟨hl,U⟩:=h3 i V;have ae:f e=f (λ_=>(i:Int)):=congrArg f (funext λ_=>he);rw[ae]at A;have aj:i*s+s<=len*s:=by
     have:(i+1)*s<=len*s:=aL s V;rwa [bI]at this
    obtain⟨x,Y,I⟩:=ZaO (b:=(R.α id).b) (o:=(R.α id).o+i*s) hT ⟨λj=>arr.getD ((R.α id).o+i*s+j) undef,λj c J=>
     ⟨Z4 h1 (by have:=(aE.1 J).1;omega),.pure _ _ (U j c J)⟩⟩ A
    exact⟨x,by simp[ec,cN,Y],I⟩
   cases hv
  ·rename_i cs hb;split at hv
   ·rename_i ap;simp only[aS,cG]at ap;obtain⟨⟨S,ho⟩,au⟩:=ap;have S:=ZF S;have ho:=ZF ho;subst S ho;split at hv
    ·rename_i v' ar;cases hv;obtain⟨r1,r2⟩:=(Cn.out (hc _ (aN.2 rfl)));have V:i<cs.length:=by omega
     obtain⟨us,a9⟩:=ZhV H (show Jw h id=some cs by unfold Jw;rw[hb]);obtain⟨c0,ak⟩:∃c0,cs[i]? =some c0:=⟨_,aC V⟩;obtain⟨k1,k2⟩:=a9 i c0 ak
     obtain⟨x,Y,I⟩:=ZaO (b:=(R.α id).b) (o:=(R.α id).o+i) (off:=0) (cs:=[c0]) (v:=c0) hT ⟨λ_=>us i,λj c J=>by
      cases j with
      |zero=>simp at J;subst J;exact⟨k1,k2⟩
      |succ j=>simp at J⟩ (by unfold Zc2;rw[iP (by simp[au])];rfl)
     refine⟨x,by simpa [ec,cN]using Y,ZmG ar he V λc am=>?_⟩;rw[ak]at am;cases am;exact I
    cases hv
   cases hv
  cases hv
 |gptr id s n e Z=>
  cases ha with
  |pure _ _ hp=>cases hp
  |gptr _ _ _ _ _ a ai bl he=>
  simp only at hv;have ao:∀(s':Nat) (m:Unit->Int) (f:(Unit->Int)->List AV),R.hw id=m ()->ZvS R s' m f (R.hv id)->(if ZK s s' then(Zc2 T (f e) Z).map (·,[dd λ_=>n ()=m ()/\0<=e ()/\e ()<m ()])else none)=some (v,c)->∃x,(ec t (.pointer (some a))).run P R.w= .ok x R.w/\VR R v x:=by
   intro s' m f ab aa hv;split at hv
   ·rename_i S;have S:=ZF S;subst S;simp only[aG,aK]at hv;obtain⟨v',A,rfl,rfl⟩:=hv;obtain⟨be,hr⟩:=(Cn.out (hc _ (aN.2 rfl)));obtain⟨b,o,i,l,cp,g0,bg,rfl⟩:=he (by rw[be,ab]);rcases aa with⟨al,_⟩|⟨b',o',len,ac,arr,ty,g1,g2,g3,g4,g5,g6⟩
    ·omega
    rw[g0]at g3;cases g3;have V:i<l:=by omega
    obtain⟨hl,U⟩:=g6 i V;have ae:f e=f (λ_=>(i:Int)):=congrArg f (funext λ_=>bg);rw[ae]at A;have aj:i*s+s<=l*s:=by
     have:(i+1)*s<=l*s:=aL s V;rwa [bI]at this
    have bc:l*s<=cp*s:=aL s g2
    obtain⟨x,Y,I⟩:=ZaO (b:=b) (o:=o+i*s) hT ⟨λj=>arr.getD (o+i*s+j) undef,λj c J=>
     ⟨Z4 g4 (by have:=(aE.1 J).1;omega),U j c J⟩⟩ A
    exact⟨x,by simp[ec,cN,Y],I⟩
   cases hv
  split at hv
  ·rename_i s' m f hb;obtain⟨ab,aa⟩:=H.blk id _ hb;refine ao s' m f ab ?_ hv;rcases aa with h0|⟨b',o',len,ac,arr,ty,g1,g2,g3,g4,g5,g6⟩
   ·exact .inl h0
   exact .inr ⟨b',o',len,ac,arr,ty,g1,g2,g3,g4,g5,λi V=>⟨(g6 i V).1,λj c J=>.pure _ _ ((g6 i V).2 j c J)⟩⟩
  ·rename_i s' m f hb;obtain⟨ab,aa⟩:=H.blk id _ hb;exact ao s' m f ab aa hv
  cases hv
 |nptr id s e k Z=>
  cases ha with
  |pure _ _ hp=>cases hp
  |nptr _ _ _ _ _ us i b o l cp j ai bh he hu hk=>
  simp only at hv;split at hv
  ·rename_i z s' n m g hb;split at hv
   ·rename_i S;have S:=ZF S;subst S;simp only[aG,aK]at hv;obtain⟨v',A,rfl,rfl⟩:=hv;obtain⟨r1,r2,r3,r4⟩:=(Cn.out (hc _ (aN.2 rfl)));obtain⟨_,_,bk,ah,bm,aq,_⟩:=H.blk id _ hb;rw[bh]at ah;cases ah;have az:e=λ_=>(i:Int):=funext λ_=>he;have aw:k=λ_=>(j:Int):=funext λ_=>hk;subst az aw;rcases aq i _ hu with⟨al,_⟩|⟨b',o',len,ac,arr,ty,g1,g2,g3,g4,g5,g6⟩
    ·simp only at al r4 r3;omega
    cases g3;simp only at g1 r4;have V:j<l:=by omega
    obtain⟨hl,U⟩:=g6 j V;have aj:j*s+s<=l*s:=by
     have:(j+1)*s<=l*s:=aL s V;rwa [bI]at this
    have bc:l*s<=cp*s:=aL s g2
    obtain⟨x,Y,I⟩:=ZaO (b:=b) (o:=o+j*s) hT ⟨λq=>arr.getD (o+j*s+q) undef,λq c J=>
     ⟨Z4 g4 (by have:=(aE.1 J).1;omega),.pure _ _ (U q c J)⟩⟩ A
    exact⟨x,by simp[ec,cN,Y],I⟩
   cases hv
  cases hv
 |_=>cases hv
end
end Vm
namespace Vm
open Go
section
variable {P:Program} {R:RC} {G:Nat->Nat->Nat->Prop} {h:List Zi}
theorem VR.int_inv {k:IntKind} {n:Unit->Int} {u:Value} (h:VR R (.int k n) u):u= .int k (n ()):=by
 cases h with
 |pure _ _ A=>cases A;rfl
theorem VR.bool_inv {b:Unit->Bool} {u:Value} (h:VR R (.bool b) u):u= .bool (b ()):=by
 cases h with
 |pure _ _ A=>cases A;rfl
theorem VR.isl_inv {s:Nat} {n:Unit->Int} {f:(Unit->Int)->List AV} {tk:Tk} {u:Value} (h:VR R (.isl s n f tk) u):PR R.w R.ok (.isl s n f .none) u:=by
 cases h with
 |pure _ _ A=>
  cases A with
  |isl0 _ _ _ _ h H=>exact .isl0 _ _ _ _ h rfl
  |islE _ _ _ _ a h H=>exact .islE _ _ _ _ a h (.inl rfl)
  |isl _ _ _ _ b o len G I Z Y H he J U S V=>exact .isl _ _ _ _ b o len G I Z Y (.inl rfl) (λh=>by cases h) J U S V
 |own _ _ _ _ _ _ A _ _=>exact A
 |nn _ _ _ _ A _=>exact A
theorem VR.agg_inv {cs:List AV} {u:Value} (h:VR R (.agg cs) u):∃A:Array Value,u= .agg A/\cs.length=A.size/\∀j c,cs[j]? =some c->VR R c (A.getD j Go.undef):=by
 cases h with
 |pure _ _ G=>cases G
 |agg _ A H h=>exact⟨A,rfl,H,h⟩
theorem VR.tup_inv {cs:List AV} {u:Value} (h:VR R (.tup cs) u):∃A:Array Value,u= .tuple A/\cs.length=A.size/\∀j c,cs[j]? =some c->VR R c (A.getD j Go.undef):=by
 cases h with
 |pure _ _ G=>cases G
 |tup _ A H h=>exact⟨A,rfl,H,h⟩
theorem VR.ob_inv {g b:Unit->Bool} {u:Value} (h:VR R (.ob g b) u) (G:g ()=true):u= .bool (b ()):=by
 cases h with
 |pure _ _ h=>cases h
 |ob _ _ _ A H=>exact A G
theorem VR.ob_none {g b:Unit->Bool} {u:Value} (h:VR R (.ob g b) u) (A:g ()=false):u=Go.undef:=by
 cases h with
 |pure _ _ h=>cases h
 |ob _ _ _ H G=>exact G A
theorem VR.gd_inv {g:Unit->Bool} {v:AV} {u:Value} (h:VR R (.gd g v) u) (G:g ()=true):VR R v u:=by
 cases h with
 |pure _ _ A=>cases A
 |gd _ _ _ h=>exact h G
theorem VR.mkInt {k:IntKind} {n:Unit->Int} {x:Int} (e:n ()=x):VR R (.int k n) (.int k x):=e▸ .pure _ _ (.int k n)
theorem VR.mkBool {b:Unit->Bool} {x:Bool} (e:b ()=x):VR R (.bool b) (.bool x):=e▸ .pure _ _ (.bool b)
theorem ZhD {t:TypeId} {T:TI} (hT:ZI P t=some T) {x v:AV} {i:Nat} {c:Cd} {u:Value} (I:VR R x u) (hv:Jn T x i=some (v,c)):
  ∃y,(Instr.fieldAt t u i).run P R.w= .ok y R.w/\VR R v y:=by
 unfold Jn at hv;split at hv
 ·rename_i fs hk;obtain⟨fl,V,rfl⟩:=Zcx hT hk;split at hv
  ·rename_i ab sz g hf;split at hv
   ·cases hv
   rename_i hz;rw[aP,aG]at hf;obtain⟨f,ae,ac⟩:=hf;obtain⟨j,d,hj,hd,ho,hs,_⟩:=Zcp ac;have ah:j.size≠0:=by
    rw[hs];intro e;rw[e]at hz;exact hz rfl
   have Z:fl[i]? =some f:=by rw[<-ae,bN]
   have run:∀a:Addr,(Instr.fieldAt t (.pointer (some a)) i).run P R.w= .ok (.pointer (some (a.add ab))) R.w:=λa=>by
    simp[Instr.fieldAt,Zy V,Z,cN,fieldPlace,Z6 hj,ah,ho]
   split at hv
   ·cases I with
    |pure _ _ G=>cases G
    |ptr id o A=>
     simp only[aD,aK]at hv;obtain⟨rfl,rfl⟩:=hv;exact⟨_,run _,by rw[QI,dG];exact .ptr _ _ A⟩
   ·cases I with
    |pure _ _ G=>
    cases G with
    |iptr cs o b H Y U S h3=>
     simp only[aD,aK]at hv;obtain⟨rfl,rfl⟩:=hv;exact⟨_,run _,by rw[QI,dG];exact .pure _ _ (.iptr _ _ b H Y U S h3)⟩
   ·cases I with
    |pure _ _ G=>cases G
    |aptr id s e o k A J=>
     simp only[aD,aK]at hv;obtain⟨rfl,rfl⟩:=hv;exact⟨_,run _,by rw[QI,dG];exact .aptr _ _ _ _ k A J⟩
   ·cases I with
    |pure _ _ G=>cases G
    |gptr id s n e o a A hn J=>
     simp only[aD,aK]at hv;obtain⟨rfl,rfl⟩:=hv
     exact⟨_,run _,.gptr _ _ _ _ _ _ A hn λe'=>by
      obtain⟨b,H,k,l,c,U,S,rfl⟩:=J e'
      exact⟨b,H,k,l,c,U,S,by rw[QI,dG]⟩⟩
   ·cases I with
    |pure _ _ G=>cases G
    |nptr id s e k o Y i b H l c j A ai J V aa=>
     simp only[aD,aK]at hv;obtain⟨rfl,rfl⟩:=hv;exact⟨_,run _,by rw[QI,dG];exact .nptr _ _ _ _ _ Y i b H l c j A ai J V aa⟩
   cases hv
  cases hv
 cases hv
theorem ZhB {t:TypeId} {T:TI} (hT:ZI P t=some T) (H:HR G R h) {x i v:AV} {c:Cd} {u ui:Value} (hx:VR R x u) (hi:VR R i ui)
  (hv:Zah T x i=some (v,c)) (hc:ZV c):∃y,(eP t u ui).run P R.w= .ok y R.w/\VR R v y:=by
 unfold Zah at hv;split at hv
 ·rename_i k e;rw[hi.int_inv];split at hv
  ·rename_i el U eb hk;obtain⟨j,hu,V,hs,_⟩:=Jx hT hk;have ah:=hu;split at hv
   ·rename_i s n f tk;split at hv
    ·rename_i J;have J:=ZF J;subst J;simp only[aD,aK]at hv;obtain⟨rfl,rfl⟩:=hv;obtain⟨Y,h1⟩:=(Cn.out (hc _ (aN.2 rfl)));have Z:=hx.isl_inv;cases Z with
     |isl0 _ _ _ _ hz _=>omega
     |islE _ _ _ _ _ hz _=>omega
     |isl _ _ _ _ b o len ai us hn ap ht he hl ac ae aj=>
      obtain⟨i,A⟩:=bU Y;have I:i<len:=by omega
      have al:f e=f (λ_=>(i:Int)):=congrArg f (funext λ_=>A);refine⟨.pointer (some ⟨b,o+i*s,none⟩),?_,?_⟩
      ·rw[A];simp[eP,asIntOf,Zy hu,I,Z6 V,QI,hs]
      rw[al];have am:i*s+s<=len*s:=by
       have:(i+1)*s<=len*s:=aL s I;rwa [bI]at this
      have:=PR.iptr (w:=R.w) (ok:=R.ok) (f λ_=>(i:Int)) 0 b (o+i*s) (us i) (λj c V=>ac i j c I V) (λj c V=>ae i j c I V) (H.sub aj (by omega) (by rw[hl i I];omega));exact .pure _ _ this
    cases hv
   ·rename_i id s lo n cp;split at hv
    ·rename_i J;have J:=ZF J;subst J;simp only[aD,aK]at hv;obtain⟨rfl,rfl⟩:=hv;obtain⟨Y,h1⟩:=(Cn.out (hc _ (aN.2 rfl)));cases hx with
     |pure _ _ Z=>cases Z
     |msl _ _ _ _ _ i0 len ai S ak hn aq am=>
      obtain⟨i,A⟩:=bU Y;have I:i<len:=by omega
      refine⟨.pointer (some ⟨(R.α id).b,(R.α id).o+(i0+i)*s,none⟩),?_,?_⟩
      ·rw[A];simp[eP,asIntOf,Zy hu,I,Z6 V,QI,hs,dI,dG]
      exact .aptr id s _ 0 (i0+i) S (by rw[ak,A];omega)
    cases hv
   ·rename_i id n;simp only[aD,aK]at hv;obtain⟨rfl,rfl⟩:=hv;obtain⟨Y,h1⟩:=(Cn.out (hc _ (aN.2 rfl)));cases hx with
    |pure _ _ Z=>cases Z
    |gsl _ _ a l c' S hn he hl=>
     obtain⟨i,A⟩:=bU Y;obtain⟨hl,⟨_,ab⟩|⟨b,o,rfl⟩⟩:=hl
     ·omega
     have I:i<l:=by omega
     refine⟨.pointer (some ⟨b,o+i*U,none⟩),?_,?_⟩
     ·rw[A];simp[eP,asIntOf,Zy hu,I,Z6 V,QI,hs]
     exact .gptr id U _ _ 0 _ S hn λhh=>⟨b,o,i,l,c',(he hh).symm,A,rfl⟩
   ·rename_i id a0 n;simp only[aD,aK]at hv;obtain⟨rfl,rfl⟩:=hv;obtain⟨Y,h1⟩:=(Cn.out (hc _ (aN.2 rfl)));cases hx with
    |pure _ _ Z=>cases Z
    |nsub _ _ _ a l c' us r S ao he hu hl=>
     obtain⟨i,A⟩:=bU Y;obtain⟨hl,⟨_,ab⟩|⟨b,o,rfl⟩⟩:=hl
     ·omega
     have I:i<l:=by omega
     refine⟨.pointer (some ⟨b,o+i*U,none⟩),?_,?_⟩
     ·rw[A];simp[eP,asIntOf,Zy ah,I,Z6 V,QI,hs]
     exact .nptr id U _ _ 0 us r b o l c' i S ao he hu A
   cases hv
  ·rename_i n U hk;obtain⟨el,j,hu,V,hs⟩:=ZjL hT hk;split at hv
   ·rename_i id aa;cases hv;obtain⟨Y,h1⟩:=(Cn.out (hc _ (aN.2 rfl)));cases hx with
    |pure _ _ Z=>cases Z
    |ptr _ _ S=>
     obtain⟨i,A⟩:=bU Y;have I:i<n:=by omega
     refine⟨.pointer (some ⟨(R.α id).b,(R.α id).o+i*U+aa,none⟩),?_,.aptr id U _ aa i S A⟩;rw[A];simp[eP,asIntOf,Zy hu,I,Z6 V,cN,QI,hs];omega
   cases hv
  cases hv
 cases hv
theorem Zht (op:BinOp) (t:TypeId) (x y:Operand) (k A:IntKind) (a b:Int):(eqGuard op t x y (.int k a) (.int A b)).run P R.w= .ok () R.w:=by
 cases op<;>simp[eqGuard]
theorem Zty (op:BinOp) (t:TypeId) (k:IntKind) (a b:Unit->Int) (v:AV) (c:Cd) (hv:Ztz op k a b=some (v,c)) (A:ZV c):
  ∃u,(binOp op t (.int k (a ())) (.int k (b ()))).run P R.w= .ok u R.w/\VR R v u:=by
 cases op<;>simp only[Ztz]at hv<;>(try (cases hv;done))<;>simp only[aD,aK]at hv;case add=>obtain rfl:=(Prod.mk.inj hv).1;obtain rfl:=(Prod.mk.inj hv).2;exact⟨_,by simp[binOp,Op.intArith],ZcD k _ A⟩
 case sub=>obtain rfl:=(Prod.mk.inj hv).1;obtain rfl:=(Prod.mk.inj hv).2;exact⟨_,by simp[binOp,Op.intArith],ZcD k _ A⟩
 case mul=>obtain rfl:=(Prod.mk.inj hv).1;obtain rfl:=(Prod.mk.inj hv).2;exact⟨_,by simp[binOp,Op.intArith],ZcD k _ A⟩
 case quo=>
  obtain⟨rfl,rfl⟩:=hv;have G:b ()≠0:=(Cn.out (A _ (aU ..)));exact⟨_,by simp[binOp,Op.intDiv,G],ZcD k _ (λp H=>A p (aR _ H))⟩
 case rem=>
  obtain⟨rfl,rfl⟩:=hv;have G:b ()≠0:=(Cn.out (A _ (aN.2 rfl)));exact⟨_,by simp[binOp,Op.intDiv,G],.mkInt rfl⟩
 case and=>obtain⟨rfl,rfl⟩:=hv;exact⟨_,by simp[binOp,Op.intBits],.mkInt rfl⟩
 case or=>obtain⟨rfl,rfl⟩:=hv;exact⟨_,by simp[binOp,Op.intBits],.mkInt rfl⟩
 case xor=>obtain⟨rfl,rfl⟩:=hv;exact⟨_,by simp[binOp,Op.intBits],.mkInt rfl⟩
 case eql=>obtain⟨rfl,rfl⟩:=hv;exact⟨_,by simp[binOp,Op.intCmp],.mkBool rfl⟩
 case neq=>obtain⟨rfl,rfl⟩:=hv;exact⟨_,by simp[binOp,Op.intCmp],.mkBool rfl⟩
 case lss=>obtain⟨rfl,rfl⟩:=hv;exact⟨_,by simp[binOp,Op.intCmp],.mkBool rfl⟩
 case leq=>obtain⟨rfl,rfl⟩:=hv;exact⟨_,by simp[binOp,Op.intCmp],.mkBool rfl⟩
 case gtr=>obtain⟨rfl,rfl⟩:=hv;exact⟨_,by simp[binOp,Op.intCmp],.mkBool rfl⟩
 case geq=>obtain⟨rfl,rfl⟩:=hv;exact⟨_,by simp[binOp,Op.intCmp],.mkBool rfl⟩
theorem ZhT (op:BinOp) (t:TypeId) (k H:IntKind) (a b:Unit->Int) (v:AV) (c:Cd) (hv:ZiL op k a b=some (v,c)) (A:ZV c):
  ∃u,(binOp op t (.int k (a ())) (.int H (b ()))).run P R.w= .ok u R.w/\VR R v u:=by
 cases op<;>simp only[ZiL]at hv<;>(try (cases hv;done))<;>simp only[aD,aK]at hv<;>obtain⟨rfl,rfl⟩:=hv;all_goals
  have G:¬b ()<0:=by have:=(Cn.out (A _ (aN.2 rfl)));omega
  exact⟨_,by simp[binOp,Op.shift,G],.mkInt rfl⟩
theorem Zi7 (G:Bool):∀(l:List AV) (A:List Value) (k:IntKind) (x:Unit->Int) (v:AV) (c:Cd),ZgE k G l x=some (v,c)->l.length=A.length->
  (∀j a,l[j]? =some a->VR R a (A.getD j Go.undef))->∃u,(A.foldlM (if G then Builtin.max2 else Builtin.min2) (.int k (x ()))).run P R.w= .ok u R.w/\VR R v u
 |[],A,k,x,v,c,hv,hl,_=>by
  have:A=[]:=cP (by simpa using hl.symm);subst this;simp only[ZgE,aD,aK]at hv;obtain⟨rfl,rfl⟩:=hv;exact⟨_,rfl,.mkInt rfl⟩
 |a::l,A,k,x,v,c,hv,hl,hu=>by
  obtain⟨u,A,rfl⟩:∃u I,A=u::I:=by
   cases A with
   |nil=>simp at hl
   |cons u A=>exact⟨u,A,rfl⟩
  cases a with
  |int V y=>
   have H:=(hu 0 _ rfl).int_inv;simp only[fa]at H;subst H;simp only[ZgE]at hv;obtain⟨w,U,S⟩:=Zi7 G l A k _ v c hv (by simpa using hl) (λj a J=>by simpa using hu (j+1) a (by simpa using J));refine⟨w,?_,S⟩;rw[List.foldlM_cons];cases G<;>simpa [Builtin.max2,Builtin.min2]using U
  |_=>simp[ZgE]at hv
end
end Vm
namespace Vm
open Go
section
variable {P:Program} {R:RC} {G:Nat->Nat->Nat->Prop} {h:List Zi}
theorem Yh:∀(l z:List AV) (A:Nat),(putC z A l).length=z.length
 |[],z,A=>rfl
 |v::l,z,A=>by simp only[putC];rw[Yh l];simp
def Yf (R:RC) (cs:List AV) (us:Array Value):Prop:=cs.length=us.size/\∀j c,cs[j]? =some c->VR R c (us.getD j Go.undef)
theorem Yf.set {cs:List AV} {us:Array Value} (H:Yf R cs us) {a:AV} {v:Value} (hv:VR R a v) (d:Nat):Yf R (cs.set d a) (us.setIfInBounds d v):=by
 refine⟨by simp[H.1],λi x A=>?_⟩;rw[bQ]at A;rw[aI,bS];by_cases e:d=i
 ·subst e;simp only[if_true]at A|-;split at A
  ·rename_i G;rw[iQ (by rw[<-H.1];exact G)];simp only[aD]at A;subst A;exact hv
  cases A
 rw[iP e]at A|-;rw[<-aI];exact H.2 i x A
theorem Yf.put:∀(l:List AV) (A:List Value) (z:List AV) (I:Array Value) (G:Nat),Yf R z I->l.length=A.length->(∀j c,l[j]? =some c->VR R c (A.getD j Go.undef))->
  ∀i,Yf R (putC z (G+i) l) ((A.zipIdx i).foldl (λcs (p:Value×Nat)=>cs.setIfInBounds (G+p.2) p.1) I)
 |[],A,z,I,G,H,hl,_,i=>by
  have:A=[]:=cP (by simpa using hl.symm);subst this;exact H
 |a::l,A,z,I,G,H,hl,hv,i=>by
  cases A with
  |nil=>simp at hl
  |cons v A=>
   simp only[putC,List.zipIdx_cons,List.foldl_cons];exact Yf.put l A _ _ G (H.set (hv 0 a rfl) _) (by simpa using hl) (λj c J=>by simpa using hv (j+1) c (by simpa using J)) (i+1)
theorem VR.of_agg {a:AV} {us:Array Value} (hv:VR R a (.agg us)) (J:∀g x,a≠ .gd g x) (I:a≠ .undef):∃cs,a= .agg cs:=by
 cases hv with
 |pure _ _ A=>cases A
 |undef _=>exact absurd rfl I
 |gd _ _ _ _=>exact absurd rfl (J _ _)
 |ob g b _ H G=>
  cases hgg:g ()
  ·have:=G hgg;unfold Go.undef at this;cases this
  cases H hgg
 |agg cs _ _ _=>exact⟨cs,rfl⟩
 |own _ _ _ _ _ _ A _ _=>cases A
 |nn _ _ _ _ A _=>cases A
theorem Jp {a:AV} {u:Value} (hv:VR R a u) (J:∀g x,a≠ .gd g x) (I:a≠ .undef):Yf R a.cellsOf u.cells:=by
 by_cases ha:∃cs,a= .agg cs
 ·obtain⟨cs,rfl⟩:=ha;obtain⟨S,rfl,H,G⟩:=hv.agg_inv;exact⟨H,G⟩
 have H:a.cellsOf=[a]:=by
  cases a<;>first|rfl|(exact absurd ⟨_,rfl⟩ ha)
 have G:u.cells= #[u]:=by
  cases u<;>first|rfl|(exact absurd (VR.of_agg hv J I) ha)
 rw[H,G]
 exact⟨rfl,λj c A=>by
  cases j with
  |zero=>simp at A;subst A;exact hv
  |succ j=>simp at A⟩
theorem Zer (v:Value):VR R (Zbq v) v:=by
 unfold Zbq;split<;>first
  |exact .pure _ _ (.bool _)
  |exact .pure _ _ (.int _ _)
  |exact .pure _ _ (.str _)
  |exact .pure _ _ .nilptr
  |exact .pure _ _ (.isl0 _ _ _ _ rfl rfl)
  |exact .pure _ _ .nilmap
  |exact .pure _ _ .nilfn
  |exact .undef _
theorem Zgq (v:Value):VR R (XQ v) v:=by
 unfold XQ;split
 ·rename_i cs;refine .agg _ _ (by simp) (λj c A=>?_);rw[aP,aG]at A;obtain⟨u,G,rfl⟩:=A;rw[bN]at G;rw[aI,G];exact Zer u
 exact Zer v
theorem JA (v:Value):Yf R (XQ v).cellsOf v.cells:=by
 by_cases hv:∃cs,v= .agg cs
 ·obtain⟨cs,rfl⟩:=hv;obtain⟨S,I,H,G⟩:=(Zgq (R:=R) (.agg cs)).agg_inv (cs:=cs.toList.map Zbq);cases I;exact⟨H,G⟩
 have H:XQ v=Zbq v:=by
  cases v<;>first|rfl|(exact absurd ⟨_,rfl⟩ hv)
 have G:v.cells= #[v]:=by
  cases v<;>first|rfl|(exact absurd ⟨_,rfl⟩ hv)
 have J:(Zbq v).cellsOf=[Zbq v]:=by
  unfold Zbq;split<;>rfl
 rw[H,G,J]
 exact⟨rfl,λj c A=>by
  cases j with
  |zero=>simp at A;subst A;exact Zer v
  |succ j=>simp at A⟩
theorem Zin {fl:Array Field} {E:Operand->AV} {ρ:Operand->Value} {pl:Nat->Option (Nat×Nat)} (S:∀i o s g,(fl.toList.map (ZbC P))[i]? =some (some (o,s,g))->pl i=some (o,s)):
  ∀(ps:List (Nat×Operand)) (z cs:List AV) (I:Array Value),Zdr (fl.toList.map (ZbC P)) E z ps=some cs->Yf R z I->(∀p∈ps,VR R (E p.2) (ρ p.2)/\plain (E p.2)=true)->
   ∃G,Instr.fill pl I (ps.map λp=>(p.1,ρ p.2))=some G/\Yf R cs G
 |[],z,cs,I,hb,H,_=>by
  simp only[Zdr,aD]at hb;subst hb;exact⟨I,rfl,H⟩
 |(i,x)::ps,z,cs,I,hb,H,hx=>by
  simp only[Zdr]at hb;split at hb
  ·rename_i J sz g hf;split at hb
   ·rename_i V;simp only[aS]at V;have Y:=ZF V.1;have aa:=Xc V.2;obtain⟨hv,A⟩:=hx (i,x) (aU ..);have hr:=Jp hv (λg y e=>by rw[e]at A;cases A) (λe=>by rw[e]at A;cases A);have U:=Yf.put (E x).cellsOf (ρ x).cells.toList z I J H (by rw[hr.1];simp) (λj c hj=>by simpa using hr.2 j c hj) 0;obtain⟨G,h1,h2⟩:=Zin S ps _ cs _ hb U (λp Z=>hx p (aR _ Z));refine⟨G,?_,h2⟩;simp only[bX,Instr.fill,S i J sz g hf];rw[iP (by rw[<-hr.1,Y,<-H.1];simp;omega)];rw[<-Array.foldl_toList];simpa using h1
   cases hb
  cases hb
theorem Zc4 {α A:Type} (f:α->Sem A) (g:α->A) (w:World):∀(l:List α),(∀x∈l,(f x).run P w= .ok (g x) w)->(l.mapM f).run P w= .ok (l.map g) w
 |[],_=>by simp
 |a::l,hl=>by
  rw[List.mapM_cons];simp only[aQ,hl a (aU ..),aH,Zc4 f g w l (λx G=>hl x (aR _ G)),bC,bX]
theorem Zqf {α A:Type} (f:α->Sem A) (g:α->A) (w:World) (xs:Array α) (G:∀x∈xs,(f x).run P w= .ok (g x) w):(xs.mapM f).run P w= .ok (xs.map g) w:=by
 obtain⟨l⟩:=xs;rw[List.mapM_toArray];simp only[Sem.run_map,Zc4 f g w l (λx h=>G x (by simpa using h)),aH,List.map_toArray]
end
end Vm
namespace Vm
open Go
section
variable {P:Program} {R:RC} {G:Nat->Nat->Nat->Prop} {h:List Zi}
theorem ZnC {t:TypeId} {T:TI} (hT:ZI P t=some T) {S:List (Option (Nat×Nat×Bool))} (hk:T.k= .struct S) {z:Value} (hz:T.zero=some z) (H:S.all gV=true)
  {E:Operand->AV} {ρ:Operand->Value} {ps:List (Nat×Operand)} {cs:List AV} (hb:Zdr S E (XQ z).cellsOf ps=some cs) (hx:∀p∈ps,VR R (E p.2) (ρ p.2)/\plain (E p.2)=true):
  ∃u,(Instr.build t (ps.map λp=>(p.1,ρ p.2)).toArray).run P R.w= .ok u R.w/\VR R (.agg cs) u:=by
 obtain⟨i,d,hi,hd,_,_,aa,_⟩:=XJ hT;obtain⟨fl,hu,rfl⟩:=Zcx hT hk;have Y:∀f∈fl,∃j,P.info? f.type=some j:=λf A=>by
  rw[bM]at H;have:=H (ZbC P f) (bE.2 ⟨f,by simpa using A,rfl⟩);obtain⟨⟨o,s,g⟩,J⟩:=Option.isSome_iff_exists.1 this;obtain⟨j,_,G,_⟩:=Zcp J;exact⟨j,G⟩
 have hm:=Zqf (P:=P) (λf:Field=>(do pure (f.offset,<-sizeOf f.type):Sem (Nat×Nat))) (λf=>(f.offset,((P.info? f.type).map (·.size)).getD 0)) R.w fl (λf A=>by
  obtain⟨j,G⟩:=Y f A
  simp[Z6 G,G])
 obtain⟨V,h1,U⟩:=Zin (R:=R) (P:=P) (fl:=fl) (E:=E) (ρ:=ρ) (pl:=λi=>(fl.map (λf=>(f.offset,((P.info? f.type).map (·.size)).getD 0)))[i]?) (λi o s g A=>by
  rw[aP,aG]at A;obtain⟨f,I,Z⟩:=A;obtain⟨j,_,G,_,J,hs,_⟩:=Zcp Z;rw[bN]at I
  simp[I,G,J,hs]) ps _ cs _ hb (JA z) hx
 refine⟨.agg V,?_,.agg _ _ U.1 U.2⟩;simp only[Instr.build,aQ,zeroValue,Xx hi,aH,<-aa,hz,bC,Zy hu];rw[hm];simp only[aH];rw[h1];rfl
theorem Zj4 {t:Unit->Bool} {a b v:AV} {U:Cd} {V S:Value} (I:VR R a V) (J:VR R b S) (hv:ZmT t a b=some (v,U)) (G:ZV U):VR R v (if t ()then V else S):=by
 unfold ZmT at hv;split at hv
 ·simp only[aD,aK]at hv;obtain⟨rfl,rfl⟩:=hv;rw[I.bool_inv,J.bool_inv];cases A:t ()<;>simp only[if_true,if_false,aX]<;>exact .mkBool (by simp[A])
 ·simp only[aD,aK]at hv;obtain⟨rfl,rfl⟩:=hv;have H:=(Cn.out (G _ (aN.2 rfl)));cases A:t ()
  ·simp only[if_false,aX];rw[J.bool_inv];exact .mkBool (by simp[A])
  simp only[if_true];rw[(I.gd_inv (H A)).bool_inv];exact .mkBool (by simp[A])
 ·simp only[aD,aK]at hv;obtain⟨rfl,rfl⟩:=hv;have H:=(Cn.out (G _ (aN.2 rfl)));cases A:t ()
  ·simp only[if_false,aX];rw[(J.gd_inv (H A)).bool_inv];exact .mkBool (by simp[A])
  simp only[if_true];rw[I.bool_inv];exact .mkBool (by simp[A])
 ·simp only[aD,aK]at hv;obtain⟨rfl,rfl⟩:=hv;have H:=(Cn.out (G _ (aN.2 rfl)));cases A:t ()
  ·simp only[if_false,aX];rw[J.bool_inv];exact .mkBool (by simp[A])
  simp only[if_true];rw[I.ob_inv (H A)];exact .mkBool (by simp[A])
 ·simp only[aD,aK]at hv;obtain⟨rfl,rfl⟩:=hv;have H:=(Cn.out (G _ (aN.2 rfl)));cases A:t ()
  ·simp only[if_false,aX];rw[J.ob_inv (H A)];exact .mkBool (by simp[A])
  simp only[if_true];rw[I.bool_inv];exact .mkBool (by simp[A])
 ·simp only[aD,aK]at hv;obtain⟨rfl,rfl⟩:=hv;have A:t ()=true:=(Cn.out (G _ (aN.2 rfl)));rw[A,iQ rfl];exact I
 ·simp only[aD,aK]at hv;obtain⟨rfl,rfl⟩:=hv;have A:t ()=false:=(Cn.out (G _ (aN.2 rfl)));rw[A,iP Bool.false_ne_true];exact J
 cases hv
theorem Zqr {c a b v:AV} {J:Cd} {I Y G:Value} (V:VR R c I) (S:VR R a Y) (U:VR R b G) (hv:ZmU c a b=some (v,J)) (A:ZV J):
  ∃t:Bool,I= .bool t/\VR R v (if t then Y else G):=by
 unfold ZmU at hv;split at hv
 ·rename_i t;exact⟨t (),V.bool_inv,Zj4 S U hv A⟩
 ·rename_i g t;split at hv
  ·rename_i v' aa H;simp only[aD,aK]at hv;obtain⟨rfl,rfl⟩:=hv;have Z:g ()=true:=Cn.out (A _ (aU ..));exact⟨t (),V.ob_inv Z,Zj4 S U H λx hx=>A x (aR _ hx)⟩
  cases hv
 cases hv
theorem Zs4 (H:HR G R h) {s:Nat} {n:Unit->Int} {f:(Unit->Int)->List AV} {u:Value} (hp:PR R.w R.ok (.isl s n f .none) u) (l e:Nat) (al:l<=e) (ak:(e:Int)<=n ())
  (V lo:Unit->Int) (ae:V ()=(e:Int)-l) (ai:lo ()=(l:Int)) (tk:Tk) (U:tk= .none\/tk= .exact):
  (∃a:Option Addr,u= .slice a 0 0/\n ()=0/\l=0/\e=0/\PR R.w R.ok (.isl s V (λx=>f (λ_=>x ()+lo ())) tk) (.slice a 0 0))\/
   ∃b o len S,u= .slice (some ⟨b,o,none⟩) len S/\(len:Int)=n ()/\len<=S/\∀J A,(J=o+l*s\/(J=o/\e=l))->e-l<=A->(tk= .exact->A=e-l)->
    PR R.w R.ok (.isl s V (λx=>f (λ_=>x ()+lo ())) tk) (.slice (some ⟨b,J,none⟩) (e-l) A):=by
 cases hp with
 |isl0 _ _ _ _ hz _=>exact .inl ⟨none,rfl,hz,by omega,by omega,.isl0 _ _ _ _ (by omega) (by rcases U with rfl|rfl<;>rfl)⟩
 |islE _ _ _ _ a hz _=>exact .inl ⟨some a,rfl,hz,by omega,by omega,.islE _ _ _ _ a (by omega) U⟩
 |isl _ _ _ _ b o len S us hn Z ht he hl aa ab Y=>
  refine .inr ⟨b,o,len,S,rfl,hn.symm,Z,λJ A ho ac ah=>?_⟩;have aj:l*s+(e-l)*s<=len*s:=by rw[<-dI];exact aL s (by omega)
  have hf:∀i:Nat,f (λ_=>(λ_:Unit=>(i:Int)) ()+lo ())=f (λ_=>((l+i:Nat):Int)):=λi=>by
   congr 1;funext _;show(i:Int)+lo ()=_;rw[ai];omega
  refine .isl s V _ tk b J (e-l) A (λi j=>us (l+i) j) (by rw[ae];omega) ac U ah ?_ ?_ ?_ (by
   rcases ho with rfl|⟨rfl,rfl⟩
   ·exact H.sub Y (by omega) (by omega)
   exact H.sub Y (by omega) (by rw[Nat.sub_self,ep];omega))
  ·intro i hi;show(f (λ_=>(λ_:Unit=>(i:Int)) ()+lo ())).length=s;rw[hf];exact hl _ (by omega)
  ·intro i j c hi I;replace I:(f (λ_=>(λ_:Unit=>(i:Int)) ()+lo ()))[j]? =some c:=I;rw[hf]at I;have:=aa (l+i) j c (by omega) I;have ho:J=o+l*s:=ho.resolve_right (λ⟨_,e'⟩=>by omega);rwa [show J+i*s+j=o+(l+i)*s+j from by rw[dI];omega]
  intro i j c hi I;replace I:(f (λ_=>(λ_:Unit=>(i:Int)) ()+lo ()))[j]? =some c:=I;rw[hf]at I;exact ab (l+i) j c (by omega) I
theorem VR.isl_mk {s:Nat} {n:Unit->Int} {f:(Unit->Int)->List AV} {tk:Tk} {u:Value} (h:PR R.w R.ok (.isl s n f tk) u):VR R (.isl s n f tk) u:=.pure _ _ h
theorem J8 {t e:TypeId} {j:TypeInfo} (H:P.underlying t=some (.slice e)) (G:P.info? e=some j) (w:World) (a:Option Addr) (len cap:Nat) (lo hi A:Option Value) (l x m:Nat)
  (I:(dA true len cap lo hi A).run P w= .ok (l,x,m) w):
  (eQ t (.slice a len cap) lo hi A).run P w= .ok (.slice (if m=l then a else a.map (·.add (l*j.size))) (x-l) (m-l)) w:=by
 simp only[eQ,aQ,Zy H,aH,Instr.slice,I,Z6 G,bC]
theorem Zf4 {t:TypeId} {T:TI} (hT:ZI P t=some T) (H:HR G R h) {x v:AV} {lo hi mx:Option AV} {J U I:Option Value} {c:Cd} {u:Value} (hx:VR R x u)
  (h1:∀a,lo=some a->∃y,J=some y/\VR R a y) (al:lo=none->J=none) (h2:∀a,hi=some a->∃y,U=some y/\VR R a y) (aq:hi=none->U=none)
  (h3:∀a,mx=some a->∃y,I=some y/\VR R a y) (ae:mx=none->I=none) (hv:ZfI T x lo hi mx=some (v,c)) (hc:ZV c):
  ∃y,(eQ t u J U I).run P R.w= .ok y R.w/\VR R v y:=by
 unfold ZfI at hv;split at hv;case h_4=>cases hv
 case h_2=>
  rename_i el ah eb id s o n c hk;obtain⟨j,hu,hj,hs,_⟩:=Jx hT hk;split at hv
  ·cases hv
  rename_i aa;have aa:s=ah:=ZF (by simpa using aa);subst aa;cases hx with
  |pure _ _ hp=>cases hp
  |msl _ _ _ _ _ i len A au az hn bp bc=>
  split at hv
  ·rename_i kl l;obtain rfl:U=none:=aq rfl;obtain rfl:I=none:=ae rfl;obtain⟨y,rfl,hy⟩:=h1 _ rfl;obtain rfl:=hy.int_inv;simp only[aD,aK]at hv;obtain⟨rfl,rfl⟩:=hv;obtain⟨V,aj,be⟩:=(Cn.out (hc _ (aN.2 rfl)));obtain⟨Y,ac⟩:=bU V
   refine⟨_,J8 hu hj R.w _ len A _ _ _ Y len A (by
    simp[dA,run_sliceBound,ac,show(Y:Int)<=(len:Int)from by omega]),?_⟩
   have Z:(if A=Y then some (⟨(R.α id).b,(R.α id).o+i*s,none⟩:Addr)else(some (⟨(R.α id).b,(R.α id).o+i*s,none⟩:Addr)).map (·.add (Y*j.size)))=some ⟨(R.α id).b,(R.α id).o+(i+Y)*s,none⟩:=by
    by_cases e:A=Y
    ·have:Y=0:=by omega
     subst this;rw[iQ e,dS]
    rw[iP e,cI,QI,hs,dI,dG]
   rw[Z];exact .msl _ _ _ _ _ (i+Y) (len-Y) (A-Y) au (by show o ()+l ()=_;omega) (by show n ()-l ()=_;omega) (by show c ()-l ()=_;omega) (by omega)
  ·rename_i kh x;obtain rfl:J=none:=al rfl;obtain rfl:I=none:=ae rfl;obtain⟨y,rfl,hy⟩:=h2 _ rfl;obtain rfl:=hy.int_inv;simp only[aD,aK]at hv;obtain⟨rfl,rfl⟩:=hv;obtain⟨V,aj⟩:=(Cn.out (hc _ (aN.2 rfl)));obtain⟨S,ab⟩:=bU V
   refine⟨_,J8 hu hj R.w _ len A _ _ _ 0 S A (by
    simp[dA,run_sliceBound,ab,show(S:Int)<=(A:Int)from by omega]),?_⟩
   have Z:(if A=0 then some (⟨(R.α id).b,(R.α id).o+i*s,none⟩:Addr)else(some (⟨(R.α id).b,(R.α id).o+i*s,none⟩:Addr)).map (·.add (0*j.size)))=some ⟨(R.α id).b,(R.α id).o+i*s,none⟩:=by
    split
    ·rfl
    rw[cI,QI,ep,dS]
   rw[Z];exact .msl _ _ _ _ _ i (S-0) (A-0) au az (by omega) (by omega) (by omega)
  cases hv
 case h_3=>
  rename_i n ah id ak hk;obtain⟨e,j,hu,hj,hs⟩:=ZjL hT hk;split at hv;case h_2=>cases hv
  split at hv;case isFalse=>cases hv
  rename_i a9;simp only[aS]at a9;have bh:=ZF a9.2;simp only[aD,aK]at hv;obtain⟨rfl,rfl⟩:=hv;obtain rfl:J=none:=al rfl;obtain rfl:U=none:=aq rfl;obtain rfl:I=none:=ae rfl;cases hx with
  |pure _ _ hp=>cases hp
  |ptr _ _ au=>
  refine⟨.slice (some ⟨(R.α id).b,(R.α id).o+ak/ah*ah,none⟩) n n,?_,.msl _ _ _ _ _ (ak/ah) n n au rfl rfl rfl (aJ _)⟩;have Z:(if n=0 then(⟨(R.α id).b,(R.α id).o+ak,none⟩:Addr)else Addr.add ⟨(R.α id).b,(R.α id).o+ak,none⟩ (0*j.size))=⟨(R.α id).b,(R.α id).o+ak,none⟩:=by
   split
   ·rfl
   rw[QI,ep,dS]
  have Z:=Z;simp only[eQ,aQ,Zy hu,aH,cN,bC,dA,Z6 hj,Z,fG,bh]
 rename_i el ah eb s n f tk hk;obtain⟨j,hu,hj,hs,_⟩:=Jx hT hk;split at hv
 ·cases hv
 rename_i aa;have aa:s=ah:=ZF (by simpa using aa);subst aa;have hp:=hx.isl_inv;have ba:0<=n ():=by cases hp<;>omega
 have fin:∀(l e:Nat) (n' ar:Unit->Int) (ai:Tk),l<=e->(e:Int)<=n ()->n' ()=(e:Int)-l->ar ()=(l:Int)->(ai= .none\/ai= .exact)->
   (∀a len A,u= .slice a len A->(len:Int)=n ()->len<=A->∃m,e<=m/\(ai= .exact->m=e)/\(A=0->m=0)/\(dA true len A J U I).run P R.w= .ok (l,e,m) R.w)->
   ∃y,(eQ t u J U I).run P R.w= .ok y R.w/\VR R (.isl s n' (λx=>f (λ_=>x ()+ar ())) ai) y:=by
  intro l e n' ar ai bc bm bo az bk hb;rcases Zs4 H hp l e bc bm n' ar bo az ai bk with⟨a0,rfl,bq,rfl,rfl,h4⟩|⟨b,o,len,A,rfl,am,bg,h4⟩
  ·obtain⟨m,bl,_,ap,hb⟩:=hb a0 0 0 rfl (by omega) (by omega);have:=ap rfl;subst this;exact⟨_,J8 hu hj R.w a0 0 0 J U I 0 0 0 hb,.isl_mk (by simpa using h4)⟩
  obtain⟨m,bl,ap,_,hb⟩:=hb _ len A rfl am bg;refine⟨_,J8 hu hj R.w _ len A J U I l e m hb,?_⟩;by_cases hml:m=l
  ·rw[iQ hml];exact .isl_mk (h4 o (m-l) (.inr ⟨rfl,by omega⟩) (by omega) (λS=>by rw[ap S]))
  rw[iP hml];simp only[cI,QI,hs];exact .isl_mk (h4 _ (m-l) (.inl rfl) (by omega) (λS=>by rw[ap S]))
 have aw:(λx:Unit->Int=>f (λ_=>x ()+(λ_:Unit=>(0:Int)) ()))=f:=by
  funext x;congr 1;funext _;simp
 split at hv
 ·obtain rfl:J=none:=al rfl;obtain rfl:U=none:=aq rfl;obtain rfl:I=none:=ae rfl;simp only[aD,aK]at hv;obtain⟨rfl,rfl⟩:=hv;obtain⟨len,am⟩:=bU ba
  have:=fin 0 len n (λ_=>0) .none (by omega) (by omega) (by omega) rfl (by simp) (λa ln A _ hl ao=>⟨A,by omega,(λh=>by cases h),λe=>e,by
   have:ln=len:=by omega
   subst this
   simp[dA]⟩)
  rw[aw]at this;exact this
 ·rename_i kl l;obtain rfl:U=none:=aq rfl;obtain rfl:I=none:=ae rfl;obtain⟨y,rfl,hy⟩:=h1 _ rfl;obtain rfl:=hy.int_inv;simp only[aD,aK]at hv;obtain⟨rfl,rfl⟩:=hv;obtain⟨V,aj⟩:=(Cn.out (hc _ (aN.2 rfl)));obtain⟨Y,ac⟩:=bU V;obtain⟨len,am⟩:=bU ba
  exact fin Y len _ l .none (by omega) (by omega) (by omega) ac (by simp) (λa ln A _ hl ao=>⟨A,by omega,(λh=>by cases h),λe=>e,by
   have:ln=len:=by omega
   subst this
   simp[dA,run_sliceBound,ac,show(Y:Int)<=(ln:Int)from by omega]⟩)
 ·rename_i kh x;obtain rfl:J=none:=al rfl;obtain rfl:I=none:=ae rfl;obtain⟨y,rfl,hy⟩:=h2 _ rfl;obtain rfl:=hy.int_inv;simp only[aD,aK]at hv;obtain⟨rfl,rfl⟩:=hv;obtain⟨V,aj⟩:=(Cn.out (hc _ (aN.2 rfl)));obtain⟨S,ab⟩:=bU V
  have:=fin 0 S x (λ_=>0) .none (by omega) (by omega) (by omega) rfl (by simp) (λa ln A _ hl ao=>⟨A,by omega,(λh=>by cases h),λe=>e,by
   simp[dA,run_sliceBound,ab,show(S:Int)<=(A:Int)from by omega]⟩)
  rw[aw]at this;exact this
 ·rename_i kl l kh x;obtain rfl:I=none:=ae rfl;obtain⟨y,rfl,hy⟩:=h1 _ rfl;obtain⟨z,rfl,hz⟩:=h2 _ rfl;obtain rfl:=hy.int_inv;obtain rfl:=hz.int_inv;simp only[aD,aK]at hv;obtain⟨rfl,rfl⟩:=hv;obtain⟨V,aj,be⟩:=(Cn.out (hc _ (aN.2 rfl)));obtain⟨Y,ac⟩:=bU V;obtain⟨S,ab⟩:=bU (show 0<=x () by omega)
  exact fin Y S _ l .none (by omega) (by omega) (by omega) ac (by simp) (λa ln A _ hl ao=>⟨A,by omega,(λh=>by cases h),λe=>e,by
   simp[dA,run_sliceBound,ac,ab,show(S:Int)<=(A:Int)from by omega,show(Y:Int)<=(S:Int)from by omega]⟩)
 ·rename_i kh x km m;obtain rfl:J=none:=al rfl;obtain⟨y,rfl,hy⟩:=h2 _ rfl;obtain⟨z,rfl,hz⟩:=h3 _ rfl;obtain rfl:=hy.int_inv;obtain rfl:=hz.int_inv;simp only[aD,aK]at hv;obtain⟨rfl,rfl⟩:=hv;obtain⟨V,aj,be⟩:=(Cn.out (hc _ (aN.2 rfl)));obtain⟨S,ab⟩:=bU V
  have:=fin 0 S x (λ_=>0) .exact (by omega) (by omega) (by omega) rfl (by simp) (λa ln A _ hl ao=>⟨S,aJ _,λ_=>rfl,λe=>by omega,by
   simp[dA,run_sliceBound,ab,<-aj,show(S:Int)<=(A:Int)from by omega]⟩)
  rw[aw]at this;exact this
 cases hv
theorem ZoC {R:RC} {a:Option AV} {c:Cd} {u:Option Value} (h:zb a=some c) (I:ZV c) (G:∀x,a=some x->∃y,u=some y/\VR R x y) (H:a=none->u=none):u=none\/∃k,u=some (.int k 0):=by
 unfold zb at h;split at h
 ·exact .inl (H rfl)
 ·simp only[aD]at h;subst h;obtain⟨y,rfl,A⟩:=G _ rfl;obtain rfl:=A.int_inv;exact .inr ⟨_,by rw[Cn.out (I _ (aN.2 rfl))]⟩
 cases h
theorem Znw {t:TypeId} {T:TI} (hT:ZI P t=some T) (H:HR G R h) {x v:AV} {lo hi mx:Option AV} {S I A:Option Value} {c:Cd} {u:Value} (hx:VR R x u)
  (h1:∀a,lo=some a->∃y,S=some y/\VR R a y) (Y:lo=none->S=none) (Z:∀a,hi=some a->∃y,I=some y/\VR R a y) (U:hi=none->I=none)
  (h3:∀a,mx=some a->∃y,A=some y/\VR R a y) (J:mx=none->A=none) (hv:Zf5 T x lo hi mx=some (v,c)) (hc:ZV c):
  ∃y,(eQ t u S I A).run P R.w= .ok y R.w/\VR R v y:=by
 unfold Zf5 at hv;split at hv;case h_2=>exact Zf4 hT H hx h1 Y Z U h3 J hv hc
 rename_i el aj eb s n f hk;split at hv
 ·exact Zf4 hT H hx h1 Y Z U h3 J hv hc
 split at hv;case h_2=>cases hv
 rename_i a b c' ha hb ac;split at hv;case isFalse=>cases hv
 rename_i ae;simp only[aD,aK]at hv;obtain⟨rfl,rfl⟩:=hv;obtain⟨ai,V⟩:=Z7 hc;obtain⟨V,ah⟩:=Z7 V;obtain⟨j,hu,hj,hs,_⟩:=Jx hT hk;have aa:u= .slice none 0 0:=by
  cases hx with
  |pure _ _ hp=>
   cases hp with
   |isl0 _ _ _ _ hz _=>rfl
   |islE _ _ _ _ _ _ ht=>rcases ht with h|h<;>cases h
   |isl _ _ _ _ _ _ _ _ _ _ _ ht _ _ _ _ _=>rcases ht with h|h<;>cases h
 subst aa;refine⟨.slice none 0 0,?_,hx⟩;have ab:I=none->A=none:=λe=>by
  cases mx with
  |none=>exact J rfl
  |some m=>
   cases hi with
   |none=>simp at ae
   |some m=>obtain⟨y,e',_⟩:=Z _ rfl;rw[e]at e';cases e'
 have:=J8 hu hj R.w none 0 0 S I A 0 0 0 (by
  rcases ZoC ha ai h1 Y with rfl|⟨k1,rfl⟩<;>rcases ZoC hb V Z U with rfl|⟨k2,rfl⟩<;>rcases ZoC ac ah h3 J with rfl|⟨k3,rfl⟩<;>first|(simp[dA,run_sliceBound];done)|(have:=ab rfl;cases this))
 simpa using this
end
end Vm
namespace Vm
open Go
def Za9 (P:Program) (t:TypeId) (us:Array Value):Value:=match P.underlying t with
 |some d=>if ZbJ d then .agg us else us.getD 0 undef
 |none=>undef
section
variable {P:Program} {R:RC} {w:World}
theorem Yf.part {cs:List AV} {us:Array Value} (H:Yf R cs us) (off k:Nat) (I:off+k<=us.size):Yf R ((cs.drop off).take k) (us.extract off (off+k)):=by
 refine⟨by rw[List.length_take,List.length_drop,H.1];simp;omega,λj c A=>?_⟩;rw[cR]at A;split at A
 ·rename_i G;rw[cT]at A;have:=H.2 _ c A;rw[aI]at this|-;rw[fi,iQ (by omega)];exact this
 cases A
theorem Zcq:∀(k:Nat) {A G:List AV} {g:Unit->Bool},ZO A G=some g->∃I H,ZO (A.take k) (G.take k)=some I/\ZO (A.drop k) (G.drop k)=some H/\g ()=(I ()&&H ())
 |0,A,G,g,h=>⟨λ_=>true,g,by simp[ZO],by simpa using h,by simp⟩
 |k+1,[],[],g,h=>by
  simp only[ZO,aD]at h;subst h;exact⟨λ_=>true,λ_=>true,by simp[ZO],by simp[ZO],rfl⟩
 |k+1,[],_::_,g,h=>by simp[ZO]at h
 |k+1,x::A,[],g,h=>by cases x<;>simp[ZO]at h
 |k+1,x::A,y::G,g,h=>by
  cases x<;>cases y<;>simp only[ZO]at h<;>(try (cases h;done));rename_i kx nx ky Z;split at h;case isFalse=>cases h
  rename_i S;simp only[aG]at h;obtain⟨g',J,rfl⟩:=h;obtain⟨I,H,V,U,Y⟩:=Zcq k J;exact⟨_,H,by simp only[List.take_succ_cons,ZO,iQ S,V,cI];rfl,U,by simp[Y,Bool.and_assoc]⟩
theorem Zcn {m:Nat} {t:TypeId} {s:Nat} (h:Ya P m t s=true):∃d,P.underlying t=some d/\(ZbJ d=false->s=1):=by
 cases m with
 |zero=>simp[Ya]at h
 |succ m=>
  unfold Ya at h;split at h
  ·rename_i q A;exact⟨_,A,λ_=>ZF h⟩
  ·rename_i G A;exact⟨_,A,λh=>by simp[ZbJ]at h⟩
  ·rename_i n e A;exact⟨_,A,λh=>by simp[ZbJ]at h⟩
  cases h
theorem ZaC {m:Nat} {t:TypeId} {i:TypeInfo} (h:Ya P m t i.size=true) (hi:P.info? t=some i) (us:Array Value) (off:Nat) (J:off+i.size<=us.size):(part t us off).run P w= .ok (Za9 P t (us.extract off (off+i.size))) w:=by
 obtain⟨d,H,G⟩:=Zcn h;unfold part Za9;simp only[aQ,ZaS H,aH,H];cases hd:ZbJ d with
 |true=>simp[Z6 hi]
 |false=>
  have G:=G hd;have A:off<us.size:=by omega
  have e:us[off]? =some us[off]:=aY A;have I:(us.extract off (off+i.size)).getD 0 undef=us[off]:=by
   rw[aI,fi,iQ (by omega),dS,e];rfl
  simp[e,I]
theorem Zgc:∀(m:Nat) (t:TypeId) (s:Nat),Ya P m t s=true->∀(d:Nat) (J S:List AV) (H I:Array Value) (g:Unit->Bool),Yf R J H->Yf R S I->H.size=s->I.size=s->ZO J S=some g->
  (Op.equalIn (d+m) t (Za9 P t H) (Za9 P t I)).run P w= .ok (g ()) w
 |0,_,_,h=>by simp[Ya]at h
 |m+1,t,s,h=>by
  intro d J S H I g hx Y ap ar G;have IH:=Zgc m;have one:∀(t:TypeId) (i:TypeInfo) (A:Nat) (J S:List AV) (H I:Array Value) (g:Unit->Bool),Yf R J H->Yf R S I->H.size=I.size->P.info? t=some i->Ya P m t i.size=true->A+i.size<=H.size->ZO ((J.drop A).take i.size) ((S.drop A).take i.size)=some g->
    ∃a b,(part t H A).run P w= .ok a w/\(part t I A).run P w= .ok b w/\(Op.equalIn (d+m) t a b).run P w= .ok (g ()) w:=λt i A J S H I g hx Y au Z U hk G=>
   ⟨_,_,ZaC U Z H A hk,ZaC U Z I A (by omega),IH t i.size U d _ _ _ _ g (hx.part A i.size hk) (Y.part A i.size (by omega)) (by simp;omega) (by simp;omega) G⟩
  unfold Ya at h;split at h
  ·rename_i q V;have h:=ZF h;subst h;have ak:J.length=1:=by rw[hx.1,ap]
   have ao:S.length=1:=by rw[Y.1,ar]
   obtain⟨x,rfl⟩:=eH.1 ak;obtain⟨y,rfl⟩:=eH.1 ao;cases x<;>cases y<;>simp only[ZO]at G<;>(try (cases G;done));rename_i kx nx ky ny;split at G;case isFalse=>cases G
   rename_i am;obtain rfl:=Zew am;simp only[cI,aD]at G;subst G;have e1:=(hx.2 0 _ rfl).int_inv;have e2:=(Y.2 0 _ rfl).int_inv;simp only[Za9,V,ZbJ,aX,if_false,e1,e2];simp[Op.equalIn,Zy V]
  ·rename_i fs V;simp only[aS,cG]at h;have ah:P.fieldsOf t=fs:=by simp[Program.fieldsOf,V]
   simp only[Za9,V,ZbJ,if_true];rw[show d+(m+1)=(d+m)+1 from rfl,run_equalIn_struct w (d+m) t H I (by rw[ah];exact V) h.1,ah];have ac:∀(fl:List Field) (A s:Nat) (g:Unit->Bool),ZeF P (Ya P m) fl A s=true->A+s=H.size->ZO (J.drop A) (S.drop A)=some g->(Op.eqFields (d+m) H I fl).run P w= .ok (g ()) w:=by
    intro fl;induction fl with
    |nil=>
     intro A s g U ho G;have U:=ZF U;have e1:J.drop A=[]:=bB (by rw[hx.1];omega);have e2:S.drop A=[]:=bB (by rw[Y.1];omega);rw[e1,e2]at G;simp only[ZO,aD]at G;subst G;rfl
    |cons f fl ih=>
     intro A s g U ho G;simp only[ZeF,aS,bne_iff_ne,ne_eq]at U;obtain⟨⟨al,ab⟩,hr⟩:=U;have ab:=ZF ab;split at hr;case h_2=>cases hr
     rename_i i Z;simp only[aS]at hr;obtain⟨⟨ai,aq⟩,ae⟩:=hr;have ai:=Xc ai;obtain⟨g1,g2,h1,h2,h3⟩:=Zcq i.size G;obtain⟨a,b,p1,p2,p3⟩:=one f.type i A J S H I g1 hx Y (by omega) Z aq (by omega) h1;rw[gj,gj]at h2;have aa:=ih (A+i.size) (s-i.size) g2 ae (by omega) h2;rw[h3];simp only[Op.eqFields,iQ al,aQ,ab,p1,p2,p3,aH];cases g1 ()with
     |false=>simp
     |true=>
      simp only[d9,aX,if_false,fO];exact aa
   exact ac fs.toList 0 s g h.2 (by omega) (by simpa using G)
  ·rename_i n e V;split at h;case h_2=>cases h
   rename_i i Z;simp only[aS]at h;have hn:=ZF h.1;have hc:P.cellsOf e=i.size:=by simp[Program.cellsOf,Z]
   simp only[Za9,V,ZbJ,if_true];rw[show d+(m+1)=(d+m)+1 from rfl,run_equalIn_array w (d+m) H I V Z,hc,List.range_eq_range'];have ac:∀(k j:Nat) (g:Unit->Bool),(j+k)*i.size=H.size->ZO (J.drop (j*i.size)) (S.drop (j*i.size))=some g->(Op.eqItems (d+m) e i.size H I (eG j k)).run P w= .ok (g ()) w:=by
    intro k;induction k with
    |zero=>
     intro j g ho G;rw[dS]at ho;have e1:J.drop (j*i.size)=[]:=bB (by rw[hx.1];omega);have e2:S.drop (j*i.size)=[]:=bB (by rw[Y.1];omega);rw[e1,e2]at G;simp only[ZO,aD]at G;subst G;rfl
    |succ k ih=>
     intro j g ho G;obtain⟨g1,g2,h1,h2,h3⟩:=Zcq i.size G;have aj:j*i.size+i.size<=H.size:=by
      have:(j+1)*i.size<=(j+(k+1))*i.size:=aL _ (by omega);rw[bI]at this;omega
     obtain⟨a,b,p1,p2,p3⟩:=one e i (j*i.size) J S H I g1 hx Y (by omega) Z h.2 aj h1;rw[gj,gj,<-bI]at h2;have aa:=ih (j+1) g2 (by rw[<-ho];congr 1;omega) h2;rw[h3,List.range'_succ];simp only[Op.eqItems,aQ,p1,p2,p3,aH];cases g1 ()with
     |false=>simp
     |true=>
      simp only[d9,aX,if_false,fO];exact aa
   exact ac n 0 g (by rw[dB];omega) (by simpa using G)
  cases h
end
end Vm
namespace Vm
open Go
section
variable {P:Program} {R:RC} {G:Nat->Nat->Nat->Prop} {h:List Zi}
theorem ZkU {E:Operand->AV} {ρ:Operand->Value} {xs:Array Operand} (H:∀x∈xs,VR R (E x) (ρ x)):
  ∀j a,(xs.toList.map E)[j]? =some a->VR R a ((xs.toList.map ρ).getD j Go.undef):=λj a G=>by
 rw[aP,aG]at G;obtain⟨x,A,rfl⟩:=G;rw[aA,aP,A,cI,bY];exact H x (by rw[<-cL];exact aZ A)
theorem ZeS {E:Operand->AV} {ρ:Operand->Value} {xs:Array Operand} (G:∀x∈xs,VR R (E x) (ρ x)):
  (xs.toList.map E).length=(xs.map ρ).size/\∀j a,(xs.toList.map E)[j]? =some a->VR R a ((xs.map ρ).getD j Go.undef):=by
 refine⟨by simp,λj a A=>?_⟩;have:=ZkU G j a A;rw[aI];rwa [aA,aP,bN,<-Array.getElem?_map]at this
theorem YL:∀(n:Nat) (A:List Int),(QF n A).length=n
 |0,_=>rfl
 |n+1,A=>by simp[QF,YL n]
theorem Zg8 (R:RC):∀(n:Nat) (d:Unit->List Int),(Je n d).length=(QF n (d ())).length/\∀(j:Nat) c,(Je n d)[j]? =some c->VR R c ((QF n (d ())).getD j Go.undef)
 |0,d=>⟨rfl,λj c h=>by simp[Je]at h⟩
 |n+1,d=>by
  obtain⟨H,G⟩:=Zg8 R n λ_=>(d ()).tail;refine⟨by simp[Je,QF,H],λj c A=>?_⟩;cases j with
  |zero=>
   simp only[Je,bJ,aD]at A;subst A;exact .pure _ _ (.int _ _)
  |succ j=>exact G j c A
theorem Zcs (R:RC) (n:Nat) (d:Unit->List Int):Yf R (Je n d) (QF n (d ())).toArray:=by
 obtain⟨A,G⟩:=Zg8 R n d;exact⟨by simpa using A,λj c H=>by simpa using G j c H⟩
theorem ZaN (R:RC) (n:Nat) (d:Unit->List Int):VR R (Ze3 n d) (Xu n (d ())):=by
 cases n with
 |zero=>exact .pure _ _ (.int _ _)
 |succ n=>
  obtain⟨A,G⟩:=Zcs R (n+1) d;exact .agg _ _ A G
theorem Zg1:∀(n:Nat) (x y:List Int),x.length=n->y.length=n->∃g,ZO (Je n λ_=>x) (Je n λ_=>y)=some g/\g ()=decide (x=y)
 |0,x,y,hx,hy=>by
  rw[gK]at hx hy;subst hx hy;exact⟨_,rfl,rfl⟩
 |n+1,[],y,hx,hy=>by cases hx
 |n+1,a::x,[],hx,hy=>by cases hy
 |n+1,a::x,b::y,hx,hy=>by
  obtain⟨g,A,G⟩:=Zg1 n x y (by simpa using hx) (by simpa using hy);refine⟨λ_=>a==b&&g (),?_,?_⟩
  ·simp only[Je,ZO,Jl,if_true,List.tail_cons,List.headD_cons];rw[A];rfl
  rw[G];by_cases hab:a=b
  ·subst hab;simp
  simp[hab]
theorem Zey:∀ {cs:List AV} {g:Unit->List Int},Zez cs=some g->(g ()).length=cs.length/\∀A:List Value,cs.length=A.length->(∀(j:Nat) c,cs[j]? =some c->VR R c (A.getD j Go.undef))->A=QF cs.length (g ())
 |[],g,h=>by
  simp only[Zez,aD]at h;subst h;refine⟨rfl,λA G _=>?_⟩;rw[List.length_nil]at G;rw[gK.1 G.symm];rfl
 |a::r,g,h=>by
  unfold Zez at h;split at h
  ·rename_i H;cases H
  ·rename_i Z Y H;cases H;split at h
   ·rename_i g' V;cases h;obtain⟨J,U⟩:=Zey V;refine⟨by simp[J],λA G hr=>?_⟩;match A,G with
    |u::A,G=>
     have I:=(hr 0 _ rfl).int_inv;simp only[fa]at I;rw[I,U A (by simpa using G) λj c S=>by simpa using hr (j+1) c (by simpa using S)];simp[QF,J]
   cases h
  cases h
theorem ZdS {U:TypeId} {H:Nat} {k:AV} {g:Unit->List Int} {u:Value} (A:ZhA (tyP P) U H k=some g) (S:VR R k u):u=Xu H (g ())/\(g ()).length=Zkl H/\keyT P U H=true:=by
 unfold ZhA at A;split at A
 ·rename_i a;split at A
  ·rename_i G;simp only[aS]at G;have e:=ZF G.1;subst e;cases A;exact⟨by rw[S.int_inv];rfl,rfl,G.2⟩
  cases A
 ·rename_i cs;split at A
  ·rename_i G;simp only[aS]at G;obtain⟨⟨e,I⟩,J⟩:=G;have e:=ZF e;have I:=ZaD I;obtain⟨V,rfl,hl,hr⟩:=S.agg_inv;obtain⟨Y,h2⟩:=Zey (R:=R) A;have Z:=h2 V.toList (by simpa using hl) λj c hj=>by simpa using hr j c hj
   subst e;obtain⟨m,hm⟩:∃m,cs.length=m+1:=⟨cs.length-1,by omega⟩;rw[hm]at Y Z J|-;refine⟨?_,Y,J⟩;show Value.agg V= .agg (QF (m+1) (g ())).toArray;rw[<-Z]
  cases A
 cases A
theorem ZnB {H:TypeId} {n:Nat} (h:keyT P H (n+1)=true) {x y:List Int} (V:x.length=n+1) (U:y.length=n+1) (R:RC) (w:World):(Op.equal H (Xu (n+1) x) (Xu (n+1) y)).run P w= .ok (decide (x=y)) w:=by
 simp only[keyT,aS]at h;obtain⟨A,G⟩:=h;obtain⟨d,I,_⟩:=Zcn A;rw[I]at G;obtain⟨g,S,J⟩:=Zg1 (n+1) x y V U;have:=Zgc (w:=w) 5 H (n+1) A 9995 _ _ _ _ g (Zcs R (n+1) λ_=>x) (Zcs R (n+1) λ_=>y) (by simp[YL]) (by simp[YL]) S;rw[J]at this;simp only[Za9,I,G,if_true]at this;exact this
theorem Zap (Z:Bool) {w:World}:∀(m:Nat) (t:TypeId) (s:Nat),Ya P m t s=true->∀(d:Nat) (H:Array Value),H.size=s->(cY Z (d+m) t (Za9 P t H)).run P w= .ok () w
 |0,_,_,h=>by simp[Ya]at h
 |m+1,t,s,h=>by
  intro d H ae;have IH:=Zap Z (w:=w) m;have one:∀(t:TypeId) (i:TypeInfo) (G:Nat),P.info? t=some i->Ya P m t i.size=true->G+i.size<=H.size->∃a,(part t H G).run P w= .ok a w/\(cY Z (d+m) t a).run P w= .ok () w:=λt i G V J hk=>
   ⟨_,ZaC J V H G hk,IH t i.size J d _ (by simp;omega)⟩
  unfold Ya at h;split at h
  ·rename_i q S;rw[show d+(m+1)=(d+m)+1 from rfl,cY];simp only[aQ,Zy S,aH,bC]
  ·rename_i fs S;simp only[aS,cG]at h;simp only[Za9,S,ZbJ,if_true];rw[show d+(m+1)=(d+m)+1 from rfl,cY];simp only[aQ,Zy S,aH];rw[<-Array.forIn_toList];have A:∀(fl:List Field) (G s:Nat),ZeF P (Ya P m) fl G s=true->G+s=H.size->∀f∈fl,f.name≠ "_" /\∃a,(part f.type H f.offset).run P w= .ok a w/\(cY Z (d+m) f.type a).run P w= .ok () w:=by
    intro fl;induction fl with
    |nil=>intro G s _ _ f J;cases J
    |cons f fl ih=>
     intro G s J ho g I;simp only[ZeF,aS,bne_iff_ne,ne_eq]at J;obtain⟨⟨Y,U⟩,hr⟩:=J;have U:=ZF U;split at hr;case h_2=>cases hr
     rename_i i V;simp only[aS]at hr;obtain⟨⟨ab,ac⟩,aa⟩:=hr;have ab:=Xc ab;rcases bG.1 I with rfl|I
     ·rw[U];exact⟨Y,one g.type i G V ac (by omega)⟩
     exact ih (G+i.size) (s-i.size) aa (by omega) g I
   have A:=A fs.toList 0 s h.2 (by omega);generalize fs.toList=fl at A;induction fl with
   |nil=>simp
   |cons f fl ih=>
    obtain⟨Y,a,p1,p2⟩:=A f (aU ..);simp only[gM,aQ,ne_eq,Y,not_false_eq_true,if_true,p1,p2,aH,bC];exact ih λg I=>A g (aR _ I)
  ·rename_i n e S;split at h;case h_2=>cases h
   rename_i i V;simp only[aS]at h;have hn:=ZF h.1;simp only[Za9,S,ZbJ,if_true];rw[show d+(m+1)=(d+m)+1 from rfl,cY];simp only[aQ,Zy S,aH];simp only[Std.Legacy.Range.forIn_eq_forIn_range',Std.Legacy.Range.size,fG,Nat.add_one_sub_one,Nat.div_one];have A:∀j∈eG 0 n,∃a,(part e H (j*i.size)).run P w= .ok a w/\(cY Z (d+m) e a).run P w= .ok () w:=λj hj=>by
    have hj:j<n:=by simpa using hj
    have:(j+1)*i.size<=n*i.size:=aL _ (by omega);rw[bI]at this;exact one e i (j*i.size) V h.2 (by omega)
   generalize eG 0 n=js at A;induction js with
   |nil=>simp
   |cons j js ih=>
    obtain⟨a,p1,p2⟩:=A j (aU ..);simp only[gM,aQ,Z6 V,p1,p2,aH,bC];exact ih λg I=>A g (aR _ I)
  cases h
theorem Zc5 (J:Bool) {G:TypeId} {A:Nat} (h:keyT P G A=true) {x:List Int} (Y:x.length=Zkl A) (w:World):(cY J 10000 G (Xu A x)).run P w= .ok () w:=by
 cases A with
 |zero=>
  unfold keyT at h;simp only at h;split at h
  ·rename_i V;have U:∀d,(cY J (d+1) G (.int .i64 (x.headD 0))).run P w= .ok () w:=λd=>by
    simp only[cY,aQ,Zy V,aH,bC]
   exact U 9999
  cases h
 |succ n=>
  simp only[keyT,aS]at h;obtain⟨H,I⟩:=h;obtain⟨d,S,_⟩:=Zcn H;rw[S]at I;have:=Zap J (w:=w) 5 G (n+1) H 9995 (QF (n+1) x).toArray (by simp[YL]);simp only[Za9,S,I,if_true]at this;exact this
theorem ZdG {α:Type} {V:α->Value->Prop} {S:TypeId} {Y:Nat} (h:keyT P S Y=true) {x:List Int} (hx:x.length=Zkl Y) (R:RC) (w:World) {l:List (MapEntry×(List Int×α))} {es:Array MapEntry} {clk:Nat} {L:List (List Int×α)} (hm:ZrC Y V l es clk L):
  ((dP S (Xu Y x) es.toList).run P w= .ok none w/\∀p∈l,p.2.1≠x)\/∃(i:Nat) (p:MapEntry×(List Int×α)),l[i]? =some p/\p.2.1=x/\(dP S (Xu Y x) es.toList).run P w= .ok (some (i,p.1.val)) w:=by
 rw[<-hm.es];have A:=hm.e;clear hm;cases Y with
 |zero=>
  unfold keyT at h;simp only at h;split at h;case h_2=>cases h
  rename_i hu;have Z:∀(l:List (MapEntry×(List Int×α))) (i:Nat),(∀p∈l,p.1.key=Xu 0 p.2.1/\V p.2.2 p.1.val/\p.2.1.length=Zkl 0/\p.1.born<clk)->
    (dQ (.int .i64) (Xu 0 x) (l.map (·.1)) i=some none/\∀p∈l,p.2.1≠x)\/∃(k:Nat) (p:MapEntry×(List Int×α)),l[k]? =some p/\p.2.1=x/\dQ (.int .i64) (Xu 0 x) (l.map (·.1)) i=some (some (i+k,p.1.val)):=by
   intro l;induction l with
   |nil=>exact λi _=>.inl ⟨rfl,λp hp=>by cases hp⟩
   |cons p l ih=>
    intro i A;obtain⟨k1,_,k2,_⟩:=A p (aU ..);obtain⟨a,rfl⟩:=eH.1 hx;obtain⟨b,hb⟩:=eH.1 k2;have hs:Instr.sameNow (.int .i64) (Xu 0 [a]) p.1.key=some (a==b):=by rw[k1,hb];simp[Instr.sameNow,Xu]
    by_cases hab:a=b
    ·subst hab;refine .inr ⟨0,p,rfl,hb,?_⟩;simp[dQ,hs]
    have ae:Instr.sameNow (.int .i64) (Xu 0 [a]) p.1.key=some false:=by rw[hs];simp[hab]
    have U:dQ (.int .i64) (Xu 0 [a]) ((p::l).map (·.1)) i=dQ (.int .i64) (Xu 0 [a]) (l.map (·.1)) (i+1):=by
     simp[dQ,ae]
    rcases ih (i+1) λq I=>A q (aR _ I)with⟨H,G⟩|⟨k,q,H,G,J⟩
    ·refine .inl ⟨by rw[U,H],λq I=>?_⟩;rcases bG.1 I with rfl|I
     ·rw[hb];simp only[ne_eq,cB,and_true];exact λe=>hab e.symm
     exact G q I
    exact .inr ⟨k+1,q,by simpa using H,G,by rw[U,J];congr 3;omega⟩
  rcases Z l 0 A with⟨H,G⟩|⟨k,p,H,G,J⟩
  ·exact .inl ⟨by simp only[dP,aQ,Zy hu,aH,H,bC],G⟩
  exact .inr ⟨k,p,H,G,by simp only[dP,aQ,Zy hu,aH,J,bC,dB]⟩
 |succ n=>
  have ah:=h;simp only[keyT,aS]at h;obtain⟨ai,ab⟩:=h;obtain⟨d,hd,_⟩:=Zcn ai;rw[hd]at ab;have Z:∀(l:List (MapEntry×(List Int×α))) (i:Nat),(∀p∈l,p.1.key=Xu (n+1) p.2.1/\V p.2.2 p.1.val/\p.2.1.length=Zkl (n+1)/\p.1.born<clk)->
    ((eC S (Xu (n+1) x) (l.map (·.1)) i).run P w= .ok none w/\∀p∈l,p.2.1≠x)\/∃(k:Nat) (p:MapEntry×(List Int×α)),l[k]? =some p/\p.2.1=x/\(eC S (Xu (n+1) x) (l.map (·.1)) i).run P w= .ok (some (i+k,p.1.val)) w:=by
   intro l;induction l with
   |nil=>exact λi _=>.inl ⟨rfl,λp hp=>by cases hp⟩
   |cons p l ih=>
    intro i A;obtain⟨k1,_,k2,_⟩:=A p (aU ..);have he:=ZnB ah hx k2 R w;rw[<-k1]at he;by_cases hab:x=p.2.1
    ·refine .inr ⟨0,p,rfl,hab.symm,?_⟩;simp only[eC,bX,aQ,he,aH,iR];rw[iQ hab];rfl
    rcases ih (i+1) λq I=>A q (aR _ I)with⟨H,G⟩|⟨k,q,H,G,J⟩
    ·refine .inl ⟨by simp only[eC,bX,aQ,he,aH,iR,hab,if_false];exact H,λq I=>?_⟩;rcases bG.1 I with rfl|I
     ·exact λe=>hab e.symm
     exact G q I
    exact .inr ⟨k+1,q,by simpa using H,G,by
     simp only[eC,bX,aQ,he,aH,iR,hab,if_false];rw[show i+(k+1)=i+1+k by omega]
     exact J⟩
  have ac:∀l:List MapEntry,l≠ []->dQ d (Xu (n+1) x) l 0=none:=λl hl=>by
   cases l with
   |nil=>exact absurd rfl hl
   |cons e l=>cases d<;>first|(simp[ZbJ]at ab;done)|rfl
  cases l with
  |nil=>exact .inl ⟨by simp only[dP,aQ,Zy hd,aH,List.map_nil,dQ,bC],λp hp=>by cases hp⟩
  |cons p0 l=>
   have hn:=ac ((p0::l).map (·.1)) (by simp);have aa:∀r,(eC S (Xu (n+1) x) ((p0::l).map (·.1))).run P w= .ok r w->(dP S (Xu (n+1) x) ((p0::l).map (·.1))).run P w= .ok r w:=λr hr=>by
    simp only[dP,aQ,Zy hd,aH,hn];exact hr
   rcases Z (p0::l) 0 A with⟨H,G⟩|⟨k,p,H,G,J⟩
   ·exact .inl ⟨aa _ H,G⟩
   exact .inr ⟨k,p,H,G,by rw[dB]at J;exact aa _ J⟩
theorem ZcH {α:Type} {L:List (List Int×α)} (A:(L.map (·.1)).Nodup) {k:List Int} {d:α} (h:(k,d)∈L):L.lookup k=some d:=by
 induction L with
 |nil=>cases h
 |cons p L G=>
  obtain⟨a,b⟩:=p;rw[bX,ee]at A;rcases bG.1 h with h|h
  ·cases h;simp[eV]
  have:a≠k:=λe=>A.1 (bE.2 ⟨(k,d),h,e.symm⟩);rw[eV,show(k==a)=false from by simpa using λe=>this e.symm];exact G A.2 h
theorem Zkf {α:Type} {L:List (List Int×α)} {k:List Int} (h:∀p∈L,p.1≠k):L.lookup k=none:=by
 induction L with
 |nil=>rfl
 |cons p L A=>
  obtain⟨a,b⟩:=p;have:a≠k:=h (a,b) (aU ..);rw[eV,show(k==a)=false from by simpa using λe=>this e.symm];exact A λq G=>h q (aR _ G)
theorem ZrC.keys {α:Type} {A:Nat} {V:α->Value->Prop} {l:List (MapEntry×(List Int×α))} {es:Array MapEntry} {clk:Nat} {L:List (List Int×α)} (hm:ZrC A V l es clk L):(L.map (·.1)).Nodup:=by
 have:=hm.L.map (·.1);rw[List.map_map]at this;exact this.nodup_iff.1 hm.nd
theorem Ze8 {α:Type} {V:α->Value->Prop} {t kt et:TypeId} {G:Nat} (J:P.underlying t=some (.map kt et)) (U:keyT P kt G=true) {x:List Int} (hx:x.length=Zkl G) (R:RC) {w:World} {es:Array MapEntry} {clk:Nat} {L:List (List Int×α)} {m:Value} (ab:(m= .map none/\es= #[])\/∃b,m= .map (some b)/\w.heap[b]? =some (.map es clk))
  (hm:ZeV G V es clk L) {z:Value} {E:TI} (ae:ZI P et=some E) (hz:E.zero=some z) (ok:Bool):
  ∃v,(Instr.lookup t m (Xu G x) ok).run P w= .ok (if ok then .tuple #[v,.bool (L.lookup x).isSome]else v) w/\((L.lookup x=none/\v=z)\/∃d,L.lookup x=some d/\V d v):=by
 obtain⟨l,hm⟩:=hm;obtain⟨ie,de,ah,_,_,_,aa,_⟩:=XJ ae;have A:=λem=>Zc5 (P:=P) em U hx w;have Y:(zeroValue et).run P w= .ok z w:=by simp[zeroValue,Xx ah,<-aa,hz]
 have hf:=ZdG U hx R w hm
 have main:∀r,(dP kt (Xu G x) es.toList).run P w= .ok r w->(Instr.lookup t m (Xu G x) ok).run P w= .ok (match r with
   |some (_,v)=>if ok then .tuple #[v,.bool true]else v
   |none=>if ok then .tuple #[z,.bool false]else z) w:=λr hr=>by
  have Z:∀b,w.heap[b]? =some (.map es clk)->(getObj b).run P w= .ok (.map es clk) w:=λb H=>by simp[getObj,Sem.run,H]
  unfold Instr.lookup;rcases ab with⟨rfl,rfl⟩|⟨b,rfl,H⟩
  ·cases r with
   |none=>simp only[aQ,Zy J,aH,bC,A,hr,Y]
   |some p=>simp only[aQ,Zy J,aH,bC,A,hr]
  cases r with
  |none=>simp only[aQ,Zy J,aH,bC,Z b H,A,hr,Y]
  |some p=>simp only[aQ,Zy J,aH,bC,Z b H,A,hr]
 rcases hf with⟨h1,h2⟩|⟨i,p,h1,h2,h3⟩
 ·have S:L.lookup x=none:=Zkf λp I e=>by
   have:p∈l.map (·.2):=hm.L.mem_iff.2 I;obtain⟨q,hq,rfl⟩:=bE.1 this;exact h2 q hq e
  exact⟨z,by rw[S];exact main none h1,.inl ⟨S,rfl⟩⟩
 have I:=aZ h1;have ac:(x,p.2.2)∈L:=hm.L.mem_iff.1 (bE.2 ⟨p,I,by rw[<-h2]⟩);have hl:=ZcH hm.keys ac;exact⟨p.1.val,by rw[hl];exact main _ h3,.inr ⟨p.2.2,hl,(hm.e p I).2.1⟩⟩
theorem ZjX {ok:Bool} {v:AV} {b:Unit->Bool} {u:Value} (h:VR R v u):VR R (Zqk ok v b) (if ok then .tuple #[u,.bool (b ())]else u):=by
 cases ok with
 |false=>exact h
 |true=>
  refine .tup _ _ rfl λj c A=>?_;match j,A with
  |0,A=>simp at A;subst A;exact h
  |1,A=>simp at A;subst A;exact .pure _ _ (.bool b)
theorem ZrO {z:Value} {n:Nat} (h:zN (some z)=some n):z=Xu n []:=by
 unfold zN at h;split at h
 ·rename_i U G;cases G;split at h
  ·rename_i V;cases h;rw[show U=0 from by simpa using V];rfl
  cases h
 ·rename_i cs G;cases G;split at h
  ·rename_i H;simp only[aS]at H;cases h;have Y:=ZaD H.2;obtain⟨m,hm⟩:∃m,cs.size=m+1:=⟨cs.size-1,by omega⟩;rw[hm];show Value.agg cs= .agg (QF (m+1) []).toArray;have I:∀(l:List Value),l.all isZ=true->l=QF l.length []:=by
    intro l;induction l with
    |nil=>intro _;rfl
    |cons a l J=>
     intro A;simp only[List.all_cons,aS]at A;have S:a= .int .i64 0:=by
      have:=A.1;unfold isZ at this;split at this
      ·rename_i q;rw[show q=0 from by simpa using this]
      cases this
     rw[List.length_cons];show a::l= .int .i64 0::QF l.length [];rw[S,<-J A.2]
   have:=I cs.toList H.1;rw[Array.length_toList,hm]at this;rw[<-this]
  cases h
 cases h
theorem ZgG {t Z G:TypeId} {U n:Nat} {L:Unit->List (List Int×List Int)} {k v:AV} {c:Cd} {ok:Bool} {m u:Value} (hu:P.underlying t=some (.map Z G)) (hv:ZdQ (tyP P) Z G U n L k ok=some (v,c)) (hk:VR R k u) {es:Array MapEntry} {clk:Nat}
  (V:(m= .map none/\es= #[])\/∃b,m= .map (some b)/\R.w.heap[b]? =some (.map es clk)) (hm:ZeV U (λxs v=>v=Xu n xs) es clk (L ())):∃y,(Instr.lookup t m u ok).run P R.w= .ok y R.w/\VR R v y:=by
 unfold ZdQ at hv;split at hv;case h_2=>cases hv
 rename_i g hg;split at hv;case isFalse=>cases hv
 rename_i H;cases hv;obtain⟨rfl,h1,h2⟩:=ZdS hg hk;unfold zIs at H;split at H;case h_2=>cases H
 rename_i q A;have e:=ZF H;subst e;have A:zN ((ZI P G).bind (·.zero))=some q:=A;obtain⟨z,I⟩:∃z,(ZI P G).bind (·.zero)=some z:=by
  cases hh:(ZI P G).bind (·.zero)with
  |none=>rw[hh]at A;cases A
  |some z=>exact⟨z,rfl⟩
 rw[I]at A;obtain⟨T,hT,Y⟩:=ej.1 I;obtain⟨y,k1,k2⟩:=Ze8 hu h2 h1 R V hm hT Y ok;refine⟨_,k1,ZjX ?_⟩;rcases k2 with⟨S,J⟩|⟨d,S,J⟩
 ·rw[J,ZrO A];have:=ZaN R q λ_=>((L ()).lookup (g ())).getD [];simp only[S,Option.getD_none]at this|-;exact this
 rw[J];have:=ZaN R q λ_=>((L ()).lookup (g ())).getD [];simp only[S,bY]at this|-;exact this
theorem ZeV.nil {α:Type} {G:Nat} {V:α->Value->Prop}:ZeV G V #[] 0 ([]:List (List Int×α)):=⟨[],rfl,.refl _,.nil,.nil,λp A=>by cases A⟩
theorem Zco (x:Int):∀(es:List MapEntry) (i:Nat),(∀e∈es,∃y b,e.key= .int .i64 y/\e.val= .bool b)->
  (dQ (.int .i64) (.int .i64 x) es i=some none/\(∀e∈es,e.key≠ .int .i64 x))\/
   ∃(k:Nat) (e:MapEntry),es[k]? =some e/\e.key= .int .i64 x/\(∀j A,j<k->es[j]? =some A->A.key≠ .int .i64 x)/\dQ (.int .i64) (.int .i64 x) es i=some (some (i+k,e.val))
 |[],i,_=>.inl ⟨rfl,λe he=>by cases he⟩
 |e::es,i,hall=>by
  obtain⟨y,b,S,hv⟩:=hall e (aU ..);have hs:Instr.sameNow (.int .i64) (.int .i64 x) e.key=some (x==y):=by rw[S];simp[Instr.sameNow]
  by_cases hxy:x=y
  ·subst hxy;refine .inr ⟨0,e,rfl,S,λj A hj=>by omega,?_⟩;simp[dQ,hs]
  have J:e.key≠ .int .i64 x:=by
   rw[S];intro V;injection V with _ V;exact hxy V.symm
  have Z:Instr.sameNow (.int .i64) (.int .i64 x) e.key=some false:=by rw[hs];simp[hxy]
  have H:dQ (.int .i64) (.int .i64 x) (e::es) i=dQ (.int .i64) (.int .i64 x) es (i+1):=by
   simp[dQ,Z]
  rcases Zco x es (i+1) (λA G=>hall A (aR _ G))with⟨Y,U⟩|⟨k,e1,Y,U,h3,h4⟩
  ·exact .inl ⟨by rw[H,Y],λA G=>by
    rcases bG.1 G with rfl|G
    ·exact J
    exact U A G⟩
  refine .inr ⟨k+1,e1,by simpa using Y,U,λj A hj I=>?_,by rw[H,h4];congr 3;omega⟩;cases j with
  |zero=>simp only[bJ,aD]at I;subst I;exact J
  |succ j=>exact h3 j A (by omega) (by simpa using I)
theorem Zhu (d:Nat) {A:TypeId} (G:P.underlying A=some (.int .i64)) (b:Bool) (x:Int) (w:World):(cY b (d+1) A (.int .i64 x)).run P w= .ok () w:=by
 simp only[cY,aQ,Zy G,aH,bC]
theorem ZdH {A:TypeId} (G:P.underlying A=some (.int .i64)) (b:Bool) (x:Int) (w:World):(cY b 10000 A (.int .i64 x)).run P w= .ok () w:=Zhu 9999 G b x w
theorem Zgb {w:World} {b:Nat} {es:Array MapEntry} {cl:Nat} (h:w.heap[b]? =some (.map es cl)):(getObj b).run P w= .ok (.map es cl) w:=by
 simp[getObj,Sem.run,h]
theorem VR.map_inv {id:Nat} {u:Value} (hv:VR R (.map id) u):u= .map (some (R.α id).b):=by
 cases hv with
 |pure _ _ A=>cases A
 |map _ _=>rfl
theorem ZnT (H:HR G R h) {t kt et:TypeId} {E:TI} {id:Nat} {n:Unit->Int} {f:(Unit->Int)->Unit->Bool} {m k:Value} (hm:VR R (.map id) m) (hk:VR R (.int .i64 n) k)
  (hu:P.underlying t=some (.map kt et)) (hi:h[id]? =some (.mapB f)) (I:P.underlying kt=some (.int .i64)) (ac:ZI P et=some E) (hz:E.zero=some (.bool false)):
  (Instr.lookup t m k false).run P R.w= .ok (.bool (f n ())) R.w:=by
 obtain⟨es,cl,h1,h2,h3⟩:=H.blk id _ hi;rw[hm.map_inv,hk.int_inv];obtain⟨ie,de,ah,_,_,_,ab,_⟩:=XJ ac;have Z:f n=f (λ_=>n ()):=rfl;have aa:=ZdH (P:=P) I es.isEmpty (n ()) R.w;have Y:=Zgb (P:=P) h1;unfold Instr.lookup;rcases Zco (n ()) es.toList 0 h2 with⟨U,V⟩|⟨i,e,U,V,a3,a4⟩
 ·have hf:f n ()=false:=by
   rw[Z];rcases h3 (n ())with⟨_,S⟩|⟨i,e,A,S,_⟩
   ·exact S
   exact absurd S (V e (aZ A))
  simp only[aQ,Zy hu,aH,Y,bC,aa,dP,Zy I,U,zeroValue,Xx ah,<-ab,hz,hf,aX,if_false]
 have hf:e.val= .bool (f n ()):=by
  rw[Z];rcases h3 (n ())with⟨A,_⟩|⟨i',e',A,S,b3,b4⟩
  ·exact absurd V (A e (aZ U))
  have ae:i=i':=by
   rcases Nat.lt_trichotomy i i' with J|J|J
   ·exact absurd V (b4 i e J U)
   ·exact J
   exact absurd S (a3 i' e' J A)
  subst ae;rw[U]at A;cases A;exact b3
 simp only[aQ,Zy hu,aH,Y,bC,aa,dP,Zy I,a4,hf,aX,if_false]
theorem ZlP (H:HR G R h) {t:TypeId} {a b v:AV} {m k:Value} {ok:Bool} {c:Cd} (hm:VR R a m) (I:VR R b k) (hv:JX (tyP P) t a b ok h=some (v,c)) (hc:ZV c):∃y,(Instr.lookup t m k ok).run P R.w= .ok y R.w/\VR R v y:=by
 unfold JX at hv;split at hv;case h_2=>cases hv
 rename_i kt et S;split at hv
 ·rename_i id;split at hv
  ·rename_i f U;split at hv;case h_2=>cases hv
   rename_i n aa A;cases hv;obtain⟨T,hT,A⟩:=ej.1 A;exact⟨_,ZnT H hm I S U aa hT A,.pure _ _ (.bool _)⟩
  ·rename_i ka n L U;obtain⟨o,ho,_,es,J,rfl,Y⟩:=H.blk id _ U;rw[hm.map_inv];exact ZgG S hv I (.inr ⟨_,rfl,ho⟩) Y
  ·rename_i ka kb n L U;split at hv;case h_2=>cases hv
   rename_i g Y A;cases hv;obtain⟨o,ho,_,es,J,rfl,ab⟩:=H.blk id _ U;obtain⟨rfl,Z,V⟩:=ZdS Y I;obtain⟨T,hT,A⟩:=ej.1 A;obtain⟨y,k1,k2⟩:=Ze8 (m:=m) S V Z R (.inr ⟨_,hm.map_inv,ho⟩) ab hT A ok;refine⟨_,k1,ZjX (b:=λ_=>((L ()).lookup (g ())).isSome) ?_⟩;rcases k2 with⟨e1,e2⟩|⟨d,e1,e2⟩
   ·rw[e2];exact .pure _ _ (.imap0 _ _ _ (by simp[e1]))
   have:(λ_:Unit=>((L ()).lookup (g ())).getD [])=λ_=>d:=funext λ_=>by simp[e1]
   rw[this];exact .pure _ _ e2
  cases hv
 ·rename_i ka n L;cases hm with
  |pure _ _ hp=>
   cases hp with
   |imap _ _ _ b es J Z V h3=>exact ZgG S hv I (.inr ⟨b,rfl,Z⟩) V
   |imap0 _ _ _ h0=>exact ZgG S hv I (.inl ⟨rfl,rfl⟩) (clk:=0) (by rw[h0];exact ZeV.nil)
 cases hv
theorem Zif:∀(l:List (MapEntry×(List Int×List Int))) {p:MapEntry×(List Int×List Int)},(l.map (·.1.born)).Nodup->p∈l->(l.map (·.1)).find? (·.born==p.1.born)=some p.1
 |[],p,_,A=>by cases A
 |q::l,p,hn,A=>by
  rw[bX,ee]at hn;rcases bG.1 A with rfl|A
  ·simp
  have G:(q.1.born==p.1.born)=false:=by
   simpa using λe=>hn.1 (bE.2 ⟨p,A,e.symm⟩)
  rw[bX,List.find?_cons,G];exact Zif l hn.2 A
theorem Zoc (H:HR G R h) {a v:AV} {u:Value} {c:Cd} (ha:VR R a u) (hv:Zjl h a=some (v,c)) (hc:ZV c):∃y,(Instr.entry u).run P R.w= .ok y R.w/\VR R v y:=by
 unfold Zjl at hv;split at hv;case h_2=>cases hv
 rename_i id;split at hv;case h_2=>cases hv
 rename_i ka n L U S hi;cases hv;have hs:U ()≠ []:=(Cn.out (hc _ (aN.2 rfl)));obtain⟨o,ho,_,⟨_,e,_⟩|⟨m,es,I,sn,l,rfl,h2,h3,V,h5,h6⟩⟩:=H.blk id _ hi
 ·exact absurd e hs
 obtain⟨p,J,hb,Y⟩:=h6 hs;have hf:=Zif l V.bn J;rw[V.es]at hf;cases ha with
 |pure _ _ J=>cases J
 |mit _ _ h0=>
  have g1:(getObj (R.α id).b).run P R.w= .ok (.mapIter (some m) I sn I) R.w:=by simp[getObj,Sem.run,ho]
  have g2:(getObj m).run P R.w= .ok (.map es I) R.w:=by simp[getObj,Sem.run,h2]
  have Z:es.find? (λx=>x.born==p.1.born)=some p.1:=by rw[<-Array.find?_toList];exact hf
  refine⟨.tuple #[p.1.key,p.1.val],?_,?_⟩
  ·simp only[Instr.entry,aQ,g1,aH,hb,g2,bne_self_eq_false,aX,if_false,bC,Z]
  obtain⟨k1,k2,_⟩:=V.e p J;rw[k1,k2,Y];refine .tup _ _ rfl λj c A=>?_;match j,A with
  |0,A=>simp at A;subst A;exact ZaN R ka λ_=>(S ()).1
  |1,A=>simp at A;subst A;exact ZaN R n λ_=>(S ()).2
theorem ZdE (d:Nat) (t:TypeId) (e:TypeId) (a:Option Addr) (n c:Nat) (A:P.underlying t=some (.slice e)):
  (Op.equalIn (d+1) t (.slice a n c) (.slice none 0 0)).run P R.w= .ok a.isNone R.w:=by
 cases a<;>simp only[Op.equalIn,aQ,Zy A,aH,bC,Option.isNone]
theorem Zb7 (t:TypeId) (e:TypeId) (x y:Operand) (a:Option Addr) (n c:Nat) (G:P.underlying t=some (.slice e)):
  ((do eqGuard .eql t x y (.slice a n c) (.slice none 0 0);binOp .eql t (.slice a n c) (.slice none 0 0)):Sem Value).run P R.w= .ok (.bool a.isNone) R.w:=by
 have A:(eqGuard .eql t x y (.slice a n c) (.slice none 0 0)).run P R.w= .ok () R.w:=by simp[eqGuard]
 have H:(Op.equal t (.slice a n c) (.slice none 0 0)).run P R.w= .ok a.isNone R.w:=ZdE 9999 t e a n c G;simp only[aQ,A,aH,binOp,H,bC]
theorem Zb6 (t:TypeId) (e:TypeId) (x y:Operand) (a:Option Addr) (n c:Nat) (G:P.underlying t=some (.slice e)):
  ((do eqGuard .neq t x y (.slice a n c) (.slice none 0 0);binOp .neq t (.slice a n c) (.slice none 0 0)):Sem Value).run P R.w= .ok (.bool (!a.isNone)) R.w:=by
 have A:(eqGuard .neq t x y (.slice a n c) (.slice none 0 0)).run P R.w= .ok () R.w:=by simp[eqGuard]
 have H:(Op.equal t (.slice a n c) (.slice none 0 0)).run P R.w= .ok a.isNone R.w:=ZdE 9999 t e a n c G;simp only[aQ,A,aH,binOp,H,bC]
theorem Zob {op:BinOp} {t e:TypeId} (I:P.underlying t=some (.slice e)) {a v:AV} {c:Cd} {u:Value} (V:VR R a u) (x y:Operand) (hv:Zdk op a=some (v,c)) (Z:ZV c):
  ∃w,((do eqGuard op t x y u (.slice none 0 0);binOp op t u (.slice none 0 0)):Sem Value).run P R.w= .ok w R.w/\VR R v w:=by
 unfold Zdk at hv;split at hv
 ·rename_i s n f;have:u= .slice none 0 0:=by
   cases V with
   |pure _ _ G=>
    cases G with
    |isl0 _ _ _ _ _ _=>rfl
    |islE _ _ _ _ _ _ A=>rcases A with h|h<;>cases h
    |isl _ _ _ _ _ _ _ _ _ _ _ A _ _ _ _ _=>rcases A with h|h<;>cases h
  subst this;split at hv<;>(try (cases hv;done))<;>simp only[aD,aK]at hv<;>obtain⟨rfl,rfl⟩:=hv
  ·exact⟨_,Zb7 t e x y none 0 0 I,.mkBool rfl⟩
  exact⟨_,Zb6 t e x y none 0 0 I,.mkBool rfl⟩
 ·rename_i s n f;obtain⟨J,S,U,rfl⟩:∃J S U,u= .slice (some J) S U:=by
   cases V with
   |pure _ _ G=>
    cases G with
    |isl0 _ _ _ _ _ A=>cases A
    |islE _ _ _ _ _ _ A=>rcases A with h|h<;>cases h
    |isl _ _ _ _ _ _ _ _ _ _ _ A _ _ _ _ _=>rcases A with h|h<;>cases h
   |nn _ _ _ _ G hv=>
    cases G with
    |isl0 _ _ _ _ _ _=>exact absurd rfl hv
    |islE _ _ _ _ a _ _=>exact⟨a,0,0,rfl⟩
    |isl _ _ _ _ b o len H Y _ _ _ _ _ _ _ _=>exact⟨_,len,H,rfl⟩
  split at hv<;>(try (cases hv;done))<;>simp only[aD,aK]at hv<;>obtain⟨rfl,rfl⟩:=hv
  ·exact⟨_,Zb7 t e x y (some J) S U I,.mkBool rfl⟩
  exact⟨_,Zb6 t e x y (some J) S U I,.mkBool rfl⟩
 ·rename_i s n f tk _ _;have G:=V.isl_inv;split at hv<;>(try (cases hv;done))<;>simp only[aD,aK]at hv<;>obtain⟨rfl,rfl⟩:=hv;all_goals
   have hn:=(Cn.out (Z _ (aN.2 rfl)));cases G with
   |isl0 _ _ _ _ h _=>omega
   |islE _ _ _ _ _ h _=>omega
   |isl _ _ _ _ b o len H Y _ _ _ _ _ _ _ _=>
    first
     |exact⟨_,Zb7 t e x y _ len H I,.mkBool rfl⟩
     |exact⟨_,Zb6 t e x y _ len H I,.mkBool rfl⟩
 cases hv
theorem Zom {op:BinOp} {t ty:TypeId} {x y:Operand} {yt:TypeId} {dst:Option Tmp} {pos:String} {after:Array Edge} {guard:Option (Nat×Bool)} {ax ay:AV} {ρ:Operand->Value}
  (S:VR R ax (ρ x)) (hy:VR R ay (ρ y)) (ak:Zes y=true->ρ y= .slice none 0 0) {v:AV} {c:Cd} (hv:ZeQ P op t (Zes y) ax ay=some (v,c)) (V:ZV c):
  ∃u,(execOp ρ {dst,op:=.binOp op t x y yt,type:=ty,pos,after,guard}).run P R.w= .ok (.value u) R.w/\VR R v u:=by
 have fin:∀G,(∃u,((do eqGuard op t x y (ρ x) (ρ y);binOp op t (ρ x) (ρ y)):Sem Value).run P R.w= .ok u R.w/\VR R G u)->
   ∃u,(execOp ρ {dst,op:=.binOp op t x y yt,type:=ty,pos,after,guard}).run P R.w= .ok (.value u) R.w/\VR R G u:=by
  rintro G ⟨u,h1,h2⟩;refine⟨u,?_,h2⟩;show((do eqGuard op t x y (ρ x) (ρ y);binOp op t (ρ x) (ρ y))>>=λz=>(pure (.value z):Sem Next)).run P R.w=_;rw[aQ,h1];rfl
 apply fin;unfold ZeQ at hv;split at hv
 ·rename_i hn;split at hv
  ·rename_i el I;rw[ak hn];exact Zob I S x y hv V
  cases hv
 split at hv
 ·rename_i k a k' b;have A:∀G,(∃u,(binOp op t (.int k (a ())) (.int k' (b ()))).run P R.w= .ok u R.w/\VR R G u)->∃u,((do eqGuard op t x y (ρ x) (ρ y);binOp op t (ρ x) (ρ y)):Sem Value).run P R.w= .ok u R.w/\VR R G u:=by
   rintro G ⟨u,h1,h2⟩;refine⟨u,?_,h2⟩;rw[aQ,S.int_inv,hy.int_inv,Zht,aH,h1]
  split at hv
  ·exact A _ (ZhT .shl t k k' a b v c hv V)
  ·exact A _ (ZhT .shr t k k' a b v c hv V)
  split at hv
  ·rename_i ai;obtain rfl:=Zew ai;exact A _ (Zty op t k a b v c hv V)
  cases hv
 ·rename_i xs ys;obtain⟨U,I,ac,am⟩:=S.agg_inv;obtain⟨J,aj,al,ah⟩:=hy.agg_inv;split at hv
  ·rename_i ae;simp only[Zak,aS,cG]at ae;obtain⟨⟨⟨aa,Z⟩,Y⟩,ab⟩:=ae;have ab:=ZF ab;have A:∀g,ZO xs ys=some g->(Op.equalIn (9995+5) t (.agg U) (.agg J)).run P R.w= .ok (g ()) R.w:=λg H=>by
    have:=Zgc (w:=R.w) 5 t xs.length aa 9995 xs ys U J g ⟨ac,am⟩ ⟨al,ah⟩ ac.symm (by omega) H;obtain⟨d,hd,_⟩:=Zcn aa;rw[hd]at Y;simpa [Za9,hd,Y]using this
   rw[I,aj];split at hv
   ·simp only[aG,aK]at hv;obtain⟨g,H,rfl,rfl⟩:=hv;refine⟨.bool (g ()),?_,.pure _ _ (.bool g)⟩;rw[aQ,run_eqGuard_agg R.w .eql t x y U J Z,aH,run_eql_struct,A g H];rfl
   ·simp only[aG,aK]at hv;obtain⟨g,H,rfl,rfl⟩:=hv;refine⟨.bool (!g ()),?_,.mkBool rfl⟩;rw[aQ,run_eqGuard_agg R.w .neq t x y U J Z,aH,run_neq_struct,A g H];rfl
   cases hv
  cases hv
 ·rename_i a b;rw[S.bool_inv,hy.bool_inv];split at hv;case h_2=>cases hv
  rename_i I;have A:(Op.equal t (.bool (a ())) (.bool (b ()))).run P R.w= .ok (a ()==b ()) R.w:=run_equalIn_bool' R.w 9999 t _ _ I;split at hv
  ·cases hv;refine⟨.bool (a ()==b ()),?_,.mkBool rfl⟩;show((pure ():Sem Unit)>>=λ_=>(Op.equal t (.bool (a ())) (.bool (b ()))>>=λx=>(pure (.bool x):Sem Value))).run P R.w=_;rw[aQ,bC,aH,aQ,A];rfl
  ·cases hv;refine⟨.bool (!(a ()==b ())),?_,.mkBool rfl⟩;show((pure ():Sem Unit)>>=λ_=>(Op.equal t (.bool (a ())) (.bool (b ()))>>=λx=>(pure (.bool (!x)):Sem Value))).run P R.w=_;rw[aQ,bC,aH,aQ,A];rfl
  cases hv
 cases hv
theorem Zh0 {y:Operand} (h:Zes y=true):y= .const (.slice none 0 0):=by
 unfold Zes at h;split at h
 ·rfl
 cases h
theorem Zvl (H:HR G R h) {o:Oper} {E:Operand->AV} {ρ:Operand->Value} (hK:∀v,ρ (.const v)=v) (J:∀x∈o.op.operands,VR R (E x) (ρ x)) {v:AV} {c:Cd} (hv:JG P E h o.op=some (v,c)) (hc:ZV c):
  ∃u,(execOp ρ o).run P R.w= .ok (.value u) R.w/\VR R v u:=by
 obtain⟨cq,op,ty,pos,cg,ci⟩:=o;dsimp only at J hv;cases op with
 |move x=>
  simp only[JG,aD,aK]at hv;obtain⟨rfl,rfl⟩:=hv;exact⟨ρ x,rfl,J x (by simp[bD])⟩
 |assign x=>
  simp only[JG,aD,aK]at hv;obtain⟨rfl,rfl⟩:=hv;exact⟨ρ x,rfl,J x (by simp[bD])⟩
 |pick a b d=>
  simp only[JG]at hv;obtain⟨t,ht,bp⟩:=Zqr (J a (by simp[bD])) (J b (by simp[bD])) (J d (by simp[bD])) hv hc;refine⟨_,?_,bp⟩;simp[execOp,ht,asBool]
 |nilCheck x=>
  simp only[JG]at hv;have A:=J x (by simp[bD]);split at hv
  ·rename_i i o ah;simp only[aD,aK]at hv;obtain⟨rfl,rfl⟩:=hv;rw[ah]at A;refine⟨ρ x,?_,A⟩;generalize ae:ρ x=u at A;cases A with
   |pure _ _ Z=>cases Z
   |ptr _ _ az=>simp only[execOp,ae];rfl
  ·rename_i i o ah;simp only[aD,aK]at hv;obtain⟨rfl,rfl⟩:=hv;rw[ah]at A;refine⟨ρ x,?_,A⟩;generalize ae:ρ x=u at A;cases A with
   |pure _ _ Z=>
   cases Z with
   |iptr _ _ _ _ _ _ _ _=>simp only[execOp,ae];rfl
  ·rename_i i s e o ah;simp only[aD,aK]at hv;obtain⟨rfl,rfl⟩:=hv;rw[ah]at A;refine⟨ρ x,?_,A⟩;generalize ae:ρ x=u at A;cases A with
   |pure _ _ Z=>cases Z
   |aptr _ _ _ _ _ _ _=>simp only[execOp,ae];rfl
  ·rename_i i s n e o ah;simp only[aD,aK]at hv;obtain⟨rfl,rfl⟩:=hv;rw[ah]at A;refine⟨ρ x,?_,A⟩;generalize ae:ρ x=u at A;cases A with
   |pure _ _ Z=>cases Z
   |gptr _ _ _ _ _ _ _ _ _=>simp only[execOp,ae];rfl
  ·rename_i i s n e o ah;simp only[aD,aK]at hv;obtain⟨rfl,rfl⟩:=hv;rw[ah]at A;refine⟨ρ x,?_,A⟩;generalize ae:ρ x=u at A;cases A with
   |pure _ _ Z=>cases Z
   |nptr _ _ _ _ _ _ _ _ _ _ _ _ _ _ _ _ _=>simp only[execOp,ae];rfl
  cases hv
 |load t a=>
  simp only[JG]at hv;split at hv
  ·rename_i T hT;obtain⟨x,Y,h2⟩:=Zki hT H (J a (by simp[bD])) hv hc;exact⟨x,by simp[execOp,Y],h2⟩
  cases hv
 |fieldAddr t x f=>
  simp only[JG]at hv;split at hv
  ·rename_i T hT;obtain⟨y,Y,h2⟩:=ZhD hT (J x (by simp[bD])) hv;exact⟨y,by simp[execOp,Y],h2⟩
  cases hv
 |indexAddr t x i=>
  simp only[JG]at hv;split at hv
  ·rename_i T hT;obtain⟨y,Y,h2⟩:=ZhB hT H (J x (by simp[bD])) (J i (by simp[bD])) hv hc;exact⟨y,by simp[execOp,Y],h2⟩
  cases hv
 |binOp op t x y yt=>
  exact Zom (J x (by simp[bD])) (J y (by simp[bD])) (λh=>by rw[Zh0 h];exact hK _) (by simpa only[JG]using hv) hc
 |unOp op t x=>
  have A:=J x (by simp[bD]);cases op with
  |not=>
   simp only[JG]at hv;split at hv
   ·rename_i a U;rw[U]at A;simp only[aD,aK]at hv;obtain⟨rfl,rfl⟩:=hv;exact⟨.bool (!a ()),by simp[execOp,A.bool_inv,Op.unary],.mkBool rfl⟩
   cases hv
  |neg=>
   simp only[JG]at hv;split at hv
   ·rename_i k a U;rw[U]at A;simp only[aD]at hv;obtain rfl:=(Prod.mk.inj hv).1;obtain rfl:=(Prod.mk.inj hv).2;exact⟨_,by simp[execOp,A.int_inv,Op.unary,Op.intArith],ZcD k _ hc⟩
   cases hv
  |_=>simp[JG]at hv
 |convert s d x=>
  have A:=J x (by simp[bD]);simp only[JG]at hv;split at hv
  ·rename_i k a S D U hS hD;rw[U]at A;split at hv
   ·rename_i k' hk;simp only[aD]at hv;obtain rfl:=(Prod.mk.inj hv).1;obtain rfl:=(Prod.mk.inj hv).2;obtain⟨_,ds,_,bw,_⟩:=XJ hS;have bt:=Zo7 hD hk;refine⟨_,?_,ZcD k' _ hc⟩;simp[execOp,A.int_inv,convert,Zy bw,Zy bt,Conv.intToInt]
   cases hv
  cases hv
 |extract x i=>
  have A:=J x (by simp[bD]);simp only[JG]at hv;split at hv
  ·rename_i vs U;rw[U]at A;split at hv
   ·rename_i a hi;simp only[aD,aK]at hv;obtain⟨rfl,rfl⟩:=hv;obtain⟨us,hu,hl,hr⟩:=A.tup_inv;have aa:i<us.size:=by rw[<-hl];exact(aE.1 hi).1
    have:=hr i a hi;rw[aI,aY aa,bY]at this;exact⟨us[i],by simp[execOp,hu,Instr.extract,aY aa],this⟩
   cases hv
  cases hv
 |build t ps=>
  simp only[JG]at hv;split at hv
  ·rename_i T hT;split at hv
   ·rename_i fs z hk hz;split at hv
    ·rename_i am;simp only[aS]at am;simp only[aG,aK]at hv;obtain⟨cs,hb,rfl,rfl⟩:=hv
     obtain⟨u,Y,h2⟩:=ZnC (ρ:=ρ) (R:=R) hT hk hz am.1 hb (λp Z=>⟨J p.2 (by simp only[bD];rw[<-cL];exact bE.2 ⟨p,Z,rfl⟩),by
      have:=am.2;rw[bM]at this
      exact this p Z⟩)
     refine⟨u,?_,h2⟩;have he:(ps.toList.map λp=>(p.1,ρ p.2)).toArray=ps.map λ(i,x)=>(i,ρ x):=by
      obtain⟨l⟩:=ps;simp
     rw[he]at Y;simp[execOp,Y]
    cases hv
   cases hv
  cases hv
 |index t x i=>
  simp only[JG]at hv;split at hv;case h_3=>cases hv
  case h_2=>
   rename_i cs k e n el Y h2 hu;split at hv;case h_2=>cases hv
   rename_i T hT;split at hv;case isFalse=>cases hv
   rename_i bg;simp only[aS,cG]at bg;obtain⟨⟨bc,bx⟩,hn⟩:=bg;have bc:=ZF bc;have hn:=ZF hn;split at hv;case h_2=>cases hv
   rename_i v' bh;cases hv;obtain⟨r1,r2⟩:=(Cn.out (hc _ (aN.2 rfl)));have A:=J x (by simp[bD]);have hi:=J i (by simp[bD]);rw[Y]at A;rw[h2]at hi;obtain⟨us,b9,hl,hr⟩:=A.agg_inv;obtain⟨j,d,hj,hd,hs,_,_,hg⟩:=XJ hT;obtain⟨q,hq⟩:=bU r1;have aa:q<us.size:=by omega
   have bz:q<n:=by omega
   refine⟨us[q],?_,ZmG bh hq (by omega) λc ce=>?_⟩
   ·have bo:j.size=1:=by omega
    have e:us[q]? =some us[q]:=aY aa;have:(Instr.index t (ρ x) (ρ i)).run P R.w= .ok us[q] R.w:=by
     rw[b9,hi.int_inv];simp[Instr.index,asIntOf,Zy hu,hq,bz,Z6 hj,bo,part,ZaS hd,<-hg,bx,e]
    show((Instr.index t (ρ x) (ρ i))>>=λz=>(pure (.value z):Sem Next)).run P R.w=_;rw[aQ,this];rfl
   have:=hr q c ce;rwa [aI,aY aa,bY]at this
  rename_i s k e Y h2 hu;simp only[aD,aK]at hv;obtain⟨rfl,rfl⟩:=hv;obtain⟨cf,cn⟩:=(Cn.out (hc _ (aN.2 rfl)));have A:=J x (by simp[bD]);have hi:=J i (by simp[bD]);rw[Y]at A;rw[h2]at hi;have hi:=hi.int_inv;have A:ρ x= .string (s ()):=by
   generalize ρ x=u at A;cases A with
   |pure _ _ Z=>cases Z;rfl
  obtain⟨n,hn⟩:=bU cf;have aa:n<(s ()).size:=by omega
  refine⟨.int .u8 ((s ())[n].toNat:Nat),?_,VR.mkInt ?_⟩
  ·show((Instr.index t (ρ x) (ρ i))>>=λz=>(pure (.value z):Sem Next)).run P R.w=_;have:(Instr.index t (ρ x) (ρ i)).run P R.w= .ok (.int .u8 ((s ())[n].toNat:Nat)) R.w:=by
    rw[A,hi];simp[Instr.index,asIntOf,Zy hu,hn,aa]
   rw[aQ,this];rfl
  simp[hn,aa]
 |field t x i=>
  have A:=J x (by simp[bD]);simp only[JG]at hv;split at hv
  ·rename_i T hT;split at hv
   ·rename_i fs cs hk U;rw[U]at A;obtain⟨us,hu,hl,hr⟩:=A.agg_inv;obtain⟨fl,be,rfl⟩:=Zcx hT hk;split at hv
    ·rename_i al sz g hf;rw[aP,aG]at hf;obtain⟨f,ba,bq⟩:=hf;rw[bN]at ba;obtain⟨j,d,hj,hd,ho,hs,hg⟩:=Zcp bq;split at hv
     ·rename_i aw;split at hv
      ·rename_i au;have au:=Xc au;simp only[aD,aK]at hv;obtain⟨rfl,rfl⟩:=hv;refine⟨.agg (us.extract al (al+sz)),by simp[execOp,hu,Instr.field,Zy be,ba,asAgg,part,ZaS hd,hg,aw,Z6 hj,ho,hs],.agg _ _ (by simp;omega) (λk a ak=>?_)⟩;rw[cR]at ak;split at ak
       ·rename_i aa;rw[cT]at ak;have:=hr _ _ ak;rw[aI,fi];rw[aI]at this;rw[iQ (by omega)];exact this
       cases ak
      cases hv
     rename_i aw;split at hv
     ·rename_i a hi;simp only[aD,aK]at hv;obtain⟨rfl,rfl⟩:=hv;have aa:al<us.size:=by rw[<-hl];exact(aE.1 hi).1
      have:=hr al a hi;rw[aI,aY aa,bY]at this;have ca:g=false:=by simpa using aw
      exact⟨us[al],by simp[execOp,hu,Instr.field,Zy be,ba,asAgg,part,ZaS hd,hg,ca,ho,aY aa],this⟩
     cases hv
    cases hv
   cases hv
  cases hv
 |makeFunc fn first ap=>
  cases fn with
  |func f=>
   simp only[JG,aD,aK]at hv;obtain⟨rfl,rfl⟩:=hv;obtain⟨l1,r1⟩:=ZeS (E:=E) (ρ:=ρ) (xs:=first) (R:=R) (λx A=>J x (by simp[bD,A]));obtain⟨l2,r2⟩:=ZeS (E:=E) (ρ:=ρ) (xs:=ap) (R:=R) (λx A=>J x (by simp[bD,A]));exact⟨.func (.func f) (first.map ρ) (ap.map ρ),by simp[execOp,Instr.makeFunc],.fn f _ _ _ _ l1 l2 r1 r2⟩
  |_=>simp[JG]at hv
 |slice t x lo hi mx=>
  simp only[JG]at hv;split at hv
  ·rename_i T hT;have ao:∀(y:Option Operand),(∀z,y=some z->VR R (E z) (ρ z))->(∀a,y.map E=some a->∃w,y.map ρ=some w/\VR R a w)/\(y.map E=none->y.map ρ=none):=by
    intro y hy;cases y with
    |none=>exact⟨(λa h=>by cases h),λ_=>rfl⟩
    |some z=>exact⟨λa h=>by simp only[cI,aD]at h;subst h;exact⟨_,rfl,hy z rfl⟩,λh=>by cases h⟩
   obtain⟨s1,bu⟩:=ao lo (λz hz=>J z (by simp[bD,hz]));obtain⟨s2,bm⟩:=ao hi (λz hz=>J z (by simp[bD,hz]));obtain⟨s3,bl⟩:=ao mx (λz hz=>J z (by simp[bD,hz]));obtain⟨y,Y,h2⟩:=Znw hT H (J x (by simp[bD])) s1 bu s2 bm s3 bl hv hc;exact⟨y,by simp[execOp,Y],h2⟩
  cases hv
 |lookup t m k ok=>
  simp only[JG]at hv;obtain⟨y,Y,h2⟩:=ZlP H (J m (by simp[bD])) (J k (by simp[bD])) hv hc;exact⟨y,by simp[execOp,Y],h2⟩
 |entry x=>
  simp only[JG]at hv;obtain⟨y,Y,h2⟩:=Zoc (P:=P) H (J x (by simp[bD])) hv hc;exact⟨y,by simp[execOp,Y],h2⟩
 |call cl=>
  obtain⟨aq,V,I⟩:=cl;cases aq with
  |builtin b=>
   have A:∀x∈V,VR R (E x) (ρ x):=λx A=>J x (by simp[bD,Call.operands,A]);have ab:=ZkU A;have ai:∀(s:Sem Value) (u:Value),s.run P R.w= .ok u R.w->(do let x<-s;pure (Next.value x):Sem Next).run P R.w= .ok (.value u) R.w:=λs u hs=>by rw[aQ,hs];rfl
   cases b with
   |len=>
    simp only[JG]at hv;have one:∀x,V.toList.map E=[x]->∃u,V.map ρ= #[u]/\VR R x u:=λx ar=>by
     rw[ar]at ab;have:=ab 0 x rfl;obtain⟨l⟩:=V;match l,ar with
     |[z],ar=>exact⟨ρ z,by simp,by simpa using this⟩
    split at hv
    ·rename_i s n f tk t ts U ht;obtain⟨u,hu,aj⟩:=one _ U;have Z:=aj.isl_inv;have h0:I[0]? =some t:=by rw[<-bN,ht];rfl
     split at hv
     ·rename_i el ac;simp only[aD,aK]at hv;obtain⟨rfl,rfl⟩:=hv;refine⟨.int .i64 (n ()),ai _ _ ?_,.mkInt rfl⟩;show(Builtin.len_ I ty (V.map ρ)).run P R.w=_;rw[hu];cases Z with
      |isl0 _ _ _ _ hz _=>simp[Builtin.len_,h0,Zy ac,goInt,hz]
      |islE _ _ _ _ _ hz _=>simp[Builtin.len_,h0,Zy ac,goInt,hz]
      |isl _ _ _ _ b o len ap us hn _ _ _ _ _ _ _=>simp[Builtin.len_,h0,Zy ac,goInt,hn]
     cases hv
    ·rename_i id s lo n cp t ts U ht;obtain⟨u,hu,aj⟩:=one _ U;have h0:I[0]? =some t:=by rw[<-bN,ht];rfl
     split at hv
     ·rename_i el ac;simp only[aD,aK]at hv;obtain⟨rfl,rfl⟩:=hv;refine⟨.int .i64 (n ()),ai _ _ ?_,.mkInt rfl⟩;show(Builtin.len_ I ty (V.map ρ)).run P R.w=_;rw[hu];cases aj with
      |pure _ _ Z=>cases Z
      |msl _ _ _ _ _ i len ap az cj hn ck au=>simp[Builtin.len_,h0,Zy ac,goInt,hn]
     cases hv
    ·rename_i id n t ts U ht;obtain⟨u,hu,aj⟩:=one _ U;have h0:I[0]? =some t:=by rw[<-bN,ht];rfl
     split at hv
     ·rename_i el ac;simp only[aD,aK]at hv;obtain⟨rfl,rfl⟩:=hv;refine⟨.int .i64 (n ()),ai _ _ ?_,.mkInt rfl⟩;show(Builtin.len_ I ty (V.map ρ)).run P R.w=_;rw[hu];cases aj with
      |pure _ _ Z=>cases Z
      |gsl _ _ a l c' az hn he hl=>simp[Builtin.len_,h0,Zy ac,goInt,hl.1]
     cases hv
    ·rename_i id n0 n t ts U ht;obtain⟨u,hu,aj⟩:=one _ U;have h0:I[0]? =some t:=by rw[<-bN,ht];rfl
     split at hv
     ·rename_i el ac;simp only[aD,aK]at hv;obtain⟨rfl,rfl⟩:=hv;refine⟨.int .i64 (n ()),ai _ _ ?_,.mkInt rfl⟩;show(Builtin.len_ I ty (V.map ρ)).run P R.w=_;rw[hu];cases aj with
      |pure _ _ Z=>cases Z
      |nsub _ _ _ a l c' us i az cr he hu hl=>simp[Builtin.len_,h0,Zy ac,goInt,hl.1]
     cases hv
    cases hv
   |max=>
    simp only[JG]at hv;split at hv
    ·rename_i k x r U;have hl:V.toList.map ρ=(ρ<$>V.toList):=rfl;rw[U]at ab;obtain⟨l⟩:=V;match l,U with
     |z::zs,U=>
      simp only[bX,cB]at U;obtain⟨bk,a9⟩:=U;have h0:=(ab 0 _ rfl).int_inv;simp only[bX,fa]at h0;obtain⟨u,Y,h2⟩:=Zi7 (P:=P) (R:=R) true r (zs.map ρ) k x v c hv (by rw[<-a9];simp) (λj a hj=>by simpa using ab (j+1) a (by simpa using hj));refine⟨u,ai _ _ ?_,h2⟩;show(Builtin.max_ I ty _).run P R.w=_;simpa [Builtin.max_,h0]using Y
    cases hv
   |min=>
    simp only[JG]at hv;split at hv
    ·rename_i k x r U;rw[U]at ab;obtain⟨l⟩:=V;match l,U with
     |z::zs,U=>
      simp only[bX,cB]at U;obtain⟨bk,a9⟩:=U;have h0:=(ab 0 _ rfl).int_inv;simp only[bX,fa]at h0;obtain⟨u,Y,h2⟩:=Zi7 (P:=P) (R:=R) false r (zs.map ρ) k x v c hv (by rw[<-a9];simp) (λj a hj=>by simpa using ab (j+1) a (by simpa using hj));refine⟨u,ai _ _ ?_,h2⟩;show(Builtin.min_ I ty _).run P R.w=_;simpa [Builtin.min_,h0]using Y
    cases hv
   |_=>simp[JG]at hv
  |_=>simp[JG]at hv
 |_=>simp[JG]at hv
end
end Vm
end Go.Proofs.YtjgpiclllehgmaaGreat
