/- Lemmas. -/
import Derived.Calls
import Derived.Laws.Entries
import Derived.Laws.Cells
import Derived.Laws.BitsLemmas
import Derived.Laws.Slices
import Derived.Laws.StructEq
import Derived.ChangeKeysEq
set_option linter.all false
open Array renaming getD_eq_getD_getElem?->aI,getElem?_eq_getElem->aY,getElem?_extract->fj,getElem?_setIfInBounds->bR,getElem?_toList->bN,mem_toList_iff->cM
open Bool renaming and_eq_true->aT,false_eq_true->aX,not_eq_true'->cG,not_true->dY,true_and->fO
open Go.Instr renaming checkKey->cW,findAsking->eD,findKey->dN,findNow->dO,indexAt->eO,loadAt->ec,sliceAt->eP,sliceBounds->cX,sureAddr->cP
open Int renaming eq_ofNat_of_zero_le->bS
open List renaming all_eq_true->bL,drop_drop->ge,drop_eq_nil_of_le->bB,eq_nil_of_length_eq_zero->cQ,forIn_cons->gJ,getD_cons_zero->fb,getD_eq_getElem?_getD->aA,getElem?_cons_zero->bJ,getElem?_drop->cY,getElem?_eq_getElem->aD,getElem?_eq_some_iff->aE,getElem?_map->aO,getElem?_set->bP,getElem?_take->cZ,getElem_cons_succ->gM,length_eq_one_iff->eI,length_eq_zero_iff->gH,lookup->eV,map_cons->bV,mem_cons->bG,mem_cons_of_mem->aQ,mem_cons_self->aU,mem_map->bE,mem_of_getElem?->aZ,mem_singleton->aN,nodup_cons->ee,range'->eH
open List.cons renaming injEq->cB
open Nat renaming add_assoc->dG,add_mul->dH,add_zero->dQ,le_refl->aJ,le_trans->cF,lt_of_lt_of_le->cH,mul_le_mul_right->aL,sub_zero->fH,succ_mul->bI,zero_add->dA,zero_mul->ey
open Go.Op renaming operands->bD
open Option renaming bind_eq_some_iff->ek,getD_some->bY,isSome->gS,map_eq_some_iff->aG,map_some->cL
open Option.some renaming injEq->aC
open Prod.mk renaming injEq->aK
open Go.Result renaming andThen_ok->aH
open Go.Sem renaming run_bind->aP,run_pure->bC
namespace Go.Proofs.YtjgpiclllehgmaaGreat
namespace Vm
open Go
def ZD (a b:Nat):Bool:=decide (a=b)
def Z7 (a b:Nat):Bool:=decide (a<=b)
def ltN (a b:Nat):Bool:=decide (a<b)
theorem ZB {a b:Nat} (h:ZD a b=true):a=b:=of_decide_eq_true h
theorem QT {a b:Nat} (h:Z7 a b=true):a<=b:=of_decide_eq_true h
theorem Zaw {a b:Nat} (h:ltN a b=true):a<b:=of_decide_eq_true h
inductive Tk where
 |none|nil|exact|own (id:Nat)|nn
def Tk.ow:Tk->Bool
 |.own _|.nn=>true
 |_=>false
inductive AV where
 |undef
 |bool (b:Unit->Bool)
 |int (k:IntKind) (n:Unit->Int)
 |str (s:Unit->ByteArray)
 |ptr (id off:Nat)
 |nilptr
 |iptr (cells:List AV) (off:Nat)
 |isl (s:Nat) (n:Unit->Int) (f:(Unit->Int)->List AV) (tk:Tk)
 |aptr (id s:Nat) (e:Unit->Int) (off:Nat)
 |msl (id s:Nat) (lo n c:Unit->Int)
 |gsl (id:Nat) (n:Unit->Int)
 |gptr (id s:Nat) (n e:Unit->Int) (off:Nat)
 |nsub (id:Nat) (e l:Unit->Int)
 |nptr (id s:Nat) (e k:Unit->Int) (off:Nat)
 |lit (s:Nat) (cs:List AV)
 |map (id:Nat)
 |mit (id:Nat)
 |cch (c:Nat)
 |imap (ka n:Nat) (L:Unit->List (List Int×List Int))
 |nilmap
 |fn (f:FuncId) (first cap:List AV)
 |yld (id:Nat)
 |nilfn
 |agg (cs:List AV)
 |tup (vs:List AV)
 |gd (g:Unit->Bool) (v:AV)
 |ob (g b:Unit->Bool)
structure Zh6 where
 ps:Array Tmp
 a:Code
 x:Code
 st:LoopState
 pe:Option Code
inductive Gob where
 |chq (c:Nat) (l:Unit->List Bool)
 |mapL (ka n:Nat) (L:Unit->List (List Int×List Int))
 |mapM (ka kb n:Nat) (L:Unit->List (List Int×List (List Int×List Int)))
 |mapIt (ka n:Nat) (L:Unit->List (List Int×List Int)) (seen:Unit->List (List Int)) (cur:Unit->List Int×List Int)
 |any
inductive Zh where
 |cells (cs:List AV)
 |arr (s:Nat) (n:Unit->Int) (f:(Unit->Int)->List AV)
 |tok (s:Nat) (hw:Unit->Int)
 |gar (s:Nat) (n:Unit->Int) (f:(Unit->Int)->List AV)
 |fro (s:Nat) (n:Unit->Int) (f:(Unit->Int)->List AV)
 |vgar (s:Nat) (n:Unit->Int) (f:(Unit->Int)->List AV)
 |fam (z s:Nat) (n:Unit->Int) (m:(Unit->Int)->Unit->Int) (g:(Unit->Int)->(Unit->Int)->List AV)
 |mapB (m:(Unit->Int)->Unit->Bool)
 |loop (s:List AV) (d:Zh6)
 |gob (g:Gob)
 |main
 |dead
structure Loc where
 b:Nat
 o:Nat
structure RC where
 w:World
 m:Nat
 n0:Nat
 α:Nat->Loc
 hw:Nat->Int
 hv:Nat->Value
 ok:Nat->Nat->Nat->Prop
 cx:Option Nat:=none
def Qv:Nat->List Int->List Value
 |0,_=>[]
 |n+1,xs=>.int .i64 (xs.headD 0)::Qv n xs.tail
def Xf:Nat->List Int->Value
 |0,xs=>.int .i64 (xs.headD 0)
 |n+1,xs=>.agg (Qv (n+1) xs).toArray
def ZjX:Nat->Nat
 |0=>1
 |n+1=>n+1
structure Zrf {α:Type} (ka:Nat) (V:α->Value->Prop) (l:List (MapEntry×(List Int×α))) (es:Array MapEntry) (clk:Nat) (L:List (List Int×α)):Prop where
 es:l.map (·.1)=es.toList
 L:(l.map (·.2)).Perm L
 nd:(l.map (·.2.1)).Nodup
 bn:(l.map (·.1.born)).Nodup
 e:∀p∈l,p.1.key=Xf ka p.2.1/\V p.2.2 p.1.val/\p.2.1.length=ZjX ka/\p.1.born<clk
def ZeJ {α:Type} (A:Nat) (V:α->Value->Prop) (es:Array MapEntry) (clk:Nat) (L:List (List Int×α)):Prop:=∃l,Zrf A V l es clk L
inductive PR (w:World) (ok:Nat->Nat->Nat->Prop):AV->Value->Prop where
 |bool (b):PR w ok (.bool b) (.bool (b ()))
 |int (k n):PR w ok (.int k n) (.int k (n ()))
 |str (s):PR w ok (.str s) (.string (s ()))
 |nilptr:PR w ok .nilptr (.pointer none)
 |cch (c):PR w ok (.cch c) (.chan (some c))
 |imap (ka n:Nat) (L:Unit->List (List Int×List Int)) (b:Nat) (es:Array MapEntry) (clk:Nat) (h1:w.heap[b]? =some (.map es clk)) (h2:ZeJ ka (fun xs v=>v=Xf n xs) es clk (L ())) (h3:ok b 0 1):PR w ok (.imap ka n L) (.map (some b))
 |imap0 (ka n:Nat) (L:Unit->List (List Int×List Int)) (h:L ()=[]):PR w ok (.imap ka n L) (.map none)
 |nilmap:PR w ok .nilmap (.map none)
 |nilfn:PR w ok .nilfn .nilFunc
 |iptr (cs:List AV) (off b o:Nat) (us:Nat->Value) (h1:∀j c,cs[j]? =some c->w.cell? ⟨b,o+j,none⟩=some (us j)) (h2:∀j c,cs[j]? =some c->PR w ok c (us j))
   (h3:ok b o cs.length):PR w ok (.iptr cs off) (.pointer (some ⟨b,o+off,none⟩))
 |isl0 (s n f tk) (h:n ()=0) (ht:tk.ow=false):PR w ok (.isl s n f tk) (.slice none 0 0)
 |islE (s n f tk) (a:Addr) (h:n ()=0) (ht:tk= .none\/tk= .exact):PR w ok (.isl s n f tk) (.slice (some a) 0 0)
 |isl (s n f tk b o) (len cap:Nat) (us:Nat->Nat->Value) (hn:n ()=(len:Int)) (hc:len<=cap) (ht:tk= .none\/tk= .exact) (he:tk= .exact->cap=len)
   (hl:∀i:Nat,i<len->(f (fun _=>(i:Int))).length=s)
   (h1:∀i j c,i<len->(f (fun _=>(i:Int)))[j]? =some c->w.cell? ⟨b,o+i*s+j,none⟩=some (us i j))
   (h2:∀i j c,i<len->(f (fun _=>(i:Int)))[j]? =some c->PR w ok c (us i j))
   (h3:ok b o (len*s)):PR w ok (.isl s n f tk) (.slice (some ⟨b,o,none⟩) len cap)
inductive VR (R:RC):AV->Value->Prop where
 |pure (a v) (h:PR R.w R.ok a v):VR R a v
 |undef (v):VR R .undef v
 |ptr (id off) (h:id<R.m):VR R (.ptr id off) (.pointer (some ⟨(R.α id).b,(R.α id).o+off,none⟩))
 |own (s n f id v) (h:id<R.m) (hp:PR R.w R.ok (.isl s n f .none) v) (hn:n ()<=R.hw id) (he:n ()=R.hw id->v=R.hv id):VR R (.isl s n f (.own id)) v
 |nn (s n f v) (hp:PR R.w R.ok (.isl s n f .none) v) (hv:v≠ .slice none 0 0):VR R (.isl s n f .nn) v
 |aptr (id s e off) (i:Nat) (h:id<R.m) (he:e ()=(i:Int)):VR R (.aptr id s e off) (.pointer (some ⟨(R.α id).b,(R.α id).o+i*s+off,none⟩))
 |msl (id s lo n c) (i len cap:Nat) (h:id<R.m) (hlo:lo ()=(i:Int)) (hn:n ()=(len:Int)) (hc:c ()=(cap:Int)) (hle:len<=cap):
   VR R (.msl id s lo n c) (.slice (some ⟨(R.α id).b,(R.α id).o+i*s,none⟩) len cap)
 |gsl (id n a l c) (h:id<R.m) (hn:n ()<=R.hw id) (he:n ()=R.hw id->.slice a l c=R.hv id) (hl:n ()=(l:Int)/\(l=0\/∃b o:Nat,a=some ⟨b,o,none⟩)):VR R (.gsl id n) (.slice a l c)
 |gptr (id s n e off a) (h:id<R.m) (hn:n ()<=R.hw id) (he:n ()=R.hw id->∃(b o i l c:Nat),R.hv id= .slice (some ⟨b,o,none⟩) l c/\e ()=(i:Int)/\a=⟨b,o+i*s+off,none⟩):VR R (.gptr id s n e off) (.pointer (some a))
 |nsub (id e l a ll c) (us:Array Value) (i:Nat) (h:id<R.m) (hv:R.hv id= .tuple us) (he:e ()=(i:Int)) (hu:us[i]? =some (.slice a ll c)) (hl:l ()=(ll:Int)/\(ll=0\/∃b o:Nat,a=some ⟨b,o,none⟩)):VR R (.nsub id e l) (.slice a ll c)
 |nptr (id s e k off) (us:Array Value) (i b o l c j:Nat) (h:id<R.m) (hv:R.hv id= .tuple us) (he:e ()=(i:Int)) (hu:us[i]? =some (.slice (some ⟨b,o,none⟩) l c)) (hk:k ()=(j:Int)):VR R (.nptr id s e k off) (.pointer (some ⟨b,o+j*s+off,none⟩))
 |lit (s cs b o) (us:Nat->Value) (hs:cs.length=s) (h1:∀j c,cs[j]? =some c->R.w.cell? ⟨b,o+j,none⟩=some (us j)) (h2:∀j c,cs[j]? =some c->VR R c (us j)) (h3:R.ok b o s):VR R (.lit s cs) (.slice (some ⟨b,o,none⟩) 1 1)
 |map (id) (h:id<R.m):VR R (.map id) (.map (some (R.α id).b))
 |mit (id) (h:id<R.m) (h0:(R.α id).o=0):VR R (.mit id) (.pointer (some ⟨(R.α id).b,0,none⟩))
 |fn (f) (xs bs:List AV) (us vs:Array Value) (ha:xs.length=us.size) (hb:bs.length=vs.size) (h1:∀j c,xs[j]? =some c->VR R c (us.getD j Go.undef)) (h2:∀j c,bs[j]? =some c->VR R c (vs.getD j Go.undef)):
   VR R (.fn f xs bs) (.func (.func f) us vs)
 |yld (id) (h:id<R.m):VR R (.yld id) (.func (.yield (R.α id).b) #[] #[])
 |agg (cs:List AV) (us:Array Value) (ha:cs.length=us.size) (h:∀j c,cs[j]? =some c->VR R c (us.getD j Go.undef)):VR R (.agg cs) (.agg us)
 |tup (cs:List AV) (us:Array Value) (ha:cs.length=us.size) (h:∀j c,cs[j]? =some c->VR R c (us.getD j Go.undef)):VR R (.tup cs) (.tuple us)
 |gd (g a v) (h:g ()=true->VR R a v):VR R (.gd g a) v
 |ob (g b:Unit->Bool) (v) (h1:g ()=true->v= .bool (b ())) (h2:g ()=false->v=Go.undef):VR R (.ob g b) v
theorem PR.mono {w w':World} {ok S:Nat->Nat->Nat->Prop} {a:AV} {v:Value} (h:PR w ok a v)
  (Y:∀b o n,ok b o n->S b o n) (hc:∀b o n,ok b o n->∀j,j<n->w'.cell? ⟨b,o+j,none⟩=w.cell? ⟨b,o+j,none⟩)
  (hm:∀b,ok b 0 1->∀es A,w.heap[b]? =some (.map es A)->w'.heap[b]? =some (.map es A)):PR w' S a v:=by
 induction h with
 |bool b=>exact .bool b
 |int k n=>exact .int k n
 |str s=>exact .str s
 |nilptr=>exact .nilptr
 |cch c=>exact .cch c
 |imap V n L b es A I h2 G=>exact .imap V n L b es A (hm b G es A I) h2 (Y _ _ _ G)
 |imap0 V n L h=>exact .imap0 V n L h
 |nilmap=>exact .nilmap
 |nilfn=>exact .nilfn
 |iptr cs aa b o us I h2 G U=>
  exact .iptr cs aa b o us (fun j c J=>(hc b o _ G j (aE.1 J).1).trans (I j c J)) U (Y _ _ _ G)
 |isl0 s n f tk h H=>exact .isl0 s n f tk h H
 |islE s n f tk a h H=>exact .islE s n f tk a h H
 |isl s n f tk b o len ac us hn Z H he hl I h2 G U=>
  refine .isl s n f tk b o len ac us hn Z H he hl (fun i j c hi J=>?_) U (Y _ _ _ G);have ae:j<s:=(hl i hi)▸(aE.1 J).1;have ab:i*s+j<len*s:=by
   have:(i+1)*s<=len*s:=aL s hi;rw[bI]at this;omega
  have:=hc b o _ G (i*s+j) ab;rw[show o+i*s+j=o+(i*s+j)from by omega];exact this.trans (by rw[show o+(i*s+j)=o+i*s+j from by omega];exact I i j c hi J)
def Zg6 (v H:Value):Prop:=∀G,v= .tuple G->∃A,H= .tuple A/\∀(i:Nat) (x:Value),G[i]? =some x->A[i]? =some x
theorem Zg6.refl (v:Value):Zg6 v v:=fun A h=>⟨A,h,fun _ _ h=>h⟩
theorem Zg6.trans {a b c:Value} (h:Zg6 a b) (h':Zg6 b c):Zg6 a c:=fun J e=>by
 obtain⟨G,I,k⟩:=h J e;obtain⟨A,H,U⟩:=h' G I;exact⟨A,H,fun i x S=>U i x (k i x S)⟩
theorem Zg6.of {a b:Value} (h:∀A,a≠ .tuple A):Zg6 a b:=fun A e=>absurd e (h A)
structure RC.le (R R':RC):Prop where
 m:R.m<=R'.m
 α:∀id,id<R.m->R'.α id=R.α id
 tk:∀id,id<R.m->R.hw id<=R'.hw id/\(R.hw id=R'.hw id->R'.hv id=R.hv id)
 fm:∀id,id<R.m->Zg6 (R.hv id) (R'.hv id)
 ok:∀b o n,R.ok b o n->R'.ok b o n
 keep:∀b o n,R.ok b o n->∀j,j<n->R'.w.cell? ⟨b,o+j,none⟩=R.w.cell? ⟨b,o+j,none⟩
 keepM:∀b,R.ok b 0 1->∀es clk,R.w.heap[b]? =some (.map es clk)->R'.w.heap[b]? =some (.map es clk)
 cx:R'.cx=R.cx
theorem RC.le.refl (R:RC):R.le R:=⟨aJ _,fun _ _=>rfl,fun _ _=>⟨Int.le_refl _,fun _=>rfl⟩,fun _ _=>.refl _,fun _ _ _ h=>h,fun _ _ _ _ _ _=>rfl,fun _ _ _ _ h=>h,rfl⟩
theorem RC.le.trans {R R' H:RC} (h:R.le R') (h':R'.le H):R.le H:=by
 refine⟨cF h.m h'.m,fun id A=>(h'.α id (cH A h.m)).trans (h.α id A),fun id A=>?_,fun id A=>(h.fm id A).trans (h'.fm id (cH A h.m)),fun b o n G=>h'.ok _ _ _ (h.ok _ _ _ G),fun b o n G j J=>(h'.keep b o n (h.ok _ _ _ G) j J).trans (h.keep b o n G j J),fun b G es I e=>h'.keepM b (h.ok _ _ _ G) es I (h.keepM b G es I e),h'.cx.trans h.cx⟩;obtain⟨U,S⟩:=h.tk id A;obtain⟨V,Y⟩:=h'.tk id (cH A h.m);exact⟨Int.le_trans U V,fun e=>(Y (by omega)).trans (S (by omega))⟩
theorem VR.mono {R R':RC} {a:AV} {v:Value} (h:VR R a v) (hr:R.le R'):VR R' a v:=by
 induction h with
 |pure a v h=>exact .pure a v (h.mono hr.ok hr.keep hr.keepM)
 |undef v=>exact .undef v
 |ptr id A h=>rw[<-hr.α id h];exact .ptr id A (cH h hr.m)
 |own s n f id v h hp Z G=>
  obtain⟨t1,V⟩:=hr.tk id h;exact .own s n f id v (cH h hr.m) (hp.mono hr.ok hr.keep hr.keepM) (by omega) (fun e=>by rw[V (by omega)];exact G (by omega))
 |nn s n f v hp hv=>exact .nn s n f v (hp.mono hr.ok hr.keep hr.keepM) hv
 |aptr id s e A i h G=>rw[<-hr.α id h];exact .aptr id s e A i (cH h hr.m) G
 |msl id s lo n c i len ae h ah Z hc ab=>rw[<-hr.α id h];exact .msl id s lo n c i len ae (cH h hr.m) ah Z hc ab
 |gsl id n a l c h Z G hl=>
  obtain⟨t1,V⟩:=hr.tk id h;exact .gsl id n a l c (cH h hr.m) (by omega) (fun e=>by rw[V (by omega)];exact G (by omega)) hl
 |gptr id s n e A a h Z G=>
  obtain⟨t1,V⟩:=hr.tk id h;exact .gptr id s n e A a (cH h hr.m) (by omega) (fun e=>by rw[V (by omega)];exact G (by omega))
 |nsub id e l a ll c H i h hv G hu hl=>
  obtain⟨U,I,S⟩:=hr.fm id h H hv;exact .nsub id e l a ll c U i (cH h hr.m) I G (S _ _ hu) hl
 |nptr id s e k A H i b o l c j h hv G hu hk=>
  obtain⟨U,I,S⟩:=hr.fm id h H hv;exact .nptr id s e k A U i b o l c j (cH h hr.m) I G (S _ _ hu) hk
 |lit s cs b o H hs I S h3 J=>exact .lit s cs b o H hs (fun j c hj=>(hr.keep b o _ h3 j (hs▸(aE.1 hj).1)).trans (I j c hj)) J (hr.ok _ _ _ h3)
 |map id h=>rw[<-hr.α id h];exact .map id (cH h hr.m)
 |mit id h h0=>rw[<-hr.α id h];exact .mit id (cH h hr.m) ((congrArg Loc.o (hr.α id h)).trans h0)
 |fn f xs bs H vs Y hb I S aa ac=>exact .fn f xs bs H vs Y hb aa ac
 |yld id h=>rw[<-hr.α id h];exact .yld id (cH h hr.m)
 |agg cs H Y h J=>exact .agg cs H Y J
 |tup cs H Y h J=>exact .tup cs H Y J
 |gd g a v h J=>exact .gd g a v J
 |ob g b v I S=>exact .ob g b v I S
def ZdY (v:Value) (b:Nat):Prop:=∃a n c,v= .slice (some a) n c/\0<c/\a.block=b
def Zz (R:RC) (id:Nat):Zh->Nat->Prop
 |.cells _,b|.arr ..,b|.mapB _,b|.loop ..,b|.gob _,b=>(R.α id).b=b
 |.tok ..,b=>∃a n c,R.hv id= .slice (some a) n c/\n<c/\a.block=b
 |.gar ..,b|.vgar ..,b=>∃a n c,R.hv id= .slice (some a) n c/\0<c/\a.block=b
 |.fam ..,b=>∃A,R.hv id= .tuple A/\∃(i:Nat) (v:Value),A[i]? =some v/\ZdY v b
 |.fro ..,_|.dead,_|.main,_=>False
def Qe (R:RC) (id:Nat) (blk:Zh) (b o n:Nat):Prop:=
 match blk with
 |.tok s _=>∀a len A,R.hv id= .slice (some a) len A->len<A->a.block=b->o+n<=a.off+len*s
 |blk=>¬Zz R id blk b
def Zc2 (R:RC) (h:List Zh) (b o n:Nat):Prop:=∀id blk,h[id]? =some blk->Qe R id blk b o n
def ZwY (es:List MapEntry) (m:(Unit->Int)->Unit->Bool):Prop:=
 (∀e∈es,∃x b,e.key= .int .i64 x/\e.val= .bool b)/\
 ∀x:Int,(∀e∈es,e.key≠ .int .i64 x)/\m (fun _=>x) ()=false\/∃(i:Nat) (e:MapEntry),es[i]? =some e/\e.key= .int .i64 x/\e.val= .bool (m (fun _=>x) ())/\∀j A,j<i->es[j]? =some A->A.key≠ .int .i64 x
def ZsN:Obj->Bool
 |.map .. |.chan .. |.mapIter .. =>true
 |_=>false
def SL (R:RC) (s:List AV) (tmps:Array Value):Prop:=tmps.size=s.length/\∀i a,s[i]? =some a->VR R a (tmps.getD i undef)
def JQ (Q:AV->Value->Prop) (w:World) (s:Nat) (n:Unit->Int) (f:(Unit->Int)->List AV) (v:Value):Prop:=(n ()=0/\∃a:Option Addr,v= .slice a 0 0)\/
 ∃(b o len A:Nat) (arr:Array Value) (ty:TypeId),n ()=(len:Int)/\len<=A/\v= .slice (some ⟨b,o,none⟩) len A/\w.heap[b]? =some (.cells arr ty (0,0))/\o+A*s<=arr.size/\
  ∀i:Nat,i<len->(f (fun _=>(i:Int))).length=s/\∀j c,(f (fun _=>(i:Int)))[j]? =some c->Q c (arr.getD (o+i*s+j) undef)
abbrev Zvy (R:RC) (s:Nat) (n:Unit->Int) (f:(Unit->Int)->List AV) (v:Value):Prop:=JQ (VR R) R.w s n f v
abbrev Zvz (R:RC) (s:Nat) (n:Unit->Int) (f:(Unit->Int)->List AV) (v:Value):Prop:=JQ (PR R.w R.ok) R.w s n f v
def Zjg (R:RC) (b:Nat) (o:Obj):Gob->Prop
 |.chq c l=>b=c/\R.cx=some c/\∃s r U,o= .chan 0 ((l ()).map Value.bool).toArray false s r U
 |.mapL H n L=>∃es A,o= .map es A/\ZeJ H (fun J v=>v=Xf n J) es A (L ())
 |.mapM H V n L=>∃es A,o= .map es A/\ZeJ H (fun m v=>PR R.w R.ok (.imap V n fun _=>m) v) es A (L ())
 |.mapIt H n L G S=>(L ()=[]/\G ()=[]/\∃I,o= .mapIter none 0 I 0)\/∃(m:Nat) (es:Array MapEntry) (A:Nat) (I:Array Nat) (l:List (MapEntry×(List Int×List Int))),o= .mapIter (some m) A I A/\R.w.heap[m]? =some (.map es A)/\R.ok m 0 1/\Zrf H (fun J v=>v=Xf n J) l es A (L ())/\
   (∀p∈l,I.contains p.1.born=(G ()).contains p.2.1)/\(G ()≠ []->∃p∈l,I.back?=some p.1.born/\p.2=S ())
 |.any=>True
theorem Zjg.mono {R R':RC} {b:Nat} {o:Obj} {g:Gob} (h:Zjg R b o g) (hr:R.le R'):Zjg R' b o g:=by
 cases g with
 |chq c l=>exact⟨h.1,hr.cx.trans h.2.1,h.2.2⟩
 |mapL V n L=>exact h
 |mapM V kb n L=>
  obtain⟨es,A,e,l,S,I,G,U,J⟩:=h;exact⟨es,A,e,l,S,I,G,U,fun p H=>⟨(J p H).1,(J p H).2.1.mono hr.ok hr.keep hr.keepM,(J p H).2.2⟩⟩
 |mapIt V n L Z aa=>
  rcases h with h|⟨m,es,A,Y,l,S,I,G,U⟩
  ·exact .inl h
  exact .inr ⟨m,es,A,Y,l,S,hr.keepM m G es A I,hr.ok _ _ _ G,U⟩
 |any=>trivial
theorem Zjg.tr {R R':RC} {b:Nat} {o:Obj} {g:Gob} (h:Zjg R b o g) (hw:R'.w=R.w) (G:∀b o n,R.ok b o n->R'.ok b o n) (Z:R'.cx=R.cx):Zjg R' b o g:=by
 cases g with
 |chq c l=>exact⟨h.1,Z.trans h.2.1,h.2.2⟩
 |mapL Y n L=>exact h
 |mapM Y kb n L=>
  obtain⟨es,A,e,l,U,J,I,V,S⟩:=h;exact⟨es,A,e,l,U,J,I,V,fun p H=>⟨(S p H).1,(S p H).2.1.mono G (fun _ _ _ _ _ _=>by rw[hw]) (fun _ _ _ _ h=>by rw[hw];exact h),(S p H).2.2⟩⟩
 |mapIt Y n L aa ab=>
  rcases h with h|⟨m,es,A,sn,l,U,J,I,V⟩
  ·exact .inl h
  exact .inr ⟨m,es,A,sn,l,U,by rw[hw];exact J,G _ _ _ I,V⟩
 |any=>trivial
def BR (R:RC) (id:Nat):Zh->Prop
 |.cells cs=>∃arr ty,R.w.heap[(R.α id).b]? =some (.cells arr ty (0,0))/\(R.α id).o+cs.length<=arr.size/\
   ∀j c,cs[j]? =some c->VR R c (arr.getD ((R.α id).o+j) undef)
 |.arr s n f=>∃arr ty,∃len:Nat,R.w.heap[(R.α id).b]? =some (.cells arr ty (0,0))/\n ()=(len:Int)/\(R.α id).o+len*s<=arr.size/\
   ∀i:Nat,i<len->(f (fun _=>(i:Int))).length=s/\∀j c,(f (fun _=>(i:Int)))[j]? =some c->PR R.w R.ok c (arr.getD ((R.α id).o+i*s+j) undef)
 |.tok s hw=>R.hw id=hw ()/\((hw ()=0/\∃a:Option Addr,R.hv id= .slice a 0 0)\/
   ∃(b o len A:Nat),hw ()=(len:Int)/\len<=A/\R.hv id= .slice (some ⟨b,o,none⟩) len A/\
    (len<A->∃(arr:Array Value) (ty:TypeId),R.w.heap[b]? =some (.cells arr ty (0,0))/\o+A*s<=arr.size))
 |.gar s n f=>R.hw id=n ()/\((n ()=0/\∃a:Option Addr,R.hv id= .slice a 0 0)\/
   ∃(b o len A:Nat) (arr:Array Value) (ty:TypeId),n ()=(len:Int)/\len<=A/\R.hv id= .slice (some ⟨b,o,none⟩) len A/\R.w.heap[b]? =some (.cells arr ty (0,0))/\o+A*s<=arr.size/\
    ∀i:Nat,i<len->(f (fun _=>(i:Int))).length=s/\∀j c,(f (fun _=>(i:Int)))[j]? =some c->PR R.w R.ok c (arr.getD (o+i*s+j) undef))
 |.vgar s n f=>R.hw id=n ()/\Zvy R s n f (R.hv id)
 |.fam z s n m g=>R.n0<=z/\R.hw id=n ()/\∃G:Array Value,R.hv id= .tuple G/\n ()=(G.size:Int)/\(∀(i:Nat) (v:Value),G[i]? =some v->Zvz R s (m fun _=>(i:Int)) (g fun _=>(i:Int)) v)/\
   ∀(i j:Nat) (v I:Value) (b:Nat),i≠j->G[i]? =some v->G[j]? =some I->ZdY v b->¬ZdY I b
 |.fro s n f=>R.hw id=n ()/\PR R.w R.ok (.isl s n f .none) (R.hv id)
 |.mapB m=>∃es H,R.w.heap[(R.α id).b]? =some (.map es H)/\ZwY es.toList m
 |.loop s d=>∃l,R.w.heap[(R.α id).b]? =some (.loop l)/\l.params=d.ps/\l.assign=d.a/\l.body=d.x/\l.state=d.st/\l.pending=d.pe/\SL R s l.tmps
 |.gob g=>∃o,R.w.heap[(R.α id).b]? =some o/\ZsN o=true/\Zjg R (R.α id).b o g
 |.main=>R.cx=none
 |.dead=>True
def Zar:Zh->Bool
 |.tok .. |.gar .. |.vgar .. |.fam .. =>true
 |_=>false
structure HR (G:Nat->Nat->Nat->Prop) (R:RC) (h:List Zh):Prop where
 len:h.length=R.m
 okd:∀b o n,R.ok b o n↔b<R.w.heap.size/\G b o n/\Zc2 R h b o n
 blk:∀id blk,h[id]? =some blk->BR R id blk
 dis:∀i j bi bj b,i≠j->h[i]? =some bi->h[j]? =some bj->Zz R i bi b->¬Zz R j bj b
 cl:∀b o n o' n',G b o n->o<=o'->o'+n'<=o+n->G b o' n'
 fresh:∀b o n,R.w.heap.size<=b->G b o n
 tokG:∀id blk b,h[id]? =some blk->Zar blk=true->Zz R id blk b->∀o n,G b o n
 n0m:R.n0<=R.m
structure Xd (R:RC) (h:List Zh) (R':RC) (h':List Zh):Prop where
 n0:R'.n0=R.n0
 os:R'.w.os=R.w.os
 tape:R'.w.tape=R.w.tape
 output:R'.w.output=R.w.output
 size:R.w.heap.size<=R'.w.heap.size
 m:R.m<=R'.m
 α:∀id,id<R.m->R'.α id=R.α id
 ok:∀b o n,R.ok b o n->R'.ok b o n
 keep:∀b o n,R.ok b o n->∀j,j<n->R'.w.cell? ⟨b,o+j,none⟩=R.w.cell? ⟨b,o+j,none⟩
 frame:∀b,b<R.w.heap.size->(∀id blk,h[id]? =some blk->¬Zz R id blk b)->R'.w.heap[b]? =R.w.heap[b]?
 own:∀id blk b,h'[id]? =some blk->Zz R' id blk b->R.w.heap.size<=b\/∃id₁ blk₁,h[id₁]? =some blk₁/\Zz R id₁ blk₁ b/\(id₁=id\/R.n0<=id₁)
theorem Xd.refl (R:RC) (h:List Zh):Xd R h R h:=
 ⟨rfl,rfl,rfl,rfl,aJ _,aJ _,fun _ _=>rfl,fun _ _ _ k=>k,fun _ _ _ _ _ _=>rfl,fun _ _ _=>rfl,fun id blk b G A=>.inr ⟨id,blk,G,A,.inl rfl⟩⟩
theorem Xd.trans {R R' H:RC} {h h' I:List Zh} (x:Xd R h R' h') (y:Xd R' h' H I):Xd R h H I:=by
 have e:=x.n0
 refine⟨y.n0.trans x.n0,y.os.trans x.os,y.tape.trans x.tape,y.output.trans x.output,cF x.size y.size,cF x.m y.m,fun id G=>(y.α id (cH G x.m)).trans (x.α id G),
  fun b o n k=>y.ok _ _ _ (x.ok _ _ _ k),fun b o n k j hj=>(y.keep b o n (x.ok _ _ _ k) j hj).trans (x.keep b o n k j hj),fun b hb Z=>?_,fun id blk b G V=>?_⟩
 ·refine(y.frame b (cH hb x.size) (fun id blk G V=>?_)).trans (x.frame b hb Z);rcases x.own id blk b G V with A|⟨Y,J,A,U,_⟩
  ·omega
  exact Z Y J A U
 rcases y.own id blk b G V with A|⟨Y,J,A,U,h3⟩
 ·exact .inl (cF x.size A)
 rcases x.own Y J b A U with S|⟨i2,b2,S,h5,h6⟩
 ·exact .inl S
 refine .inr ⟨i2,b2,S,h5,?_⟩;omega
def Gof (R:RC) (h:List Zh):Nat->Nat->Nat->Prop:=fun b o n=>R.ok b o n\/R.w.heap.size<=b\/∃id blk,h[id]? =some blk/\Zar blk=true/\Zz R id blk b
theorem SL.mono {R R':RC} {s:List AV} {tmps:Array Value} (h:SL R s tmps) (hr:R.le R'):SL R' s tmps:=⟨h.1,fun i a A=>(h.2 i a A).mono hr⟩
theorem SL.getD {R:RC} {s:List AV} {tmps:Array Value} (h:SL R s tmps) (i:Nat):VR R (s.getD i .undef) (tmps.getD i undef):=by
 by_cases hi:i<s.length
 ·have:=h.2 i s[i] (aD hi);rw[aA,aD hi];exact this
 rw[aA,List.getElem?_eq_none (by omega)];exact .undef _
theorem SL.set {R:RC} {s:List AV} {tmps:Array Value} (h:SL R s tmps) {a:AV} {v:Value} (hv:VR R a v) (d:Nat):SL R (s.set d a) (tmps.setIfInBounds d v):=by
 refine⟨by simp[h.1],fun i x A=>?_⟩;rw[bP]at A;rw[aI,bR];by_cases e:d=i
 ·subst e;simp only[if_true]at A|-;split at A
  ·rename_i G;rw[if_pos (by rw[h.1];exact G)];simp only[aC]at A;subst A;exact hv
  cases A
 rw[if_neg e]at A|-;rw[<-aI];exact h.2 i x A
theorem HR.sub {G:Nat->Nat->Nat->Prop} {R:RC} {h:List Zh} (H:HR G R h) {b o n A I:Nat} (Z:R.ok b o n) (h1:o<=A) (h2:A+I<=o+n):R.ok b A I:=by
 obtain⟨Y,hg,ha⟩:=(H.okd _ _ _).1 Z;refine(H.okd _ _ _).2 ⟨Y,H.cl _ _ _ _ _ hg h1 h2,fun id blk U=>?_⟩;have:=ha id blk U;cases blk with
 |tok s hw=>exact fun a len S hv V J=>by have:=this a len S hv V J;omega
 |_=>exact this
theorem HR.entry {G:Nat->Nat->Nat->Prop} {R:RC} {h:List Zh} (H:HR G R h):HR (Gof R h) R h:=by
 refine⟨H.len,fun b o n=>⟨fun k=>⟨((H.okd _ _ _).1 k).1,.inl k,((H.okd _ _ _).1 k).2.2⟩,fun⟨U,A,h3⟩=>?_⟩,H.blk,H.dis,fun b o n Y V k U A=>?_,fun _ _ _ h=>.inr (.inl h),fun id blk b S I J o n=>.inr (.inr ⟨id,blk,S,I,J⟩),H.n0m⟩
 ·rcases A with A|A|⟨id,blk,S,I,J⟩
  ·exact A
  ·omega
  exact(H.okd _ _ _).2 ⟨U,H.tokG id blk b S I J o n,h3⟩
 rcases k with k|k|k
 ·exact .inl (H.sub k U A)
 ·exact .inr (.inl k)
 exact .inr (.inr k)
structure Imp (v w:AV):Prop where
 f:∀(R:RC) (u:Value),VR R v u->VR R w u
theorem Imp.refl (v:AV):Imp v v:=⟨fun _ _ h=>h⟩
inductive Cn where
 |d (P:Unit->Prop) (b:Unit->Bool) (ok:b ()=true->P ())
 |e (v w:Unit->AV)
 |i (g:Unit->Bool) (x:Cn)
def Cn.p:Cn->Prop
 |.d P _ _=>P ()
 |.e v w=>v ()=w ()\/Imp (v ()) (w ())
 |.i g x=>g ()=true->x.p
abbrev dd (P:Unit->Prop) [i:∀u,Decidable (P u)]:Cn:=.d P (fun u=>decide (P u)) of_decide_eq_true
abbrev Cd:=List Cn
def ZT (c:Cd):Prop:=∀x∈c,x.p
theorem Cn.out {P:Unit->Prop} {b:Unit->Bool} {ok:b ()=true->P ()} (h:(Cn.d P b ok).p):P ():=h
theorem Yb:ZT []:=fun _ h=>by cases h
theorem Z1 {a b:Cd} (h:ZT (a++b)):ZT a/\ZT b:=⟨fun p A=>h p (List.mem_append_left _ A),fun p A=>h p (List.mem_append_right _ A)⟩
inductive TK where
 |struct (fs:List (Option (Nat×Nat×Bool)))
 |array (n esz:Nat)
 |slice (e:TypeId) (esz eb:Nat)
 |int (k:IntKind)
 |string|bool|ptr|map|func|other
structure TI where
 k:TK
 agg:Bool
 size:Nat
 bytes:Nat
 zero:Option Value
def ZbC:TypeDesc->Bool
 |.struct _|.array _ _=>true
 |_=>false
def Zbx (P:Program) (f:Field):Option (Nat×Nat×Bool):=
 match P.info? f.type,P.underlying f.type with
 |some i,some d=>some (f.offset,i.size,ZbC d)
 |_,_=>none
def ZC (P:Program) (t:TypeId):Option TI:=
 match P.info? t,P.underlying t with
 |some i,some d=>some {size:=i.size,bytes:=i.bytes,zero:=i.zero,agg:=ZbC d,k:=match d with
   |.struct A=>.struct (A.toList.map (Zbx P))
   |.array n e=>(match P.info? e with
    |some j=>.array n j.size
    |none=>.other)
   |.slice e=>(match P.info? e with
    |some j=>.slice e j.size j.bytes
    |none=>.other)
   |.int k=>.int k
   |.string=>.string
   |.bool=>.bool
   |.pointer _=>.ptr
   |.map _ _=>.map
   |.func .. =>.func
   |_=>.other}
 |_,_=>none
def Zbj:Value->AV
 |.bool b=>.bool (fun _=>b)
 |.int k n=>.int k (fun _=>n)
 |.string s=>.str (fun _=>s)
 |.pointer none=>.nilptr
 |.slice none 0 0=>.isl 0 (fun _=>0) (fun _=>[]) .nil
 |.map none=>.nilmap
 |.nilFunc=>.nilfn
 |_=>.undef
def Xy:Value->AV
 |.agg cs=>.agg (cs.toList.map Zbj)
 |v=>Zbj v
def ev (s:List AV):Operand->AV
 |.tmp t=>s.getD t .undef
 |.const v=>Xy v
 |.func f=>.fn f [] []
 |.global _=>.undef
def strip:AV->AV
 |.gd _ v=>v
 |.ob _ b=>.bool b
 |v=>v
def Zas:AV->Cd
 |.gd g _=>[dd fun _=>g ()=true]
 |.ob g _=>[dd fun _=>g ()=true]
 |_=>[]
def Zfl (k:IntKind) (n:Unit->Int):AV×Cd:=match k with
 |.i64=>(.int .i64 n,[dd fun _=>-9223372036854775808<=n ()/\n ()<=9223372036854775807])
 |k=>(.int k (fun _=>k.wrap (n ())),[])
def Ztc (op:BinOp) (k:IntKind) (a b:Unit->Int):Option (AV×Cd):=match op with
 |.add=>some (Zfl k fun _=>a ()+b ())
 |.sub=>some (Zfl k fun _=>a ()-b ())
 |.mul=>some (Zfl k fun _=>a ()*b ())
 |.lss=>some (.bool (fun _=>decide (a ()<b ())),[])
 |.leq=>some (.bool (fun _=>decide (a ()<=b ())),[])
 |.gtr=>some (.bool (fun _=>decide (a ()>b ())),[])
 |.geq=>some (.bool (fun _=>decide (a ()≥b ())),[])
 |.eql=>some (.bool (fun _=>a ()==b ()),[])
 |.neq=>some (.bool (fun _=>a () !=b ()),[])
 |.quo=>some ((Zfl k fun _=>(a ()).tdiv (b ())).1,dd (fun _=>b ()≠0)::(Zfl k fun _=>(a ()).tdiv (b ())).2)
 |.rem=>some (.int k (fun _=>(a ()).tmod (b ())),[dd fun _=>b ()≠0])
 |.and=>some (.int k (fun _=>k.wrap (BitVec.ofInt k.bits (a ())&&&BitVec.ofInt k.bits (b ())).toNat),[])
 |.or=>some (.int k (fun _=>k.wrap (BitVec.ofInt k.bits (a ())|||BitVec.ofInt k.bits (b ())).toNat),[])
 |.xor=>some (.int k (fun _=>k.wrap (BitVec.ofInt k.bits (a ())^^^BitVec.ofInt k.bits (b ())).toNat),[])
 |_=>none
def Zil (op:BinOp) (k:IntKind) (a b:Unit->Int):Option (AV×Cd):=match op with
 |.shr=>some (.int k (fun _=>(a ()).fdiv (2^ min (b ()).toNat k.bits)),[dd fun _=>0<=b ()])
 |.shl=>some (.int k (fun _=>k.wrap (a ()*2^ min (b ()).toNat k.bits)),[dd fun _=>0<=b ()])
 |_=>none
theorem ZbP (n:Int) (h:-9223372036854775808<=n/\n<=9223372036854775807):IntKind.i64.wrap n=n:=by
 rw[IntKind.wrap_i64];omega
theorem Zcx {R:RC} (k:IntKind) (n:Unit->Int) (h:ZT (Zfl k n).2):VR R (Zfl k n).1 (.int k (k.wrap (n ()))):=by
 unfold Zfl at*;cases k with
 |i64=>have:=Cn.out (h _ (aN.2 rfl));rw[ZbP _ this];exact .pure _ _ (.int _ _)
 |_=>exact .pure _ _ (.int _ (fun _=>_))
section
variable {P:Program} {w:World}
theorem Xu {t:TypeId} {T:TI} (h:ZC P t=some T):∃i d,P.info? t=some i/\P.underlying t=some d/\T.size=i.size/\T.bytes=i.bytes/\T.zero=i.zero/\T.agg=ZbC d:=by
 unfold ZC at h;split at h
 ·rename_i i d G A;simp only[aC]at h;subst h;exact⟨i,d,G,A,rfl,rfl,rfl,rfl⟩
 cases h
theorem Jo {t:TypeId} {T:TI} {e:TypeId} {s b:Nat} (h:ZC P t=some T) (A:T.k= .slice e s b):
  ∃j,P.underlying t=some (.slice e)/\P.info? e=some j/\j.size=s/\j.bytes=b:=by
 unfold ZC at h;split at h
 ·rename_i i d H G;simp only[aC]at h;subst h;cases d<;>simp only[]at A<;>try (cases A;done)
  all_goals (split at A<;>simp_all)
 cases h
theorem Zjq {t:TypeId} {T:TI} {n s:Nat} (h:ZC P t=some T) (A:T.k= .array n s):
  ∃e j,P.underlying t=some (.array n e)/\P.info? e=some j/\j.size=s:=by
 unfold ZC at h;split at h
 ·rename_i i d H G;simp only[aC]at h;subst h;cases d<;>simp only[]at A<;>try (cases A;done)
  all_goals (split at A<;>simp_all)
 cases h
theorem Zcq {t:TypeId} {T:TI} {l:List (Option (Nat×Nat×Bool))} (h:ZC P t=some T) (A:T.k= .struct l):
  ∃G,P.underlying t=some (.struct G)/\l=G.toList.map (Zbx P):=by
 unfold ZC at h;split at h
 ·rename_i i d I H;simp only[aC]at h;subst h;cases d<;>simp only[]at A<;>try (cases A;done)
  all_goals first
   |(simp only[TK.struct.injEq]at A;exact⟨_,H,A.symm⟩)
   |(split at A<;>simp_all)
 cases h
theorem ZoN {t:TypeId} {T:TI} {k:IntKind} (h:ZC P t=some T) (A:T.k= .int k):P.underlying t=some (.int k):=by
 unfold ZC at h;split at h
 ·rename_i i d H G;simp only[aC]at h;subst h;cases d<;>simp only[]at A<;>try (cases A;done)
  all_goals first
   |(simp only[TK.int.injEq]at A;rw[G,A])
   |(split at A<;>simp_all)
 cases h
theorem Zci {f:Field} {o s:Nat} {g:Bool} (h:Zbx P f=some (o,s,g)):∃i d,P.info? f.type=some i/\P.underlying f.type=some d/\f.offset=o/\i.size=s/\ZbC d=g:=by
 unfold Zbx at h;split at h
 ·rename_i i d G A;simp only[aC,aK]at h;exact⟨i,d,G,A,h.1,h.2.1,h.2.2⟩
 cases h
theorem Xh {t:TypeId} {i:TypeInfo} (h:P.info? t=some i):(typeInfo t).run P w= .ok i w:=by
 simp[typeInfo,h]
theorem Zu {t:TypeId} {d:TypeDesc} (h:P.underlying t=some d):(underlying t).run P w= .ok d w:=by
 simp[underlying,h]
theorem Z0 {t:TypeId} {i:TypeInfo} (h:P.info? t=some i):(sizeOf t).run P w= .ok i.size w:=by
 simp[sizeOf,Xh h]
theorem ZaK {t:TypeId} {d:TypeDesc} (h:P.underlying t=some d):(isAgg t).run P w= .ok (ZbC d) w:=by
 cases d<;>simp[isAgg,Zu h,ZbC]
theorem Qx (b o i:Nat):(⟨b,o,none⟩:Addr).add i=⟨b,o+i,none⟩:=by
 unfold Addr.add;split
 ·rename_i h;subst h;rfl
 rfl
theorem ZeX {t:TypeId} {T:TI} (h:ZC P t=some T) (b o:Nat) (us:Nat->Value)
  (A:∀j,j<(if T.agg then T.size else 1)->w.cell? ⟨b,o+j,none⟩=some (us j)):
  (loadVar t ⟨b,o,none⟩).run P w= .ok (if T.agg then .agg ((List.range T.size).map us).toArray else us 0) w:=by
 obtain⟨i,d,I,S,G,_,_,U⟩:=Xu h;unfold loadVar;simp only[aP,ZaK S,aH];rw[<-U];cases hg:T.agg
 ·rw[hg]at A;have:=A 0 (by simp);rw[dQ]at this;simp[this]
 rw[hg]at A;simp only[if_true,aP,Z0 I,aH,<-G];have H:=run_loadCells (P:=P) w ⟨b,o,none⟩ T.size us (fun j J=>by rw[Qx];exact A j (by simpa using J));simp only[H,aH,bC]
end
end Vm
namespace Vm
open Go
def ZcU (T:TI) (cs:List AV) (off:Nat):Option AV:=
 if T.agg then(if Z7 (off+T.size) cs.length then some (.agg ((cs.drop off).take T.size))else none)else cs[off]?
def pos (b:Bool):Option Unit:=if b then some ()else none
def Jm (h:List Zh) (id:Nat):Option (List AV):=match h[id]? with
 |some (.cells cs)=>some cs
 |_=>none
def Zk1:List (Unit->Int)->Int->Int
 |[],_=>0
 |a::r,e=>if e=0 then a ()else Zk1 r (e-1)
def Zjw:List (Unit->Bool)->Int->Bool
 |[],_=>false
 |a::r,e=>if e=0 then a ()else Zjw r (e-1)
def ZhK:List AV->Option (List (Unit->Int))
 |[]=>some []
 |.int .i64 a::r=>(match ZhK r with
  |some l=>some (a::l)
  |none=>none)
 |_=>none
def ZeC:List AV->Option (List (Unit->Bool))
 |[]=>some []
 |.bool a::r=>(match ZeC r with
  |some l=>some (a::l)
  |none=>none)
 |_=>none
def Zm8 (cs:List AV) (e:Unit->Int):Option AV:=match ZhK cs with
 |some l=>some (.int .i64 fun _=>Zk1 l (e ()))
 |none=>(match ZeC cs with
  |some l=>some (.bool fun _=>Zjw l (e ()))
  |none=>none)
def bnd (e:Unit->Int) (n:Nat):Cd:=[dd fun _=>0<=e ()/\e ()<(n:Int)]
def ZhJ (T:TI) (h:List Zh):AV->Option (AV×Cd)
 |.ptr id A=>(match Jm h id with
  |some cs=>(ZcU T cs A).map (·,[])
  |none=>none)
 |.iptr cs A=>(ZcU T cs A).map (·,[])
 |.aptr id s e A=>(match h[id]? with
  |some (.arr s' n f)=>if ZD s s' then(ZcU T (f e) A).map (·,[dd fun _=>0<=e ()/\e ()<n ()])else none
  |some (.cells cs)=>if ZD s 1&&ZD A 0&& !T.agg then(match Zm8 cs e with
   |some v=>some (v,bnd e cs.length)
   |none=>none)else none
  |_=>none)
 |.gptr id s n e A=>(match h[id]? with
  |some (.gar s' m f)=>if ZD s s' then(ZcU T (f e) A).map (·,[dd fun _=>n ()=m ()/\0<=e ()/\e ()<m ()])else none
  |some (.vgar s' m f)=>if ZD s s' then(ZcU T (f e) A).map (·,[dd fun _=>n ()=m ()/\0<=e ()/\e ()<m ()])else none
  |_=>none)
 |.nptr id s e k A=>(match h[id]? with
  |some (.fam _ s' n m g)=>if ZD s s' then(ZcU T (g e k) A).map (·,[dd fun _=>0<=e ()/\e ()<n ()/\0<=k ()/\k ()<m e ()])else none
  |_=>none)
 |_=>none
def Jc (T:TI) (x:AV) (i:Nat):Option (AV×Cd):=
 match T.k with
 |.struct A=>(match A[i]? with
  |some (some (off,sz,_))=>if ZD sz 0 then none else(match x with
   |.ptr id o=>some (.ptr id (o+off),[])
   |.iptr cs o=>some (.iptr cs (o+off),[])
   |.aptr id s e o=>some (.aptr id s e (o+off),[])
   |.gptr id s n e o=>some (.gptr id s n e (o+off),[])
   |.nptr id s e k o=>some (.nptr id s e k (o+off),[])
   |_=>none)
  |_=>none)
 |_=>none
def J6 (T:TI) (x i:AV):Option (AV×Cd):=
 match i with
 |.int _ e=>(match T.k with
  |.slice _ A _=>(match x with
   |.isl s n f _=>if ZD s A then some (.iptr (f e) 0,[dd fun _=>0<=e ()/\e ()<n ()])else none
   |.msl id s lo n _=>if ZD s A then some (.aptr id s (fun _=>lo ()+e ()) 0,[dd fun _=>0<=e ()/\e ()<n ()])else none
   |.gsl id n=>some (.gptr id A n e 0,[dd fun _=>0<=e ()/\e ()<n ()])
   |.nsub id a l=>some (.nptr id A a e 0,[dd fun _=>0<=e ()/\e ()<l ()])
   |_=>none)
  |.array n A=>(match x with
   |.ptr id G=>some (.aptr id A e G,bnd e n)
   |_=>none)
  |_=>none)
 |_=>none
def Zes (P:Program) (rec:TypeId->Nat->Bool):List Field->Nat->Nat->Bool
 |[],_,s=>ZD s 0
 |f::fs,off,s=>f.name != "_" &&ZD f.offset off&&(match P.info? f.type with
  |some i=>Z7 i.size s&&rec f.type i.size&&Zes P rec fs (off+i.size) (s-i.size)
  |none=>false)
def XU (P:Program):Nat->TypeId->Nat->Bool
 |0,_,_=>false
 |d+1,t,s=>(match P.underlying t with
  |some (.int _)=>ZD s 1
  |some (.struct fs)=> !P.stoodInHeld t&&Zes P (XU P d) fs.toList 0 s
  |some (.array n e)=>(match P.info? e with
   |some i=>ZD (n*i.size) s&&XU P d e i.size
   |none=>false)
  |_=>false)
def J5:IntKind->IntKind->Bool
 |.i8,.i8|.i16,.i16|.i32,.i32|.i64,.i64|.u8,.u8|.u16,.u16|.u32,.u32|.u64,.u64=>true
 |_,_=>false
theorem Zej {j k:IntKind} (h:J5 j k=true):j=k:=by
 cases j<;>cases k<;>first|rfl|cases h
def ZK:List AV->List AV->Option (Unit->Bool)
 |[],[]=>some fun _=>true
 |.int j a::r,.int k b::s=>if J5 j k then(ZK r s).map fun g=>fun _=>a ()==b ()&&g ()else none
 |_,_=>none
def Zgq (k:IntKind) (A:Bool):List AV->(Unit->Int)->Option (AV×Cd)
 |[],x=>some (.int k x,[])
 |.int _ y::r,x=>Zgq k A r (if A then fun _=>if y ()>x ()then y ()else x ()else fun _=>if y ()<x ()then y ()else x ())
 |_,_=>none
def AV.cellsOf:AV->List AV
 |.agg cs=>cs
 |v=>[v]
def putC (z:List AV) (off:Nat):List AV->List AV
 |[]=>z
 |v::r=>putC (z.set off v) (off+1) r
def Zdh (A:List (Option (Nat×Nat×Bool))) (E:Operand->AV) (z:List AV):List (Nat×Operand)->Option (List AV)
 |[]=>some z
 |(i,x)::r=>(match A[i]? with
  |some (some (off,sz,_))=>if ZD (E x).cellsOf.length sz&&Z7 (off+sz) z.length then Zdh A E (putC z off (E x).cellsOf) r else none
  |_=>none)
def Zmx (t:Unit->Bool) (a b:AV):Option (AV×Cd):=match a,b with
 |.bool x,.bool y=>some (.bool (fun _=>bif t ()then x ()else y ()),[])
 |.gd g (.bool x),.bool y=>some (.bool (fun _=>bif t ()then x ()else y ()),[dd fun _=>t ()=true->g ()=true])
 |.bool x,.gd g (.bool y)=>some (.bool (fun _=>bif t ()then x ()else y ()),[dd fun _=>t ()=false->g ()=true])
 |.ob g x,.bool y=>some (.bool (fun _=>bif t ()then x ()else y ()),[dd fun _=>t ()=true->g ()=true])
 |.bool x,.ob g y=>some (.bool (fun _=>bif t ()then x ()else y ()),[dd fun _=>t ()=false->g ()=true])
 |.bool x,.undef=>some (.bool x,[dd fun _=>t ()=true])
 |.undef,.bool y=>some (.bool y,[dd fun _=>t ()=false])
 |_,_=>none
def Zmy (c a b:AV):Option (AV×Cd):=match c with
 |.bool t=>Zmx t a b
 |.ob g t=>(match Zmx t a b with
  |some (v,cd)=>some (v,dd (fun _=>g ()=true)::cd)
  |none=>none)
 |_=>none
def Zfv (T:TI) (x:AV) (lo hi A:Option AV):Option (AV×Cd):=
 match T.k,x with
 |.slice _ esz _,.isl s n f _=>if !ZD s esz then none else(match lo,hi,A with
  |none,none,none=>some (.isl s n f .none,[])
  |some (.int _ l),none,none=>some (.isl s (fun _=>n ()-l ()) (fun e=>f (fun _=>e ()+l ())) .none,[dd fun _=>0<=l ()/\l ()<=n ()])
  |none,some (.int _ h),none=>some (.isl s h f .none,[dd fun _=>0<=h ()/\h ()<=n ()])
  |some (.int _ l),some (.int _ h),none=>some (.isl s (fun _=>h ()-l ()) (fun e=>f (fun _=>e ()+l ())) .none,[dd fun _=>0<=l ()/\l ()<=h ()/\h ()<=n ()])
  |none,some (.int _ h),some (.int _ m)=>some (.isl s h f .exact,[dd fun _=>0<=h ()/\h ()=m ()/\h ()<=n ()])
  |_,_,_=>none)
 |.slice _ esz _,.msl id s o n c=>if !ZD s esz then none else(match lo,hi,A with
  |some (.int _ l),none,none=>some (.msl id s (fun _=>o ()+l ()) (fun _=>n ()-l ()) (fun _=>c ()-l ()),[dd fun _=>0<=l ()/\l ()<=n ()/\(l ()=0\/l ()<c ())])
  |none,some (.int _ h),none=>some (.msl id s o h c,[dd fun _=>0<=h ()/\h ()<=n ()])
  |_,_,_=>none)
 |.array n esz,.ptr id off=>(match lo,hi,A with
  |none,none,none=>if ltN 0 esz&&ZD (off/esz*esz) off then some (.msl id esz (fun _=>((off/esz:Nat):Int)) (fun _=>(n:Int)) (fun _=>(n:Int)),[])else none
  |_,_,_=>none)
 |_,_=>none
def zb:Option AV->Option Cd
 |none=>some []
 |some (.int _ l)=>some [dd fun _=>l ()=0]
 |_=>none
def ZfR (T:TI) (x:AV) (lo hi A:Option AV):Option (AV×Cd):=match T.k,x with
 |.slice e esz b,.isl s n f .nil=>if ZD s esz then Zfv T x lo hi A else(match zb lo,zb hi,zb A with
  |some a,some b,some c=>if A.isNone||hi.isSome then some (.isl s n f .nil,a++(b++c))else none
  |_,_,_=>none)
 |_,_=>Zfv T x lo hi A
def plain:AV->Bool
 |.gd _ _|.ob _ _|.undef=>false
 |_=>true
def Zeg:Operand->Bool
 |.const (.slice none 0 0)=>true
 |_=>false
def Zdb (op:BinOp):AV->Option (AV×Cd)
 |.isl _ _ _ .nil=>(match op with
  |.eql=>some (.bool (fun _=>true),[])
  |.neq=>some (.bool (fun _=>false),[])
  |_=>none)
 |.isl _ _ _ .nn=>(match op with
  |.eql=>some (.bool (fun _=>false),[])
  |.neq=>some (.bool (fun _=>true),[])
  |_=>none)
 |.isl _ n _ _=>(match op with
  |.eql=>some (.bool (fun _=>false),[dd fun _=>0<n ()])
  |.neq=>some (.bool (fun _=>true),[dd fun _=>0<n ()])
  |_=>none)
 |_=>none
def J9 (P:Program) (t:TypeId) (n:Nat):Bool:=XU P 5 t n&& !P.eqGuardType P.depth t&&(match P.underlying t with
 |some d=>ZbC d
 |none=>false)
def ZeD (P:Program) (op:BinOp) (t:TypeId) (A:Bool) (x y:AV):Option (AV×Cd):=
 if A then(match P.underlying t with
  |some (.slice _)=>Zdb op x
  |_=>none)
 else match x,y with
  |.int k a,.int k' b=>(match op with
   |.shl|.shr=>Zil op k a b
   |_=>if J5 k k' then Ztc op k a b else none)
  |.agg xs,.agg ys=>if J9 P t xs.length&&ZD xs.length ys.length then
     (match op with
     |.eql=>(ZK xs ys).map fun g=>(.bool g,[])
     |.neq=>(ZK xs ys).map fun g=>(.bool (fun _=> !g ()),[])
     |_=>none)else none
  |.bool a,.bool b=>(match P.underlying t with
   |some .bool=>(match op with
    |.eql=>some (.bool (fun _=>a ()==b ()),[])
    |.neq=>some (.bool (fun _=>a () !=b ()),[])
    |_=>none)
   |_=>none)
  |_,_=>none
def keyT (P:Program) (A:TypeId):Nat->Bool
 |0=>(match P.underlying A with
  |some (.int .i64)=>true
  |_=>false)
 |n+1=>XU P 5 A (n+1)&&(match P.underlying A with
  |some d=>ZbC d
  |none=>false)
structure TyF where
 un:TypeId->Option TypeDesc
 ti:TypeId->Option TI
 kT:TypeId->Nat->Bool
def tyP (P:Program):TyF:=⟨P.underlying,ZC P,keyT P⟩
structure TyF.le (A B:TyF):Prop where
 un:∀t d,A.un t=some d->B.un t=some d
 ti:∀t d,A.ti t=some d->B.ti t=some d
 kT:∀t n,A.kT t n=true->B.kT t n=true
def Zem:List AV->Option (Unit->List Int)
 |[]=>some fun _=>[]
 |.int .i64 a::r=>(match Zem r with
  |some g=>some fun _=>a ()::g ()
  |none=>none)
 |_=>none
def Zhk (A:TyF) (G:TypeId) (H:Nat):AV->Option (Unit->List Int)
 |.int .i64 a=>if ZD H 0&&A.kT G 0 then some fun _=>[a ()]else none
 |.agg cs=>if ZD H cs.length&&ltN 0 cs.length&&A.kT G cs.length then Zem cs else none
 |_=>none
def isZ:Value->Bool
 |.int .i64 z=>decide (z=0)
 |_=>false
def zN:Option Value->Option Nat
 |some (.int .i64 z)=>if decide (z=0)then some 0 else none
 |some (.agg cs)=>if cs.toList.all isZ&&ltN 0 cs.size then some cs.size else none
 |_=>none
def zIs (A:TyF) (G:TypeId) (n:Nat):Bool:=match zN ((A.ti G).bind (·.zero))with
 |some m=>ZD m n
 |none=>false
def Y4:Nat->(Unit->List Int)->List AV
 |0,_=>[]
 |n+1,d=>.int .i64 (fun _=>(d ()).headD 0)::Y4 n fun _=>(d ()).tail
def ZeR:Nat->(Unit->List Int)->AV
 |0,d=>.int .i64 fun _=>(d ()).headD 0
 |n+1,d=>.agg (Y4 (n+1) d)
def ZpY (ok:Bool) (v:AV) (b:Unit->Bool):AV:=match ok with
 |true=>.tup [v,.bool b]
 |false=>v
def ZdG (A:TyF) (G I:TypeId) (H n:Nat) (L:Unit->List (List Int×List Int)) (k:AV) (ok:Bool):Option (AV×Cd):=match Zhk A G H k with
 |some g=>if zIs A I n then some (ZpY ok (ZeR n fun _=>((L ()).lookup (g ())).getD []) fun _=>((L ()).lookup (g ())).isSome,[])else none
 |none=>none
def JL (A:TyF) (t:TypeId) (m k:AV) (ok:Bool) (h:List Zh):Option (AV×Cd):=match A.un t with
 |some (.map kt et)=>(match m with
  |.map id=>(match h[id]? with
   |some (.mapB f)=>(match ok,k,A.un kt,(A.ti et).bind (·.zero)with
    |false,.int .i64 n,some (.int .i64),some (.bool false)=>some (.bool (f n),[])
    |_,_,_,_=>none)
   |some (.gob (.mapL G n L))=>ZdG A kt et G n L k ok
   |some (.gob (.mapM G kb n L))=>(match Zhk A kt G k,(A.ti et).bind (·.zero)with
    |some g,some (.map none)=>some (ZpY ok (.imap kb n fun _=>((L ()).lookup (g ())).getD []) fun _=>((L ()).lookup (g ())).isSome,[])
    |_,_=>none)
   |_=>none)
  |.imap G n L=>ZdG A kt et G n L k ok
  |_=>none)
 |_=>none
def ZiV (h:List Zh):AV->Option (AV×Cd)
 |.mit id=>(match h[id]? with
  |some (.gob (.mapIt ka n L seen cur))=>some (.tup [ZeR ka fun _=>(cur ()).1,ZeR n fun _=>(cur ()).2],[dd fun _=>seen ()≠ []])
  |_=>none)
 |_=>none
def Jv (P:Program) (E:Operand->AV) (h:List Zh):Op->Option (AV×Cd)
 |.move x|.assign x=>some (E x,[])
 |.nilCheck x=>(match E x with
  |.ptr i o=>some (.ptr i o,[])
  |.iptr c o=>some (.iptr c o,[])
  |.aptr id s e o=>some (.aptr id s e o,[])
  |.gptr id s n e o=>some (.gptr id s n e o,[])
  |.nptr id s e k o=>some (.nptr id s e k o,[])
  |_=>none)
 |.pick c a b=>Zmy (E c) (E a) (E b)
 |.load t a=>(match ZC P t with
  |some T=>ZhJ T h (E a)
  |none=>none)
 |.fieldAddr t x f=>(match ZC P t with
  |some T=>Jc T (E x) f
  |none=>none)
 |.indexAddr t x i=>(match ZC P t with
  |some T=>J6 T (E x) (E i)
  |none=>none)
 |.binOp I t x y _=>ZeD P I t (Zeg y) (E x) (E y)
 |.unOp .not _ x=>(match E x with
  |.bool a=>some (.bool (fun _=> !a ()),[])
  |_=>none)
 |.unOp .neg _ x=>(match E x with
  |.int k a=>some (Zfl k fun _=>0-a ())
  |_=>none)
 |.convert s d x=>(match E x,ZC P s,ZC P d with
  |.int _ a,some _,some D=>(match D.k with
   |.int k=>some (Zfl k a)
   |_=>none)
  |_,_,_=>none)
 |.extract x i=>(match E x with
  |.tup H=>(match H[i]? with
   |some v=>some (v,[])
   |none=>none)
  |_=>none)
 |.build t ps=>(match ZC P t with
  |some T=>(match T.k,T.zero with
   |.struct fs,some z=>if fs.all gS&&ps.toList.all (fun p=>plain (E p.2))then(Zdh fs E (Xy z).cellsOf ps.toList).map (fun cs=>(.agg cs,[]))else none
   |_,_=>none)
  |none=>none)
 |.index t x i=>(match E x,E i,P.underlying t with
  |.str s,.int _ e,some .string=>some (.int .u8 fun _=>((((s ())[(e ()).toNat]?).map UInt8.toNat).getD 0:Nat),[dd fun _=>0<=e ()/\e ()<((s ()).size:Int)])
  |.agg cs,.int _ e,some (.array n el)=>(match ZC P el with
   |some T=>if ZD T.size 1&& !T.agg&&ZD cs.length n then(match Zm8 cs e with
    |some v=>some (v,bnd e n)
    |none=>none)else none
   |none=>none)
  |_,_,_=>none)
 |.lookup t m k ok=>JL (tyP P) t (E m) (E k) ok h
 |.entry x=>ZiV h (E x)
 |.field t x i=>(match ZC P t with
  |some T=>(match T.k,E x with
   |.struct fs,.agg cs=>(match fs[i]? with
    |some (some (off,sz,g))=>if g then(if Z7 (off+sz) cs.length then some (.agg ((cs.drop off).take sz),[])else none)else(match cs[off]? with
     |some v=>some (v,[])
     |none=>none)
    |_=>none)
   |_,_=>none)
  |none=>none)
 |.makeFunc (.func f) a b=>some (.fn f (a.toList.map E) (b.toList.map E),[])
 |.slice t x lo A G=>(match ZC P t with
  |some T=>ZfR T (E x) (lo.map E) (A.map E) (G.map E)
  |none=>none)
 |.call {callee:=.builtin .len,args,argTypes}=>(match args.toList.map E,argTypes.toList with
  |[.isl _ n _ _],t::_=>(match P.underlying t with
   |some (.slice _)=>some (.int .i64 n,[])
   |_=>none)
  |[.msl _ _ _ n _],t::_=>(match P.underlying t with
   |some (.slice _)=>some (.int .i64 n,[])
   |_=>none)
  |[.gsl _ n],t::_=>(match P.underlying t with
   |some (.slice _)=>some (.int .i64 n,[])
   |_=>none)
  |[.nsub _ _ n],t::_=>(match P.underlying t with
   |some (.slice _)=>some (.int .i64 n,[])
   |_=>none)
  |_,_=>none)
 |.call {callee:=.builtin .max,args,.. }=>(match args.toList.map E with
  |.int k x::r=>Zgq k true r x
  |_=>none)
 |.call {callee:=.builtin .min,args,.. }=>(match args.toList.map E with
  |.int k x::r=>Zgq k false r x
  |_=>none)
 |_=>none
section
variable {P:Program} {R:RC} {G:Nat->Nat->Nat->Prop} {h:List Zh}
def Row (R:RC) (b o:Nat) (cs:List AV):Prop:=∃A:Nat->Value,∀j c,cs[j]? =some c->R.w.cell? ⟨b,o+j,none⟩=some (A j)/\VR R c (A j)
theorem ZaG {t:TypeId} {T:TI} (hT:ZC P t=some T) {b o off:Nat} {cs:List AV} (H:Row R b o cs) {v:AV} (hv:ZcU T cs off=some v):
  ∃u,(loadVar t ⟨b,o+off,none⟩).run P R.w= .ok u R.w/\VR R v u:=by
 obtain⟨I,J⟩:=H;unfold ZcU at hv;cases hg:T.agg
 ·rw[hg]at hv;simp only[aX,if_false]at hv;obtain⟨V,U⟩:=J _ _ hv;refine⟨I off,?_,U⟩;rw[ZeX hT b (o+off) (fun j=>I (off+j)) (fun j A=>?_)]
  ·simp[hg]
  rw[hg]at A;have:j=0:=by simp at A;omega
  subst this;exact V
 rw[hg]at hv;simp only[if_true]at hv;split at hv
 ·rename_i G;have G:=QT G;simp only[aC]at hv;subst hv;refine⟨_,ZeX hT b (o+off) (fun j=>I (off+j)) (fun j A=>?_),?_⟩
  ·rw[hg]at A;simp only[if_true]at A;have:=(J (off+j) _ (aD (show off+j<cs.length by omega))).1;rwa [<-dG]at this
  rw[hg];simp only[if_true];refine .agg _ _ (by simp;omega) (fun j c A=>?_);rw[cZ]at A;split at A
  ·rename_i S;rw[cY]at A;have:=(J _ _ A).2;simpa [S]using this
  cases A
 cases hv
theorem Jg {id:Nat} {cs:List AV} (h':Jm h id=some cs):h[id]? =some (.cells cs):=by
 unfold Jm at h';split at h'
 ·rename_i A;simp only[aC]at h';subst h';exact A
 cases h'
theorem ZY {w:World} {b i:Nat} {arr:Array Value} {ty:TypeId} {fr:Nat×Nat} (h:w.heap[b]? =some (.cells arr ty fr)) (hi:i<arr.size):
  w.cell? ⟨b,i,none⟩=some (arr.getD i undef):=by
 simp[World.cell?,h,hi,Array.getD]
theorem Zhz (H:HR G R h) {id:Nat} {cs:List AV} (h':Jm h id=some cs):Row R (R.α id).b (R.α id).o cs:=by
 obtain⟨arr,ty,J,S,I⟩:=H.blk id _ (Jg h');refine⟨fun j=>arr.getD ((R.α id).o+j) undef,fun j c A=>⟨ZY J ?_,I j c A⟩⟩;have:=(aE.1 A).1;omega
theorem Zju:∀(l:List (Unit->Int)) (i:Nat) (A:i<l.length),Zk1 l (i:Int)=l[i] ()
 |[],i,A=>by simp at A
 |a::r,0,A=>by simp[Zk1]
 |a::r,i+1,A=>by
  have H:((i+1:Nat):Int)≠0:=by omega
  have G:((i+1:Nat):Int)-1=(i:Int):=by omega
  simp only[Zk1,if_neg H,G,gM];exact Zju r i (by simpa using A)
theorem Zjv:∀(l:List (Unit->Bool)) (i:Nat) (A:i<l.length),Zjw l (i:Int)=l[i] ()
 |[],i,A=>by simp at A
 |a::r,0,A=>by simp[Zjw]
 |a::r,i+1,A=>by
  have H:((i+1:Nat):Int)≠0:=by omega
  have G:((i+1:Nat):Int)-1=(i:Int):=by omega
  simp only[Zjw,if_neg H,G,gM];exact Zjv r i (by simpa using A)
theorem Zek:∀ {cs:List AV} {l:List (Unit->Int)},ZhK cs=some l->l.length=cs.length/\∀(i:Nat) (A:i<l.length),cs[i]? =some (.int .i64 l[i])
 |[],l,h=>by
  simp only[ZhK,aC]at h;subst h;exact⟨rfl,fun i A=>by simp at A⟩
 |a::r,l,h=>by
  unfold ZhK at h;split at h
  ·rename_i G;cases G
  ·rename_i U S G;cases G;split at h
   ·rename_i V H;cases h;obtain⟨J,I⟩:=Zek H;refine⟨by simp[J],fun i A=>?_⟩;cases i with
    |zero=>rfl
    |succ i=>exact I i (by simpa using A)
   cases h
  cases h
theorem Zdi:∀ {cs:List AV} {l:List (Unit->Bool)},ZeC cs=some l->l.length=cs.length/\∀(i:Nat) (A:i<l.length),cs[i]? =some (.bool l[i])
 |[],l,h=>by
  simp only[ZeC,aC]at h;subst h;exact⟨rfl,fun i A=>by simp at A⟩
 |a::r,l,h=>by
  unfold ZeC at h;split at h
  ·rename_i G;cases G
  ·rename_i U S G;cases G;split at h
   ·rename_i V H;cases h;obtain⟨J,I⟩:=Zdi H;refine⟨by simp[J],fun i A=>?_⟩;cases i with
    |zero=>rfl
    |succ i=>exact I i (by simpa using A)
   cases h
  cases h
theorem Zmk {cs:List AV} {e:Unit->Int} {v:AV} (hv:Zm8 cs e=some v) {i:Nat} (J:e ()=(i:Int)) (hi:i<cs.length) {u:Value} (S:∀c,cs[i]? =some c->VR R c u):VR R v u:=by
 unfold Zm8 at hv;split at hv
 ·rename_i l A;cases hv;obtain⟨U,I⟩:=Zek A;have G:=S _ (I i (by omega));cases G with
  |pure _ _ H=>
   cases H;have:(fun _:Unit=>Zk1 l (e ()))=l[i]'(by omega):=funext fun _=>by rw[J,Zju l i (by omega)]
   rw[this];exact .pure _ _ (.int _ _)
 split at hv
 ·rename_i l A;cases hv;obtain⟨U,I⟩:=Zdi A;have G:=S _ (I i (by omega));cases G with
  |pure _ _ H=>
   cases H;have:(fun _:Unit=>Zjw l (e ()))=l[i]'(by omega):=funext fun _=>by rw[J,Zjv l i (by omega)]
   rw[this];exact .pure _ _ (.bool _)
 cases hv
theorem ZjU {t:TypeId} {T:TI} (hT:ZC P t=some T) (H:HR G R h) {a v:AV} {c:Cd} {u:Value} (ha:VR R a u)
  (hv:ZhJ T h a=some (v,c)) (hc:ZT c):∃x,(ec t u).run P R.w= .ok x R.w/\VR R v x:=by
 unfold ZhJ at hv;cases a with
 |ptr id Z=>
  cases ha with
  |pure _ _ hp=>cases hp
  |ptr _ _ ah=>
  simp only at hv;split at hv
  ·rename_i cs aw;simp only[aG,aK]at hv;obtain⟨v',A,rfl,rfl⟩:=hv;obtain⟨x,Y,I⟩:=ZaG hT (Zhz H aw) A;exact⟨x,by simp[ec,cP,Y],I⟩
  cases hv
 |iptr cs Z=>
  cases ha with
  |pure _ _ hp=>
  cases hp with
  |iptr _ _ b o us h1 h2 h3=>
  simp only[aG,aK]at hv;obtain⟨v',A,rfl,rfl⟩:=hv;obtain⟨x,Y,I⟩:=ZaG (b:=b) (o:=o) hT ⟨us,fun j c J=>⟨h1 j c J,.pure _ _ (h2 j c J)⟩⟩ A;exact⟨x,by simp[ec,cP,Y],I⟩
 |aptr id s e Z=>
  cases ha with
  |pure _ _ hp=>cases hp
  |aptr _ _ _ _ i ah he=>
  simp only at hv;split at hv
  ·rename_i s' n f hb;split at hv
   ·rename_i S;have S:=ZB S;subst S;simp only[aG,aK]at hv;obtain⟨v',A,rfl,rfl⟩:=hv;have hr:=(Cn.out (hc _ (aN.2 rfl)));obtain⟨arr,ty,len,h1,hn,h2,h3⟩:=H.blk id _ hb;rw[he,hn]at hr;have V:i<len:=by omega
    obtain⟨hl,U⟩:=h3 i V;have ac:f e=f (fun _=>(i:Int)):=congrArg f (funext fun _=>he);rw[ac]at A;have al:i*s+s<=len*s:=by
     have:(i+1)*s<=len*s:=aL s V;rwa [bI]at this
    obtain⟨x,Y,I⟩:=ZaG (b:=(R.α id).b) (o:=(R.α id).o+i*s) hT ⟨fun j=>arr.getD ((R.α id).o+i*s+j) undef,fun j c J=>
     ⟨ZY h1 (by have:=(aE.1 J).1;omega),.pure _ _ (U j c J)⟩⟩ A
    exact⟨x,by simp[ec,cP,Y],I⟩
   cases hv
  ·rename_i cs hb;split at hv
   ·rename_i aj;simp only[aT,cG]at aj;obtain⟨⟨S,ho⟩,ba⟩:=aj;have S:=ZB S;have ho:=ZB ho;subst S ho;split at hv
    ·rename_i v' ar;cases hv;obtain⟨r1,r2⟩:=(Cn.out (hc _ (aN.2 rfl)));have V:i<cs.length:=by omega
     obtain⟨us,bc⟩:=Zhz H (show Jm h id=some cs by unfold Jm;rw[hb]);obtain⟨c0,ao⟩:∃c0,cs[i]? =some c0:=⟨_,aD V⟩;obtain⟨k1,k2⟩:=bc i c0 ao
     obtain⟨x,Y,I⟩:=ZaG (b:=(R.α id).b) (o:=(R.α id).o+i) (off:=0) (cs:=[c0]) (v:=c0) hT ⟨fun _=>us i,fun j c J=>by
      cases j with
      |zero=>simp at J;subst J;exact⟨k1,k2⟩
      |succ j=>simp at J⟩ (by unfold ZcU;rw[if_neg (by simp[ba])];rfl)
     refine⟨x,by simpa [ec,cP]using Y,Zmk ar he V fun c ak=>?_⟩;rw[ao]at ak;cases ak;exact I
    cases hv
   cases hv
  cases hv
 |gptr id s n e Z=>
  cases ha with
  |pure _ _ hp=>cases hp
  |gptr _ _ _ _ _ a ah bo he=>
  simp only at hv;have am:∀(s':Nat) (m:Unit->Int) (f:(Unit->Int)->List AV),R.hw id=m ()->Zvy R s' m f (R.hv id)->(if ZD s s' then(ZcU T (f e) Z).map (·,[dd fun _=>n ()=m ()/\0<=e ()/\e ()<m ()])else none)=some (v,c)->∃x,(ec t (.pointer (some a))).run P R.w= .ok x R.w/\VR R v x:=by
   intro s' m f aa ab hv;split at hv
   ·rename_i S;have S:=ZB S;subst S;simp only[aG,aK]at hv;obtain⟨v',A,rfl,rfl⟩:=hv;obtain⟨bk,hr⟩:=(Cn.out (hc _ (aN.2 rfl)));obtain⟨b,o,i,l,cp,g0,az,rfl⟩:=he (by rw[bk,aa]);rcases ab with⟨ap,_⟩|⟨b',o',len,ae,arr,ty,g1,g2,g3,g4,g5,g6⟩
    ·omega
    rw[g0]at g3;cases g3;have V:i<l:=by omega
    obtain⟨hl,U⟩:=g6 i V;have ac:f e=f (fun _=>(i:Int)):=congrArg f (funext fun _=>az);rw[ac]at A;have al:i*s+s<=l*s:=by
     have:(i+1)*s<=l*s:=aL s V;rwa [bI]at this
    have a9:l*s<=cp*s:=aL s g2
    obtain⟨x,Y,I⟩:=ZaG (b:=b) (o:=o+i*s) hT ⟨fun j=>arr.getD (o+i*s+j) undef,fun j c J=>
     ⟨ZY g4 (by have:=(aE.1 J).1;omega),U j c J⟩⟩ A
    exact⟨x,by simp[ec,cP,Y],I⟩
   cases hv
  split at hv
  ·rename_i s' m f hb;obtain⟨aa,ab⟩:=H.blk id _ hb;refine am s' m f aa ?_ hv;rcases ab with h0|⟨b',o',len,ae,arr,ty,g1,g2,g3,g4,g5,g6⟩
   ·exact .inl h0
   exact .inr ⟨b',o',len,ae,arr,ty,g1,g2,g3,g4,g5,fun i V=>⟨(g6 i V).1,fun j c J=>.pure _ _ ((g6 i V).2 j c J)⟩⟩
  ·rename_i s' m f hb;obtain⟨aa,ab⟩:=H.blk id _ hb;exact am s' m f aa ab hv
  cases hv
 |nptr id s e k Z=>
  cases ha with
  |pure _ _ hp=>cases hp
  |nptr _ _ _ _ _ us i b o l cp j ah bh he hu hk=>
  simp only at hv;split at hv
  ·rename_i z s' n m g hb;split at hv
   ·rename_i S;have S:=ZB S;subst S;simp only[aG,aK]at hv;obtain⟨v',A,rfl,rfl⟩:=hv;obtain⟨r1,r2,r3,r4⟩:=(Cn.out (hc _ (aN.2 rfl)));obtain⟨_,_,bl,ai,bm,aq,_⟩:=H.blk id _ hb;rw[bh]at ai;cases ai;have bg:e=fun _=>(i:Int):=funext fun _=>he;have au:k=fun _=>(j:Int):=funext fun _=>hk;subst bg au;rcases aq i _ hu with⟨ap,_⟩|⟨b',o',len,ae,arr,ty,g1,g2,g3,g4,g5,g6⟩
    ·simp only at ap r4 r3;omega
    cases g3;simp only at g1 r4;have V:j<l:=by omega
    obtain⟨hl,U⟩:=g6 j V;have al:j*s+s<=l*s:=by
     have:(j+1)*s<=l*s:=aL s V;rwa [bI]at this
    have a9:l*s<=cp*s:=aL s g2
    obtain⟨x,Y,I⟩:=ZaG (b:=b) (o:=o+j*s) hT ⟨fun q=>arr.getD (o+j*s+q) undef,fun q c J=>
     ⟨ZY g4 (by have:=(aE.1 J).1;omega),.pure _ _ (U q c J)⟩⟩ A
    exact⟨x,by simp[ec,cP,Y],I⟩
   cases hv
  cases hv
 |_=>cases hv
end
end Vm
namespace Vm
open Go
section
variable {P:Program} {R:RC} {G:Nat->Nat->Nat->Prop} {h:List Zh}
theorem VR.int_inv {k:IntKind} {n:Unit->Int} {u:Value} (h:VR R (.int k n) u):u= .int k (n ()):=by
 cases h with
 |pure _ _ A=>cases A;rfl
theorem VR.bool_inv {b:Unit->Bool} {u:Value} (h:VR R (.bool b) u):u= .bool (b ()):=by
 cases h with
 |pure _ _ A=>cases A;rfl
theorem VR.isl_inv {s:Nat} {n:Unit->Int} {f:(Unit->Int)->List AV} {tk:Tk} {u:Value} (h:VR R (.isl s n f tk) u):PR R.w R.ok (.isl s n f .none) u:=by
 cases h with
 |pure _ _ A=>
  cases A with
  |isl0 _ _ _ _ h G=>exact .isl0 _ _ _ _ h rfl
  |islE _ _ _ _ a h G=>exact .islE _ _ _ _ a h (.inl rfl)
  |isl _ _ _ _ b o len H U J S G he I Z Y V=>exact .isl _ _ _ _ b o len H U J S (.inl rfl) (fun h=>by cases h) I Z Y V
 |own _ _ _ _ _ _ A _ _=>exact A
 |nn _ _ _ _ A _=>exact A
theorem VR.agg_inv {cs:List AV} {u:Value} (h:VR R (.agg cs) u):∃A:Array Value,u= .agg A/\cs.length=A.size/\∀j c,cs[j]? =some c->VR R c (A.getD j Go.undef):=by
 cases h with
 |pure _ _ G=>cases G
 |agg _ A H h=>exact⟨A,rfl,H,h⟩
theorem VR.tup_inv {cs:List AV} {u:Value} (h:VR R (.tup cs) u):∃A:Array Value,u= .tuple A/\cs.length=A.size/\∀j c,cs[j]? =some c->VR R c (A.getD j Go.undef):=by
 cases h with
 |pure _ _ G=>cases G
 |tup _ A H h=>exact⟨A,rfl,H,h⟩
theorem VR.ob_inv {g b:Unit->Bool} {u:Value} (h:VR R (.ob g b) u) (G:g ()=true):u= .bool (b ()):=by
 cases h with
 |pure _ _ h=>cases h
 |ob _ _ _ A H=>exact A G
theorem VR.ob_none {g b:Unit->Bool} {u:Value} (h:VR R (.ob g b) u) (G:g ()=false):u=Go.undef:=by
 cases h with
 |pure _ _ h=>cases h
 |ob _ _ _ H A=>exact A G
theorem VR.gd_inv {g:Unit->Bool} {v:AV} {u:Value} (h:VR R (.gd g v) u) (G:g ()=true):VR R v u:=by
 cases h with
 |pure _ _ A=>cases A
 |gd _ _ _ h=>exact h G
theorem VR.mkInt {k:IntKind} {n:Unit->Int} {x:Int} (e:n ()=x):VR R (.int k n) (.int k x):=e▸ .pure _ _ (.int k n)
theorem VR.mkBool {b:Unit->Bool} {x:Bool} (e:b ()=x):VR R (.bool b) (.bool x):=e▸ .pure _ _ (.bool b)
theorem Zhn {t:TypeId} {T:TI} (hT:ZC P t=some T) {x v:AV} {i:Nat} {c:Cd} {u:Value} (J:VR R x u) (hv:Jc T x i=some (v,c)):
  ∃y,(Instr.fieldAt t u i).run P R.w= .ok y R.w/\VR R v y:=by
 unfold Jc at hv;split at hv
 ·rename_i fs hk;obtain⟨fl,S,rfl⟩:=Zcq hT hk;split at hv
  ·rename_i aa sz g hf;split at hv
   ·cases hv
   rename_i hz;rw[aO,aG]at hf;obtain⟨f,ab,ah⟩:=hf;obtain⟨j,d,hj,hd,ho,hs,_⟩:=Zci ah;have ac:j.size≠0:=by
    rw[hs];intro e;rw[e]at hz;exact hz rfl
   have ae:fl[i]? =some f:=by rw[<-ab,bN]
   have run:∀a:Addr,(Instr.fieldAt t (.pointer (some a)) i).run P R.w= .ok (.pointer (some (a.add aa))) R.w:=fun a=>by
    simp[Instr.fieldAt,Zu S,ae,cP,fieldPlace,Z0 hj,ac,ho]
   split at hv
   ·cases J with
    |pure _ _ G=>cases G
    |ptr id o A=>
     simp only[aC,aK]at hv;obtain⟨rfl,rfl⟩:=hv;exact⟨_,run _,by rw[Qx,dG];exact .ptr _ _ A⟩
   ·cases J with
    |pure _ _ G=>
    cases G with
    |iptr cs o b I V Y U h3=>
     simp only[aC,aK]at hv;obtain⟨rfl,rfl⟩:=hv;exact⟨_,run _,by rw[Qx,dG];exact .pure _ _ (.iptr _ _ b I V Y U h3)⟩
   ·cases J with
    |pure _ _ G=>cases G
    |aptr id s e o k A H=>
     simp only[aC,aK]at hv;obtain⟨rfl,rfl⟩:=hv;exact⟨_,run _,by rw[Qx,dG];exact .aptr _ _ _ _ k A H⟩
   ·cases J with
    |pure _ _ G=>cases G
    |gptr id s n e o a A hn H=>
     simp only[aC,aK]at hv;obtain⟨rfl,rfl⟩:=hv
     exact⟨_,run _,.gptr _ _ _ _ _ _ A hn fun e'=>by
      obtain⟨b,I,k,l,c,Y,U,rfl⟩:=H e'
      exact⟨b,I,k,l,c,Y,U,by rw[Qx,dG]⟩⟩
   ·cases J with
    |pure _ _ G=>cases G
    |nptr id s e k o V i b I l c j A ai H S Z=>
     simp only[aC,aK]at hv;obtain⟨rfl,rfl⟩:=hv;exact⟨_,run _,by rw[Qx,dG];exact .nptr _ _ _ _ _ V i b I l c j A ai H S Z⟩
   cases hv
  cases hv
 cases hv
theorem Zhl {t:TypeId} {T:TI} (hT:ZC P t=some T) (H:HR G R h) {x i v:AV} {c:Cd} {u ui:Value} (hx:VR R x u) (hi:VR R i ui)
  (hv:J6 T x i=some (v,c)) (hc:ZT c):∃y,(eO t u ui).run P R.w= .ok y R.w/\VR R v y:=by
 unfold J6 at hv;split at hv
 ·rename_i k e;rw[hi.int_inv];split at hv
  ·rename_i el J eb hk;obtain⟨j,hu,V,hs,_⟩:=Jo hT hk;have ab:=hu;split at hv
   ·rename_i s n f tk;split at hv
    ·rename_i S;have S:=ZB S;subst S;simp only[aC,aK]at hv;obtain⟨rfl,rfl⟩:=hv;obtain⟨Y,h1⟩:=(Cn.out (hc _ (aN.2 rfl)));have Z:=hx.isl_inv;cases Z with
     |isl0 _ _ _ _ hz _=>omega
     |islE _ _ _ _ _ hz _=>omega
     |isl _ _ _ _ b o len al us hn ap ht he hl ae aj ah=>
      obtain⟨i,A⟩:=bS Y;have I:i<len:=by omega
      have ai:f e=f (fun _=>(i:Int)):=congrArg f (funext fun _=>A);refine⟨.pointer (some ⟨b,o+i*s,none⟩),?_,?_⟩
      ·rw[A];simp[eO,asIntOf,Zu hu,I,Z0 V,Qx,hs]
      rw[ai];have ac:i*s+s<=len*s:=by
       have:(i+1)*s<=len*s:=aL s I;rwa [bI]at this
      have:=PR.iptr (w:=R.w) (ok:=R.ok) (f fun _=>(i:Int)) 0 b (o+i*s) (us i) (fun j c V=>ae i j c I V) (fun j c V=>aj i j c I V) (H.sub ah (by omega) (by rw[hl i I];omega));exact .pure _ _ this
    cases hv
   ·rename_i id s lo n cp;split at hv
    ·rename_i S;have S:=ZB S;subst S;simp only[aC,aK]at hv;obtain⟨rfl,rfl⟩:=hv;obtain⟨Y,h1⟩:=(Cn.out (hc _ (aN.2 rfl)));cases hx with
     |pure _ _ Z=>cases Z
     |msl _ _ _ _ _ i0 len al U ao hn aq ac=>
      obtain⟨i,A⟩:=bS Y;have I:i<len:=by omega
      refine⟨.pointer (some ⟨(R.α id).b,(R.α id).o+(i0+i)*s,none⟩),?_,?_⟩
      ·rw[A];simp[eO,asIntOf,Zu hu,I,Z0 V,Qx,hs,dH,dG]
      exact .aptr id s _ 0 (i0+i) U (by rw[ao,A];omega)
    cases hv
   ·rename_i id n;simp only[aC,aK]at hv;obtain⟨rfl,rfl⟩:=hv;obtain⟨Y,h1⟩:=(Cn.out (hc _ (aN.2 rfl)));cases hx with
    |pure _ _ Z=>cases Z
    |gsl _ _ a l c' U hn he hl=>
     obtain⟨i,A⟩:=bS Y;obtain⟨hl,⟨_,am⟩|⟨b,o,rfl⟩⟩:=hl
     ·omega
     have I:i<l:=by omega
     refine⟨.pointer (some ⟨b,o+i*J,none⟩),?_,?_⟩
     ·rw[A];simp[eO,asIntOf,Zu hu,I,Z0 V,Qx,hs]
     exact .gptr id J _ _ 0 _ U hn fun hh=>⟨b,o,i,l,c',(he hh).symm,A,rfl⟩
   ·rename_i id a0 n;simp only[aC,aK]at hv;obtain⟨rfl,rfl⟩:=hv;obtain⟨Y,h1⟩:=(Cn.out (hc _ (aN.2 rfl)));cases hx with
    |pure _ _ Z=>cases Z
    |nsub _ _ _ a l c' us r U ak he hu hl=>
     obtain⟨i,A⟩:=bS Y;obtain⟨hl,⟨_,am⟩|⟨b,o,rfl⟩⟩:=hl
     ·omega
     have I:i<l:=by omega
     refine⟨.pointer (some ⟨b,o+i*J,none⟩),?_,?_⟩
     ·rw[A];simp[eO,asIntOf,Zu ab,I,Z0 V,Qx,hs]
     exact .nptr id J _ _ 0 us r b o l c' i U ak he hu A
   cases hv
  ·rename_i n J hk;obtain⟨el,j,hu,V,hs⟩:=Zjq hT hk;split at hv
   ·rename_i id aa;cases hv;obtain⟨Y,h1⟩:=(Cn.out (hc _ (aN.2 rfl)));cases hx with
    |pure _ _ Z=>cases Z
    |ptr _ _ U=>
     obtain⟨i,A⟩:=bS Y;have I:i<n:=by omega
     refine⟨.pointer (some ⟨(R.α id).b,(R.α id).o+i*J+aa,none⟩),?_,.aptr id J _ aa i U A⟩;rw[A];simp[eO,asIntOf,Zu hu,I,Z0 V,cP,Qx,hs];omega
   cases hv
  cases hv
 cases hv
theorem Zhd (op:BinOp) (t:TypeId) (x y:Operand) (k A:IntKind) (a b:Int):(eqGuard op t x y (.int k a) (.int A b)).run P R.w= .ok () R.w:=by
 cases op<;>simp[eqGuard]
theorem Ztb (op:BinOp) (t:TypeId) (k:IntKind) (a b:Unit->Int) (v:AV) (c:Cd) (hv:Ztc op k a b=some (v,c)) (A:ZT c):
  ∃u,(binOp op t (.int k (a ())) (.int k (b ()))).run P R.w= .ok u R.w/\VR R v u:=by
 cases op<;>simp only[Ztc]at hv<;>(try (cases hv;done))<;>simp only[aC,aK]at hv;case add=>obtain rfl:=(Prod.mk.inj hv).1;obtain rfl:=(Prod.mk.inj hv).2;exact⟨_,by simp[binOp,Op.intArith],Zcx k _ A⟩
 case sub=>obtain rfl:=(Prod.mk.inj hv).1;obtain rfl:=(Prod.mk.inj hv).2;exact⟨_,by simp[binOp,Op.intArith],Zcx k _ A⟩
 case mul=>obtain rfl:=(Prod.mk.inj hv).1;obtain rfl:=(Prod.mk.inj hv).2;exact⟨_,by simp[binOp,Op.intArith],Zcx k _ A⟩
 case quo=>
  obtain⟨rfl,rfl⟩:=hv;have G:b ()≠0:=(Cn.out (A _ (aU ..)));exact⟨_,by simp[binOp,Op.intDiv,G],Zcx k _ (fun p H=>A p (aQ _ H))⟩
 case rem=>
  obtain⟨rfl,rfl⟩:=hv;have G:b ()≠0:=(Cn.out (A _ (aN.2 rfl)));exact⟨_,by simp[binOp,Op.intDiv,G],.mkInt rfl⟩
 case and=>obtain⟨rfl,rfl⟩:=hv;exact⟨_,by simp[binOp,Op.intBits],.mkInt rfl⟩
 case or=>obtain⟨rfl,rfl⟩:=hv;exact⟨_,by simp[binOp,Op.intBits],.mkInt rfl⟩
 case xor=>obtain⟨rfl,rfl⟩:=hv;exact⟨_,by simp[binOp,Op.intBits],.mkInt rfl⟩
 case eql=>obtain⟨rfl,rfl⟩:=hv;exact⟨_,by simp[binOp,Op.intCmp],.mkBool rfl⟩
 case neq=>obtain⟨rfl,rfl⟩:=hv;exact⟨_,by simp[binOp,Op.intCmp],.mkBool rfl⟩
 case lss=>obtain⟨rfl,rfl⟩:=hv;exact⟨_,by simp[binOp,Op.intCmp],.mkBool rfl⟩
 case leq=>obtain⟨rfl,rfl⟩:=hv;exact⟨_,by simp[binOp,Op.intCmp],.mkBool rfl⟩
 case gtr=>obtain⟨rfl,rfl⟩:=hv;exact⟨_,by simp[binOp,Op.intCmp],.mkBool rfl⟩
 case geq=>obtain⟨rfl,rfl⟩:=hv;exact⟨_,by simp[binOp,Op.intCmp],.mkBool rfl⟩
theorem Zhx (op:BinOp) (t:TypeId) (k A:IntKind) (a b:Unit->Int) (v:AV) (c:Cd) (hv:Zil op k a b=some (v,c)) (H:ZT c):
  ∃u,(binOp op t (.int k (a ())) (.int A (b ()))).run P R.w= .ok u R.w/\VR R v u:=by
 cases op<;>simp only[Zil]at hv<;>(try (cases hv;done))<;>simp only[aC,aK]at hv<;>obtain⟨rfl,rfl⟩:=hv;all_goals
  have G:¬b ()<0:=by have:=(Cn.out (H _ (aN.2 rfl)));omega
  exact⟨_,by simp[binOp,Op.shift,G],.mkInt rfl⟩
theorem ZiG (G:Bool):∀(l:List AV) (A:List Value) (k:IntKind) (x:Unit->Int) (v:AV) (c:Cd),Zgq k G l x=some (v,c)->l.length=A.length->
  (∀j a,l[j]? =some a->VR R a (A.getD j Go.undef))->∃u,(A.foldlM (if G then Builtin.max2 else Builtin.min2) (.int k (x ()))).run P R.w= .ok u R.w/\VR R v u
 |[],A,k,x,v,c,hv,hl,_=>by
  have:A=[]:=cQ (by simpa using hl.symm);subst this;simp only[Zgq,aC,aK]at hv;obtain⟨rfl,rfl⟩:=hv;exact⟨_,rfl,.mkInt rfl⟩
 |a::l,A,k,x,v,c,hv,hl,hu=>by
  obtain⟨u,A,rfl⟩:∃u I,A=u::I:=by
   cases A with
   |nil=>simp at hl
   |cons u A=>exact⟨u,A,rfl⟩
  cases a with
  |int V y=>
   have H:=(hu 0 _ rfl).int_inv;simp only[fb]at H;subst H;simp only[Zgq]at hv;obtain⟨w,U,S⟩:=ZiG G l A k _ v c hv (by simpa using hl) (fun j a J=>by simpa using hu (j+1) a (by simpa using J));refine⟨w,?_,S⟩;rw[List.foldlM_cons];cases G<;>simpa [Builtin.max2,Builtin.min2]using U
  |_=>simp[Zgq]at hv
end
end Vm
namespace Vm
open Go
section
variable {P:Program} {R:RC} {G:Nat->Nat->Nat->Prop} {h:List Zh}
theorem X2:∀(l z:List AV) (A:Nat),(putC z A l).length=z.length
 |[],z,A=>rfl
 |v::l,z,A=>by simp only[putC];rw[X2 l];simp
def X0 (R:RC) (cs:List AV) (us:Array Value):Prop:=cs.length=us.size/\∀j c,cs[j]? =some c->VR R c (us.getD j Go.undef)
theorem X0.set {cs:List AV} {us:Array Value} (H:X0 R cs us) {a:AV} {v:Value} (hv:VR R a v) (d:Nat):X0 R (cs.set d a) (us.setIfInBounds d v):=by
 refine⟨by simp[H.1],fun i x A=>?_⟩;rw[bP]at A;rw[aI,bR];by_cases e:d=i
 ·subst e;simp only[if_true]at A|-;split at A
  ·rename_i G;rw[if_pos (by rw[<-H.1];exact G)];simp only[aC]at A;subst A;exact hv
  cases A
 rw[if_neg e]at A|-;rw[<-aI];exact H.2 i x A
theorem X0.put:∀(l:List AV) (A:List Value) (z:List AV) (I:Array Value) (G:Nat),X0 R z I->l.length=A.length->(∀j c,l[j]? =some c->VR R c (A.getD j Go.undef))->
  ∀i,X0 R (putC z (G+i) l) ((A.zipIdx i).foldl (fun cs (p:Value×Nat)=>cs.setIfInBounds (G+p.2) p.1) I)
 |[],A,z,I,G,H,hl,_,i=>by
  have:A=[]:=cQ (by simpa using hl.symm);subst this;exact H
 |a::l,A,z,I,G,H,hl,hv,i=>by
  cases A with
  |nil=>simp at hl
  |cons v A=>
   simp only[putC,List.zipIdx_cons,List.foldl_cons];exact X0.put l A _ _ G (H.set (hv 0 a rfl) _) (by simpa using hl) (fun j c J=>by simpa using hv (j+1) c (by simpa using J)) (i+1)
theorem VR.of_agg {a:AV} {us:Array Value} (hv:VR R a (.agg us)) (G:∀g x,a≠ .gd g x) (I:a≠ .undef):∃cs,a= .agg cs:=by
 cases hv with
 |pure _ _ A=>cases A
 |undef _=>exact absurd rfl I
 |gd _ _ _ _=>exact absurd rfl (G _ _)
 |ob g b _ J H=>
  cases hgg:g ()
  ·have:=H hgg;unfold Go.undef at this;cases this
  cases J hgg
 |agg cs _ _ _=>exact⟨cs,rfl⟩
 |own _ _ _ _ _ _ A _ _=>cases A
 |nn _ _ _ _ A _=>cases A
theorem Jf {a:AV} {u:Value} (hv:VR R a u) (I:∀g x,a≠ .gd g x) (J:a≠ .undef):X0 R a.cellsOf u.cells:=by
 by_cases ha:∃cs,a= .agg cs
 ·obtain⟨cs,rfl⟩:=ha;obtain⟨S,rfl,H,G⟩:=hv.agg_inv;exact⟨H,G⟩
 have H:a.cellsOf=[a]:=by
  cases a<;>first|rfl|(exact absurd ⟨_,rfl⟩ ha)
 have G:u.cells= #[u]:=by
  cases u<;>first|rfl|(exact absurd (VR.of_agg hv I J) ha)
 rw[H,G]
 exact⟨rfl,fun j c A=>by
  cases j with
  |zero=>simp at A;subst A;exact hv
  |succ j=>simp at A⟩
theorem Zef (v:Value):VR R (Zbj v) v:=by
 unfold Zbj;split<;>first
  |exact .pure _ _ (.bool _)
  |exact .pure _ _ (.int _ _)
  |exact .pure _ _ (.str _)
  |exact .pure _ _ .nilptr
  |exact .pure _ _ (.isl0 _ _ _ _ rfl rfl)
  |exact .pure _ _ .nilmap
  |exact .pure _ _ .nilfn
  |exact .undef _
theorem Zgc (v:Value):VR R (Xy v) v:=by
 unfold Xy;split
 ·rename_i cs;refine .agg _ _ (by simp) (fun j c A=>?_);rw[aO,aG]at A;obtain⟨u,G,rfl⟩:=A;rw[bN]at G;rw[aI,G];exact Zef u
 exact Zef v
theorem Jq (v:Value):X0 R (Xy v).cellsOf v.cells:=by
 by_cases hv:∃cs,v= .agg cs
 ·obtain⟨cs,rfl⟩:=hv;obtain⟨S,J,H,G⟩:=(Zgc (R:=R) (.agg cs)).agg_inv (cs:=cs.toList.map Zbj);cases J;exact⟨H,G⟩
 have H:Xy v=Zbj v:=by
  cases v<;>first|rfl|(exact absurd ⟨_,rfl⟩ hv)
 have G:v.cells= #[v]:=by
  cases v<;>first|rfl|(exact absurd ⟨_,rfl⟩ hv)
 have I:(Zbj v).cellsOf=[Zbj v]:=by
  unfold Zbj;split<;>rfl
 rw[H,G,I]
 exact⟨rfl,fun j c A=>by
  cases j with
  |zero=>simp at A;subst A;exact Zef v
  |succ j=>simp at A⟩
theorem ZhX {fl:Array Field} {E:Operand->AV} {ρ:Operand->Value} {pl:Nat->Option (Nat×Nat)} (J:∀i o s g,(fl.toList.map (Zbx P))[i]? =some (some (o,s,g))->pl i=some (o,s)):
  ∀(ps:List (Nat×Operand)) (z cs:List AV) (I:Array Value),Zdh (fl.toList.map (Zbx P)) E z ps=some cs->X0 R z I->(∀p∈ps,VR R (E p.2) (ρ p.2)/\plain (E p.2)=true)->
   ∃A,Instr.fill pl I (ps.map fun p=>(p.1,ρ p.2))=some A/\X0 R cs A
 |[],z,cs,I,hb,H,_=>by
  simp only[Zdh,aC]at hb;subst hb;exact⟨I,rfl,H⟩
 |(i,x)::ps,z,cs,I,hb,H,hx=>by
  simp only[Zdh]at hb;split at hb
  ·rename_i S sz g hf;split at hb
   ·rename_i U;simp only[aT]at U;have Y:=ZB U.1;have aa:=QT U.2;obtain⟨hv,G⟩:=hx (i,x) (aU ..);have hr:=Jf hv (fun g y e=>by rw[e]at G;cases G) (fun e=>by rw[e]at G;cases G);have V:=X0.put (E x).cellsOf (ρ x).cells.toList z I S H (by rw[hr.1];simp) (fun j c hj=>by simpa using hr.2 j c hj) 0;obtain⟨A,h1,h2⟩:=ZhX J ps _ cs _ hb V (fun p Z=>hx p (aQ _ Z));refine⟨A,?_,h2⟩;simp only[bV,Instr.fill,J i S sz g hf];rw[if_neg (by rw[<-hr.1,Y,<-H.1];simp;omega)];rw[<-Array.foldl_toList];simpa using h1
   cases hb
  cases hb
theorem ZcV {α A:Type} (f:α->Sem A) (g:α->A) (w:World):∀(l:List α),(∀x∈l,(f x).run P w= .ok (g x) w)->(l.mapM f).run P w= .ok (l.map g) w
 |[],_=>by simp
 |a::l,hl=>by
  rw[List.mapM_cons];simp only[aP,hl a (aU ..),aH,ZcV f g w l (fun x G=>hl x (aQ _ G)),bC,bV]
theorem ZpT {α A:Type} (f:α->Sem A) (g:α->A) (w:World) (xs:Array α) (G:∀x∈xs,(f x).run P w= .ok (g x) w):(xs.mapM f).run P w= .ok (xs.map g) w:=by
 obtain⟨l⟩:=xs;rw[List.mapM_toArray];simp only[Sem.run_map,ZcV f g w l (fun x h=>G x (by simpa using h)),aH,List.map_toArray]
end
end Vm
namespace Vm
open Go
section
variable {P:Program} {R:RC} {G:Nat->Nat->Nat->Prop} {h:List Zh}
theorem Znb {t:TypeId} {T:TI} (hT:ZC P t=some T) {S:List (Option (Nat×Nat×Bool))} (hk:T.k= .struct S) {z:Value} (hz:T.zero=some z) (H:S.all gS=true)
  {E:Operand->AV} {ρ:Operand->Value} {ps:List (Nat×Operand)} {cs:List AV} (hb:Zdh S E (Xy z).cellsOf ps=some cs) (hx:∀p∈ps,VR R (E p.2) (ρ p.2)/\plain (E p.2)=true):
  ∃u,(Instr.build t (ps.map fun p=>(p.1,ρ p.2)).toArray).run P R.w= .ok u R.w/\VR R (.agg cs) u:=by
 obtain⟨i,d,hi,hd,_,_,Z,_⟩:=Xu hT;obtain⟨fl,hu,rfl⟩:=Zcq hT hk;have V:∀f∈fl,∃j,P.info? f.type=some j:=fun f G=>by
  rw[bL]at H;have:=H (Zbx P f) (bE.2 ⟨f,by simpa using G,rfl⟩);obtain⟨⟨o,s,g⟩,J⟩:=Option.isSome_iff_exists.1 this;obtain⟨j,_,A,_⟩:=Zci J;exact⟨j,A⟩
 have hm:=ZpT (P:=P) (fun f:Field=>(do pure (f.offset,<-sizeOf f.type):Sem (Nat×Nat))) (fun f=>(f.offset,((P.info? f.type).map (·.size)).getD 0)) R.w fl (fun f G=>by
  obtain⟨j,A⟩:=V f G
  simp[Z0 A,A])
 obtain⟨U,h1,Y⟩:=ZhX (R:=R) (P:=P) (fl:=fl) (E:=E) (ρ:=ρ) (pl:=fun i=>(fl.map (fun f=>(f.offset,((P.info? f.type).map (·.size)).getD 0)))[i]?) (fun i o s g G=>by
  rw[aO,aG]at G;obtain⟨f,I,aa⟩:=G;obtain⟨j,_,A,_,J,hs,_⟩:=Zci aa;rw[bN]at I
  simp[I,A,J,hs]) ps _ cs _ hb (Jq z) hx
 refine⟨.agg U,?_,.agg _ _ Y.1 Y.2⟩;simp only[Instr.build,aP,zeroValue,Xh hi,aH,<-Z,hz,bC,Zu hu];rw[hm];simp only[aH];rw[h1];rfl
theorem ZjI {t:Unit->Bool} {a b v:AV} {S:Cd} {U V:Value} (J:VR R a U) (I:VR R b V) (hv:Zmx t a b=some (v,S)) (G:ZT S):VR R v (if t ()then U else V):=by
 unfold Zmx at hv;split at hv
 ·simp only[aC,aK]at hv;obtain⟨rfl,rfl⟩:=hv;rw[J.bool_inv,I.bool_inv];cases A:t ()<;>simp only[if_true,if_false,aX]<;>exact .mkBool (by simp[A])
 ·simp only[aC,aK]at hv;obtain⟨rfl,rfl⟩:=hv;have H:=(Cn.out (G _ (aN.2 rfl)));cases A:t ()
  ·simp only[if_false,aX];rw[I.bool_inv];exact .mkBool (by simp[A])
  simp only[if_true];rw[(J.gd_inv (H A)).bool_inv];exact .mkBool (by simp[A])
 ·simp only[aC,aK]at hv;obtain⟨rfl,rfl⟩:=hv;have H:=(Cn.out (G _ (aN.2 rfl)));cases A:t ()
  ·simp only[if_false,aX];rw[(I.gd_inv (H A)).bool_inv];exact .mkBool (by simp[A])
  simp only[if_true];rw[J.bool_inv];exact .mkBool (by simp[A])
 ·simp only[aC,aK]at hv;obtain⟨rfl,rfl⟩:=hv;have H:=(Cn.out (G _ (aN.2 rfl)));cases A:t ()
  ·simp only[if_false,aX];rw[I.bool_inv];exact .mkBool (by simp[A])
  simp only[if_true];rw[J.ob_inv (H A)];exact .mkBool (by simp[A])
 ·simp only[aC,aK]at hv;obtain⟨rfl,rfl⟩:=hv;have H:=(Cn.out (G _ (aN.2 rfl)));cases A:t ()
  ·simp only[if_false,aX];rw[I.ob_inv (H A)];exact .mkBool (by simp[A])
  simp only[if_true];rw[J.bool_inv];exact .mkBool (by simp[A])
 ·simp only[aC,aK]at hv;obtain⟨rfl,rfl⟩:=hv;have A:t ()=true:=(Cn.out (G _ (aN.2 rfl)));rw[A,if_pos rfl];exact J
 ·simp only[aC,aK]at hv;obtain⟨rfl,rfl⟩:=hv;have A:t ()=false:=(Cn.out (G _ (aN.2 rfl)));rw[A,if_neg Bool.false_ne_true];exact I
 cases hv
theorem Zp5 {c a b v:AV} {S:Cd} {I U V:Value} (H:VR R c I) (Y:VR R a U) (G:VR R b V) (hv:Zmy c a b=some (v,S)) (A:ZT S):
  ∃t:Bool,I= .bool t/\VR R v (if t then U else V):=by
 unfold Zmy at hv;split at hv
 ·rename_i t;exact⟨t (),H.bool_inv,ZjI Y G hv A⟩
 ·rename_i g t;split at hv
  ·rename_i v' aa J;simp only[aC,aK]at hv;obtain⟨rfl,rfl⟩:=hv;have Z:g ()=true:=Cn.out (A _ (aU ..));exact⟨t (),H.ob_inv Z,ZjI Y G J fun x hx=>A x (aQ _ hx)⟩
  cases hv
 cases hv
theorem ZsK (H:HR G R h) {s:Nat} {n:Unit->Int} {f:(Unit->Int)->List AV} {u:Value} (hp:PR R.w R.ok (.isl s n f .none) u) (l e:Nat) (al:l<=e) (am:(e:Int)<=n ())
  (V lo:Unit->Int) (ah:V ()=(e:Int)-l) (aj:lo ()=(l:Int)) (tk:Tk) (U:tk= .none\/tk= .exact):
  (∃a:Option Addr,u= .slice a 0 0/\n ()=0/\l=0/\e=0/\PR R.w R.ok (.isl s V (fun x=>f (fun _=>x ()+lo ())) tk) (.slice a 0 0))\/
   ∃b o len S,u= .slice (some ⟨b,o,none⟩) len S/\(len:Int)=n ()/\len<=S/\∀J A,(J=o+l*s\/(J=o/\e=l))->e-l<=A->(tk= .exact->A=e-l)->
    PR R.w R.ok (.isl s V (fun x=>f (fun _=>x ()+lo ())) tk) (.slice (some ⟨b,J,none⟩) (e-l) A):=by
 cases hp with
 |isl0 _ _ _ _ Z _=>exact .inl ⟨none,rfl,Z,by omega,by omega,.isl0 _ _ _ _ (by omega) (by rcases U with rfl|rfl<;>rfl)⟩
 |islE _ _ _ _ a Z _=>exact .inl ⟨some a,rfl,Z,by omega,by omega,.islE _ _ _ _ a (by omega) U⟩
 |isl _ _ _ _ b o len S us hn aa ht he hl ac ai Y=>
  refine .inr ⟨b,o,len,S,rfl,hn.symm,aa,fun J A ho ae ab=>?_⟩;have ak:l*s+(e-l)*s<=len*s:=by rw[<-dH];exact aL s (by omega)
  have hf:∀i:Nat,f (fun _=>(fun _:Unit=>(i:Int)) ()+lo ())=f (fun _=>((l+i:Nat):Int)):=fun i=>by
   congr 1;funext _;show(i:Int)+lo ()=_;rw[aj];omega
  refine .isl s V _ tk b J (e-l) A (fun i j=>us (l+i) j) (by rw[ah];omega) ae U ab ?_ ?_ ?_ (by
   rcases ho with rfl|⟨rfl,rfl⟩
   ·exact H.sub Y (by omega) (by omega)
   exact H.sub Y (by omega) (by rw[Nat.sub_self,ey];omega))
  ·intro i hi;show(f (fun _=>(fun _:Unit=>(i:Int)) ()+lo ())).length=s;rw[hf];exact hl _ (by omega)
  ·intro i j c hi I;replace I:(f (fun _=>(fun _:Unit=>(i:Int)) ()+lo ()))[j]? =some c:=I;rw[hf]at I;have:=ac (l+i) j c (by omega) I;have ho:J=o+l*s:=ho.resolve_right (fun⟨_,e'⟩=>by omega);rwa [show J+i*s+j=o+(l+i)*s+j from by rw[dH];omega]
  intro i j c hi I;replace I:(f (fun _=>(fun _:Unit=>(i:Int)) ()+lo ()))[j]? =some c:=I;rw[hf]at I;exact ai (l+i) j c (by omega) I
theorem VR.isl_mk {s:Nat} {n:Unit->Int} {f:(Unit->Int)->List AV} {tk:Tk} {u:Value} (h:PR R.w R.ok (.isl s n f tk) u):VR R (.isl s n f tk) u:=.pure _ _ h
theorem JU {t e:TypeId} {j:TypeInfo} (I:P.underlying t=some (.slice e)) (H:P.info? e=some j) (w:World) (a:Option Addr) (len cap:Nat) (lo hi A:Option Value) (l x m:Nat)
  (G:(cX true len cap lo hi A).run P w= .ok (l,x,m) w):
  (eP t (.slice a len cap) lo hi A).run P w= .ok (.slice (if m=l then a else a.map (·.add (l*j.size))) (x-l) (m-l)) w:=by
 simp only[eP,aP,Zu I,aH,Instr.slice,G,Z0 H,bC]
theorem ZfQ {t:TypeId} {T:TI} (hT:ZC P t=some T) (H:HR G R h) {x v:AV} {lo hi mx:Option AV} {J V I:Option Value} {c:Cd} {u:Value} (hx:VR R x u)
  (h1:∀a,lo=some a->∃y,J=some y/\VR R a y) (al:lo=none->J=none) (h2:∀a,hi=some a->∃y,V=some y/\VR R a y) (ao:hi=none->V=none)
  (h3:∀a,mx=some a->∃y,I=some y/\VR R a y) (ac:mx=none->I=none) (hv:Zfv T x lo hi mx=some (v,c)) (hc:ZT c):
  ∃y,(eP t u J V I).run P R.w= .ok y R.w/\VR R v y:=by
 unfold Zfv at hv;split at hv;case h_4=>cases hv
 case h_2=>
  rename_i el ae eb id s o n c hk;obtain⟨j,hu,hj,hs,_⟩:=Jo hT hk;split at hv
  ·cases hv
  rename_i ah;have ah:s=ae:=ZB (by simpa using ah);subst ah;cases hx with
  |pure _ _ hp=>cases hp
  |msl _ _ _ _ _ i len A au az hn bt a9=>
  split at hv
  ·rename_i kl l;obtain rfl:V=none:=ao rfl;obtain rfl:I=none:=ac rfl;obtain⟨y,rfl,hy⟩:=h1 _ rfl;obtain rfl:=hy.int_inv;simp only[aC,aK]at hv;obtain⟨rfl,rfl⟩:=hv;obtain⟨U,ai,ba⟩:=(Cn.out (hc _ (aN.2 rfl)));obtain⟨Y,aa⟩:=bS U
   refine⟨_,JU hu hj R.w _ len A _ _ _ Y len A (by
    simp[cX,run_sliceBound,aa,show(Y:Int)<=(len:Int)from by omega]),?_⟩
   have Z:(if A=Y then some (⟨(R.α id).b,(R.α id).o+i*s,none⟩:Addr)else(some (⟨(R.α id).b,(R.α id).o+i*s,none⟩:Addr)).map (·.add (Y*j.size)))=some ⟨(R.α id).b,(R.α id).o+(i+Y)*s,none⟩:=by
    by_cases e:A=Y
    ·have:Y=0:=by omega
     subst this;rw[if_pos e,dQ]
    rw[if_neg e,cL,Qx,hs,dH,dG]
   rw[Z];exact .msl _ _ _ _ _ (i+Y) (len-Y) (A-Y) au (by show o ()+l ()=_;omega) (by show n ()-l ()=_;omega) (by show c ()-l ()=_;omega) (by omega)
  ·rename_i kh x;obtain rfl:J=none:=al rfl;obtain rfl:I=none:=ac rfl;obtain⟨y,rfl,hy⟩:=h2 _ rfl;obtain rfl:=hy.int_inv;simp only[aC,aK]at hv;obtain⟨rfl,rfl⟩:=hv;obtain⟨U,ai⟩:=(Cn.out (hc _ (aN.2 rfl)));obtain⟨S,ab⟩:=bS U
   refine⟨_,JU hu hj R.w _ len A _ _ _ 0 S A (by
    simp[cX,run_sliceBound,ab,show(S:Int)<=(A:Int)from by omega]),?_⟩
   have Z:(if A=0 then some (⟨(R.α id).b,(R.α id).o+i*s,none⟩:Addr)else(some (⟨(R.α id).b,(R.α id).o+i*s,none⟩:Addr)).map (·.add (0*j.size)))=some ⟨(R.α id).b,(R.α id).o+i*s,none⟩:=by
    split
    ·rfl
    rw[cL,Qx,ey,dQ]
   rw[Z];exact .msl _ _ _ _ _ i (S-0) (A-0) au az (by omega) (by omega) (by omega)
  cases hv
 case h_3=>
  rename_i n ae id ak hk;obtain⟨e,j,hu,hj,hs⟩:=Zjq hT hk;split at hv;case h_2=>cases hv
  split at hv;case isFalse=>cases hv
  rename_i bc;simp only[aT]at bc;have bh:=ZB bc.2;simp only[aC,aK]at hv;obtain⟨rfl,rfl⟩:=hv;obtain rfl:J=none:=al rfl;obtain rfl:V=none:=ao rfl;obtain rfl:I=none:=ac rfl;cases hx with
  |pure _ _ hp=>cases hp
  |ptr _ _ au=>
  refine⟨.slice (some ⟨(R.α id).b,(R.α id).o+ak/ae*ae,none⟩) n n,?_,.msl _ _ _ _ _ (ak/ae) n n au rfl rfl rfl (aJ _)⟩;have Z:(if n=0 then(⟨(R.α id).b,(R.α id).o+ak,none⟩:Addr)else Addr.add ⟨(R.α id).b,(R.α id).o+ak,none⟩ (0*j.size))=⟨(R.α id).b,(R.α id).o+ak,none⟩:=by
   split
   ·rfl
   rw[Qx,ey,dQ]
  have Z:=Z;simp only[eP,aP,Zu hu,aH,cP,bC,cX,Z0 hj,Z,fH,bh]
 rename_i el ae eb s n f tk hk;obtain⟨j,hu,hj,hs,_⟩:=Jo hT hk;split at hv
 ·cases hv
 rename_i ah;have ah:s=ae:=ZB (by simpa using ah);subst ah;have hp:=hx.isl_inv;have bg:0<=n ():=by cases hp<;>omega
 have fin:∀(l e:Nat) (n' aq:Unit->Int) (aj:Tk),l<=e->(e:Int)<=n ()->n' ()=(e:Int)-l->aq ()=(l:Int)->(aj= .none\/aj= .exact)->
   (∀a len A,u= .slice a len A->(len:Int)=n ()->len<=A->∃m,e<=m/\(aj= .exact->m=e)/\(A=0->m=0)/\(cX true len A J V I).run P R.w= .ok (l,e,m) R.w)->
   ∃y,(eP t u J V I).run P R.w= .ok y R.w/\VR R (.isl s n' (fun x=>f (fun _=>x ()+aq ())) aj) y:=by
  intro l e n' aq aj a9 bm bp az bo hb;rcases ZsK H hp l e a9 bm n' aq bp az aj bo with⟨a0,rfl,bq,rfl,rfl,h4⟩|⟨b,o,len,A,rfl,am,bk,h4⟩
  ·obtain⟨m,bl,_,ap,hb⟩:=hb a0 0 0 rfl (by omega) (by omega);have:=ap rfl;subst this;exact⟨_,JU hu hj R.w a0 0 0 J V I 0 0 0 hb,.isl_mk (by simpa using h4)⟩
  obtain⟨m,bl,ap,_,hb⟩:=hb _ len A rfl am bk;refine⟨_,JU hu hj R.w _ len A J V I l e m hb,?_⟩;by_cases hml:m=l
  ·rw[if_pos hml];exact .isl_mk (h4 o (m-l) (.inr ⟨rfl,by omega⟩) (by omega) (fun S=>by rw[ap S]))
  rw[if_neg hml];simp only[cL,Qx,hs];exact .isl_mk (h4 _ (m-l) (.inl rfl) (by omega) (fun S=>by rw[ap S]))
 have aw:(fun x:Unit->Int=>f (fun _=>x ()+(fun _:Unit=>(0:Int)) ()))=f:=by
  funext x;congr 1;funext _;simp
 split at hv
 ·obtain rfl:J=none:=al rfl;obtain rfl:V=none:=ao rfl;obtain rfl:I=none:=ac rfl;simp only[aC,aK]at hv;obtain⟨rfl,rfl⟩:=hv;obtain⟨len,am⟩:=bS bg
  have:=fin 0 len n (fun _=>0) .none (by omega) (by omega) (by omega) rfl (by simp) (fun a ln A _ hl ar=>⟨A,by omega,(fun h=>by cases h),fun e=>e,by
   have:ln=len:=by omega
   subst this
   simp[cX]⟩)
  rw[aw]at this;exact this
 ·rename_i kl l;obtain rfl:V=none:=ao rfl;obtain rfl:I=none:=ac rfl;obtain⟨y,rfl,hy⟩:=h1 _ rfl;obtain rfl:=hy.int_inv;simp only[aC,aK]at hv;obtain⟨rfl,rfl⟩:=hv;obtain⟨U,ai⟩:=(Cn.out (hc _ (aN.2 rfl)));obtain⟨Y,aa⟩:=bS U;obtain⟨len,am⟩:=bS bg
  exact fin Y len _ l .none (by omega) (by omega) (by omega) aa (by simp) (fun a ln A _ hl ar=>⟨A,by omega,(fun h=>by cases h),fun e=>e,by
   have:ln=len:=by omega
   subst this
   simp[cX,run_sliceBound,aa,show(Y:Int)<=(ln:Int)from by omega]⟩)
 ·rename_i kh x;obtain rfl:J=none:=al rfl;obtain rfl:I=none:=ac rfl;obtain⟨y,rfl,hy⟩:=h2 _ rfl;obtain rfl:=hy.int_inv;simp only[aC,aK]at hv;obtain⟨rfl,rfl⟩:=hv;obtain⟨U,ai⟩:=(Cn.out (hc _ (aN.2 rfl)));obtain⟨S,ab⟩:=bS U
  have:=fin 0 S x (fun _=>0) .none (by omega) (by omega) (by omega) rfl (by simp) (fun a ln A _ hl ar=>⟨A,by omega,(fun h=>by cases h),fun e=>e,by
   simp[cX,run_sliceBound,ab,show(S:Int)<=(A:Int)from by omega]⟩)
  rw[aw]at this;exact this
 ·rename_i kl l kh x;obtain rfl:I=none:=ac rfl;obtain⟨y,rfl,hy⟩:=h1 _ rfl;obtain⟨z,rfl,hz⟩:=h2 _ rfl;obtain rfl:=hy.int_inv;obtain rfl:=hz.int_inv;simp only[aC,aK]at hv;obtain⟨rfl,rfl⟩:=hv;obtain⟨U,ai,ba⟩:=(Cn.out (hc _ (aN.2 rfl)));obtain⟨Y,aa⟩:=bS U;obtain⟨S,ab⟩:=bS (show 0<=x () by omega)
  exact fin Y S _ l .none (by omega) (by omega) (by omega) aa (by simp) (fun a ln A _ hl ar=>⟨A,by omega,(fun h=>by cases h),fun e=>e,by
   simp[cX,run_sliceBound,aa,ab,show(S:Int)<=(A:Int)from by omega,show(Y:Int)<=(S:Int)from by omega]⟩)
 ·rename_i kh x km m;obtain rfl:J=none:=al rfl;obtain⟨y,rfl,hy⟩:=h2 _ rfl;obtain⟨z,rfl,hz⟩:=h3 _ rfl;obtain rfl:=hy.int_inv;obtain rfl:=hz.int_inv;simp only[aC,aK]at hv;obtain⟨rfl,rfl⟩:=hv;obtain⟨U,ai,ba⟩:=(Cn.out (hc _ (aN.2 rfl)));obtain⟨S,ab⟩:=bS U
  have:=fin 0 S x (fun _=>0) .exact (by omega) (by omega) (by omega) rfl (by simp) (fun a ln A _ hl ar=>⟨S,aJ _,fun _=>rfl,fun e=>by omega,by
   simp[cX,run_sliceBound,ab,<-ai,show(S:Int)<=(A:Int)from by omega]⟩)
  rw[aw]at this;exact this
 cases hv
theorem Zof {R:RC} {a:Option AV} {c:Cd} {u:Option Value} (h:zb a=some c) (G:ZT c) (I:∀x,a=some x->∃y,u=some y/\VR R x y) (A:a=none->u=none):u=none\/∃k,u=some (.int k 0):=by
 unfold zb at h;split at h
 ·exact .inl (A rfl)
 ·simp only[aC]at h;subst h;obtain⟨y,rfl,H⟩:=I _ rfl;obtain rfl:=H.int_inv;exact .inr ⟨_,by rw[Cn.out (G _ (aN.2 rfl))]⟩
 cases h
theorem Zm6 {t:TypeId} {T:TI} (hT:ZC P t=some T) (H:HR G R h) {x v:AV} {lo hi mx:Option AV} {S A I:Option Value} {c:Cd} {u:Value} (hx:VR R x u)
  (h1:∀a,lo=some a->∃y,S=some y/\VR R a y) (V:lo=none->S=none) (Z:∀a,hi=some a->∃y,A=some y/\VR R a y) (U:hi=none->A=none)
  (h3:∀a,mx=some a->∃y,I=some y/\VR R a y) (J:mx=none->I=none) (hv:ZfR T x lo hi mx=some (v,c)) (hc:ZT c):
  ∃y,(eP t u S A I).run P R.w= .ok y R.w/\VR R v y:=by
 unfold ZfR at hv;split at hv;case h_2=>exact ZfQ hT H hx h1 V Z U h3 J hv hc
 rename_i el aj eb s n f hk;split at hv
 ·exact ZfQ hT H hx h1 V Z U h3 J hv hc
 split at hv;case h_2=>cases hv
 rename_i a b c' ha hb ai;split at hv;case isFalse=>cases hv
 rename_i ac;simp only[aC,aK]at hv;obtain⟨rfl,rfl⟩:=hv;obtain⟨ah,Y⟩:=Z1 hc;obtain⟨Y,ae⟩:=Z1 Y;obtain⟨j,hu,hj,hs,_⟩:=Jo hT hk;have aa:u= .slice none 0 0:=by
  cases hx with
  |pure _ _ hp=>
   cases hp with
   |isl0 _ _ _ _ hz _=>rfl
   |islE _ _ _ _ _ _ ht=>rcases ht with h|h<;>cases h
   |isl _ _ _ _ _ _ _ _ _ _ _ ht _ _ _ _ _=>rcases ht with h|h<;>cases h
 subst aa;refine⟨.slice none 0 0,?_,hx⟩;have ab:A=none->I=none:=fun e=>by
  cases mx with
  |none=>exact J rfl
  |some m=>
   cases hi with
   |none=>simp at ac
   |some m=>obtain⟨y,e',_⟩:=Z _ rfl;rw[e]at e';cases e'
 have:=JU hu hj R.w none 0 0 S A I 0 0 0 (by
  rcases Zof ha ah h1 V with rfl|⟨k1,rfl⟩<;>rcases Zof hb Y Z U with rfl|⟨k2,rfl⟩<;>rcases Zof ai ae h3 J with rfl|⟨k3,rfl⟩<;>first|(simp[cX,run_sliceBound];done)|(have:=ab rfl;cases this))
 simpa using this
end
end Vm
namespace Vm
open Go
def Za2 (P:Program) (t:TypeId) (us:Array Value):Value:=match P.underlying t with
 |some d=>if ZbC d then .agg us else us.getD 0 undef
 |none=>undef
section
variable {P:Program} {R:RC} {w:World}
theorem X0.part {cs:List AV} {us:Array Value} (H:X0 R cs us) (off k:Nat) (I:off+k<=us.size):X0 R ((cs.drop off).take k) (us.extract off (off+k)):=by
 refine⟨by rw[List.length_take,List.length_drop,H.1];simp;omega,fun j c A=>?_⟩;rw[cZ]at A;split at A
 ·rename_i G;rw[cY]at A;have:=H.2 _ c A;rw[aI]at this|-;rw[fj,if_pos (by omega)];exact this
 cases A
theorem Zcj:∀(k:Nat) {A G:List AV} {g:Unit->Bool},ZK A G=some g->∃I H,ZK (A.take k) (G.take k)=some I/\ZK (A.drop k) (G.drop k)=some H/\g ()=(I ()&&H ())
 |0,A,G,g,h=>⟨fun _=>true,g,by simp[ZK],by simpa using h,by simp⟩
 |k+1,[],[],g,h=>by
  simp only[ZK,aC]at h;subst h;exact⟨fun _=>true,fun _=>true,by simp[ZK],by simp[ZK],rfl⟩
 |k+1,[],_::_,g,h=>by simp[ZK]at h
 |k+1,x::A,[],g,h=>by cases x<;>simp[ZK]at h
 |k+1,x::A,y::G,g,h=>by
  cases x<;>cases y<;>simp only[ZK]at h<;>(try (cases h;done));rename_i kx nx ky ny;split at h;case isFalse=>cases h
  rename_i J;simp only[aG]at h;obtain⟨Z,S,rfl⟩:=h;obtain⟨I,H,Y,V,U⟩:=Zcj k S;exact⟨_,H,by simp only[List.take_succ_cons,ZK,if_pos J,Y,cL];rfl,V,by simp[U,Bool.and_assoc]⟩
theorem Zcg {m:Nat} {t:TypeId} {s:Nat} (h:XU P m t s=true):∃d,P.underlying t=some d/\(ZbC d=false->s=1):=by
 cases m with
 |zero=>simp[XU]at h
 |succ m=>
  unfold XU at h;split at h
  ·rename_i q A;exact⟨_,A,fun _=>ZB h⟩
  ·rename_i G A;exact⟨_,A,fun h=>by simp[ZbC]at h⟩
  ·rename_i n e A;exact⟨_,A,fun h=>by simp[ZbC]at h⟩
  cases h
theorem Zat {m:Nat} {t:TypeId} {i:TypeInfo} (h:XU P m t i.size=true) (hi:P.info? t=some i) (us:Array Value) (off:Nat) (J:off+i.size<=us.size):(part t us off).run P w= .ok (Za2 P t (us.extract off (off+i.size))) w:=by
 obtain⟨d,G,H⟩:=Zcg h;unfold part Za2;simp only[aP,ZaK G,aH,G];cases hd:ZbC d with
 |true=>simp[Z0 hi]
 |false=>
  have H:=H hd;have A:off<us.size:=by omega
  have e:us[off]? =some us[off]:=aY A;have I:(us.extract off (off+i.size)).getD 0 undef=us[off]:=by
   rw[aI,fj,if_pos (by omega),dQ,e];rfl
  simp[e,I]
theorem ZfY:∀(m:Nat) (t:TypeId) (s:Nat),XU P m t s=true->∀(d:Nat) (S J:List AV) (H I:Array Value) (g:Unit->Bool),X0 R S H->X0 R J I->H.size=s->I.size=s->ZK S J=some g->
  (Op.equalIn (d+m) t (Za2 P t H) (Za2 P t I)).run P w= .ok (g ()) w
 |0,_,_,h=>by simp[XU]at h
 |m+1,t,s,h=>by
  intro d S J H I g hx Y aq ar G;have IH:=ZfY m;have one:∀(t:TypeId) (i:TypeInfo) (A:Nat) (S J:List AV) (H I:Array Value) (g:Unit->Bool),X0 R S H->X0 R J I->H.size=I.size->P.info? t=some i->XU P m t i.size=true->A+i.size<=H.size->ZK ((S.drop A).take i.size) ((J.drop A).take i.size)=some g->
    ∃a b,(part t H A).run P w= .ok a w/\(part t I A).run P w= .ok b w/\(Op.equalIn (d+m) t a b).run P w= .ok (g ()) w:=fun t i A S J H I g hx Y au Z V hk G=>
   ⟨_,_,Zat V Z H A hk,Zat V Z I A (by omega),IH t i.size V d _ _ _ _ g (hx.part A i.size hk) (Y.part A i.size (by omega)) (by simp;omega) (by simp;omega) G⟩
  unfold XU at h;split at h
  ·rename_i q U;have h:=ZB h;subst h;have am:S.length=1:=by rw[hx.1,aq]
   have ap:J.length=1:=by rw[Y.1,ar]
   obtain⟨x,rfl⟩:=eI.1 am;obtain⟨y,rfl⟩:=eI.1 ap;cases x<;>cases y<;>simp only[ZK]at G<;>(try (cases G;done));rename_i kx nx ky ny;split at G;case isFalse=>cases G
   rename_i ak;obtain rfl:=Zej ak;simp only[cL,aC]at G;subst G;have e1:=(hx.2 0 _ rfl).int_inv;have e2:=(Y.2 0 _ rfl).int_inv;simp only[Za2,U,ZbC,aX,if_false,e1,e2];simp[Op.equalIn,Zu U]
  ·rename_i fs U;simp only[aT,cG]at h;have ah:P.fieldsOf t=fs:=by simp[Program.fieldsOf,U]
   simp only[Za2,U,ZbC,if_true];rw[show d+(m+1)=(d+m)+1 from rfl,run_equalIn_struct w (d+m) t H I (by rw[ah];exact U) h.1,ah];have ac:∀(fl:List Field) (A s:Nat) (g:Unit->Bool),Zes P (XU P m) fl A s=true->A+s=H.size->ZK (S.drop A) (J.drop A)=some g->(Op.eqFields (d+m) H I fl).run P w= .ok (g ()) w:=by
    intro fl;induction fl with
    |nil=>
     intro A s g V ho G;have V:=ZB V;have e1:S.drop A=[]:=bB (by rw[hx.1];omega);have e2:J.drop A=[]:=bB (by rw[Y.1];omega);rw[e1,e2]at G;simp only[ZK,aC]at G;subst G;rfl
    |cons f fl ih=>
     intro A s g V ho G;simp only[Zes,aT,bne_iff_ne,ne_eq]at V;obtain⟨⟨al,ab⟩,hr⟩:=V;have ab:=ZB ab;split at hr;case h_2=>cases hr
     rename_i i Z;simp only[aT]at hr;obtain⟨⟨ai,ao⟩,ae⟩:=hr;have ai:=QT ai;obtain⟨g1,g2,h1,h2,h3⟩:=Zcj i.size G;obtain⟨a,b,p1,p2,p3⟩:=one f.type i A S J H I g1 hx Y (by omega) Z ao (by omega) h1;rw[ge,ge]at h2;have aa:=ih (A+i.size) (s-i.size) g2 ae (by omega) h2;rw[h3];simp only[Op.eqFields,if_pos al,aP,ab,p1,p2,p3,aH];cases g1 ()with
     |false=>simp
     |true=>
      simp only[dY,aX,if_false,fO];exact aa
   exact ac fs.toList 0 s g h.2 (by omega) (by simpa using G)
  ·rename_i n e U;split at h;case h_2=>cases h
   rename_i i Z;simp only[aT]at h;have hn:=ZB h.1;have hc:P.cellsOf e=i.size:=by simp[Program.cellsOf,Z]
   simp only[Za2,U,ZbC,if_true];rw[show d+(m+1)=(d+m)+1 from rfl,run_equalIn_array w (d+m) H I U Z,hc,List.range_eq_range'];have ac:∀(k j:Nat) (g:Unit->Bool),(j+k)*i.size=H.size->ZK (S.drop (j*i.size)) (J.drop (j*i.size))=some g->(Op.eqItems (d+m) e i.size H I (eH j k)).run P w= .ok (g ()) w:=by
    intro k;induction k with
    |zero=>
     intro j g ho G;rw[dQ]at ho;have e1:S.drop (j*i.size)=[]:=bB (by rw[hx.1];omega);have e2:J.drop (j*i.size)=[]:=bB (by rw[Y.1];omega);rw[e1,e2]at G;simp only[ZK,aC]at G;subst G;rfl
    |succ k ih=>
     intro j g ho G;obtain⟨g1,g2,h1,h2,h3⟩:=Zcj i.size G;have aj:j*i.size+i.size<=H.size:=by
      have:(j+1)*i.size<=(j+(k+1))*i.size:=aL _ (by omega);rw[bI]at this;omega
     obtain⟨a,b,p1,p2,p3⟩:=one e i (j*i.size) S J H I g1 hx Y (by omega) Z h.2 aj h1;rw[ge,ge,<-bI]at h2;have aa:=ih (j+1) g2 (by rw[<-ho];congr 1;omega) h2;rw[h3,List.range'_succ];simp only[Op.eqItems,aP,p1,p2,p3,aH];cases g1 ()with
     |false=>simp
     |true=>
      simp only[dY,aX,if_false,fO];exact aa
   exact ac n 0 g (by rw[dA];omega) (by simpa using G)
  cases h
end
end Vm
namespace Vm
open Go
section
variable {P:Program} {R:RC} {G:Nat->Nat->Nat->Prop} {h:List Zh}
theorem Zkx {E:Operand->AV} {ρ:Operand->Value} {xs:Array Operand} (H:∀x∈xs,VR R (E x) (ρ x)):
  ∀j a,(xs.toList.map E)[j]? =some a->VR R a ((xs.toList.map ρ).getD j Go.undef):=fun j a G=>by
 rw[aO,aG]at G;obtain⟨x,A,rfl⟩:=G;rw[aA,aO,A,cL,bY];exact H x (by rw[<-cM];exact aZ A)
theorem ZeF {E:Operand->AV} {ρ:Operand->Value} {xs:Array Operand} (A:∀x∈xs,VR R (E x) (ρ x)):
  (xs.toList.map E).length=(xs.map ρ).size/\∀j a,(xs.toList.map E)[j]? =some a->VR R a ((xs.map ρ).getD j Go.undef):=by
 refine⟨by simp,fun j a G=>?_⟩;have:=Zkx A j a G;rw[aI];rwa [aA,aO,bN,<-Array.getElem?_map]at this
theorem Yz:∀(n:Nat) (A:List Int),(Qv n A).length=n
 |0,_=>rfl
 |n+1,A=>by simp[Qv,Yz n]
theorem ZgU (R:RC):∀(n:Nat) (d:Unit->List Int),(Y4 n d).length=(Qv n (d ())).length/\∀(j:Nat) c,(Y4 n d)[j]? =some c->VR R c ((Qv n (d ())).getD j Go.undef)
 |0,d=>⟨rfl,fun j c h=>by simp[Y4]at h⟩
 |n+1,d=>by
  obtain⟨H,G⟩:=ZgU R n fun _=>(d ()).tail;refine⟨by simp[Y4,Qv,H],fun j c A=>?_⟩;cases j with
  |zero=>
   simp only[Y4,bJ,aC]at A;subst A;exact .pure _ _ (.int _ _)
  |succ j=>exact G j c A
theorem Zcl (R:RC) (n:Nat) (d:Unit->List Int):X0 R (Y4 n d) (Qv n (d ())).toArray:=by
 obtain⟨H,A⟩:=ZgU R n d;exact⟨by simpa using H,fun j c G=>by simpa using A j c G⟩
theorem ZaF (R:RC) (n:Nat) (d:Unit->List Int):VR R (ZeR n d) (Xf n (d ())):=by
 cases n with
 |zero=>exact .pure _ _ (.int _ _)
 |succ n=>
  obtain⟨G,A⟩:=Zcl R (n+1) d;exact .agg _ _ G A
theorem ZgO:∀(n:Nat) (x y:List Int),x.length=n->y.length=n->∃g,ZK (Y4 n fun _=>x) (Y4 n fun _=>y)=some g/\g ()=decide (x=y)
 |0,x,y,hx,hy=>by
  rw[gH]at hx hy;subst hx hy;exact⟨_,rfl,rfl⟩
 |n+1,[],y,hx,hy=>by cases hx
 |n+1,a::x,[],hx,hy=>by cases hy
 |n+1,a::x,b::y,hx,hy=>by
  obtain⟨g,G,A⟩:=ZgO n x y (by simpa using hx) (by simpa using hy);refine⟨fun _=>a==b&&g (),?_,?_⟩
  ·simp only[Y4,ZK,J5,if_true,List.tail_cons,List.headD_cons];rw[G];rfl
  rw[A];by_cases hab:a=b
  ·subst hab;simp
  simp[hab]
theorem Zel:∀ {cs:List AV} {g:Unit->List Int},Zem cs=some g->(g ()).length=cs.length/\∀A:List Value,cs.length=A.length->(∀(j:Nat) c,cs[j]? =some c->VR R c (A.getD j Go.undef))->A=Qv cs.length (g ())
 |[],g,h=>by
  simp only[Zem,aC]at h;subst h;refine⟨rfl,fun A G _=>?_⟩;rw[List.length_nil]at G;rw[gH.1 G.symm];rfl
 |a::r,g,h=>by
  unfold Zem at h;split at h
  ·rename_i H;cases H
  ·rename_i Z Y H;cases H;split at h
   ·rename_i g' U;cases h;obtain⟨J,V⟩:=Zel U;refine⟨by simp[J],fun A G hr=>?_⟩;match A,G with
    |u::A,G=>
     have I:=(hr 0 _ rfl).int_inv;simp only[fb]at I;rw[I,V A (by simpa using G) fun j c S=>by simpa using hr (j+1) c (by simpa using S)];simp[Qv,J]
   cases h
  cases h
theorem ZdI {Y:TypeId} {H:Nat} {k:AV} {g:Unit->List Int} {u:Value} (A:Zhk (tyP P) Y H k=some g) (S:VR R k u):u=Xf H (g ())/\(g ()).length=ZjX H/\keyT P Y H=true:=by
 unfold Zhk at A;split at A
 ·rename_i a;split at A
  ·rename_i G;simp only[aT]at G;have e:=ZB G.1;subst e;cases A;exact⟨by rw[S.int_inv];rfl,rfl,G.2⟩
  cases A
 ·rename_i cs;split at A
  ·rename_i G;simp only[aT]at G;obtain⟨⟨e,I⟩,J⟩:=G;have e:=ZB e;have I:=Zaw I;obtain⟨V,rfl,hl,hr⟩:=S.agg_inv;obtain⟨Z,h2⟩:=Zel (R:=R) A;have U:=h2 V.toList (by simpa using hl) fun j c hj=>by simpa using hr j c hj
   subst e;obtain⟨m,hm⟩:∃m,cs.length=m+1:=⟨cs.length-1,by omega⟩;rw[hm]at Z U J|-;refine⟨?_,Z,J⟩;show Value.agg V= .agg (Qv (m+1) (g ())).toArray;rw[<-U]
  cases A
 cases A
theorem Zna {H:TypeId} {n:Nat} (h:keyT P H (n+1)=true) {x y:List Int} (U:x.length=n+1) (S:y.length=n+1) (R:RC) (w:World):(Op.equal H (Xf (n+1) x) (Xf (n+1) y)).run P w= .ok (decide (x=y)) w:=by
 simp only[keyT,aT]at h;obtain⟨A,G⟩:=h;obtain⟨d,I,_⟩:=Zcg A;rw[I]at G;obtain⟨g,V,J⟩:=ZgO (n+1) x y U S;have:=ZfY (w:=w) 5 H (n+1) A 9995 _ _ _ _ g (Zcl R (n+1) fun _=>x) (Zcl R (n+1) fun _=>y) (by simp[Yz]) (by simp[Yz]) V;rw[J]at this;simp only[Za2,I,G,if_true]at this;exact this
theorem Zag (em:Bool) {w:World}:∀(m:Nat) (t:TypeId) (s:Nat),XU P m t s=true->∀(d:Nat) (H:Array Value),H.size=s->(cW em (d+m) t (Za2 P t H)).run P w= .ok () w
 |0,_,_,h=>by simp[XU]at h
 |m+1,t,s,h=>by
  intro d H ae;have IH:=Zag em (w:=w) m;have one:∀(t:TypeId) (i:TypeInfo) (G:Nat),P.info? t=some i->XU P m t i.size=true->G+i.size<=H.size->∃a,(part t H G).run P w= .ok a w/\(cW em (d+m) t a).run P w= .ok () w:=fun t i G V U hk=>
   ⟨_,Zat U V H G hk,IH t i.size U d _ (by simp;omega)⟩
  unfold XU at h;split at h
  ·rename_i q I;rw[show d+(m+1)=(d+m)+1 from rfl,cW];simp only[aP,Zu I,aH,bC]
  ·rename_i fs I;simp only[aT,cG]at h;simp only[Za2,I,ZbC,if_true];rw[show d+(m+1)=(d+m)+1 from rfl,cW];simp only[aP,Zu I,aH];rw[<-Array.forIn_toList];have A:∀(fl:List Field) (G s:Nat),Zes P (XU P m) fl G s=true->G+s=H.size->∀f∈fl,f.name≠ "_" /\∃a,(part f.type H f.offset).run P w= .ok a w/\(cW em (d+m) f.type a).run P w= .ok () w:=by
    intro fl;induction fl with
    |nil=>intro G s _ _ f U;cases U
    |cons f fl Z=>
     intro G s U ho g S;simp only[Zes,aT,bne_iff_ne,ne_eq]at U;obtain⟨⟨Y,J⟩,hr⟩:=U;have J:=ZB J;split at hr;case h_2=>cases hr
     rename_i i V;simp only[aT]at hr;obtain⟨⟨ab,ac⟩,aa⟩:=hr;have ab:=QT ab;rcases bG.1 S with rfl|S
     ·rw[J];exact⟨Y,one g.type i G V ac (by omega)⟩
     exact Z (G+i.size) (s-i.size) aa (by omega) g S
   have A:=A fs.toList 0 s h.2 (by omega);generalize fs.toList=fl at A;induction fl with
   |nil=>simp
   |cons f fl Z=>
    obtain⟨Y,a,p1,p2⟩:=A f (aU ..);simp only[gJ,aP,ne_eq,Y,not_false_eq_true,if_true,p1,p2,aH,bC];exact Z fun g S=>A g (aQ _ S)
  ·rename_i n e I;split at h;case h_2=>cases h
   rename_i i V;simp only[aT]at h;have hn:=ZB h.1;simp only[Za2,I,ZbC,if_true];rw[show d+(m+1)=(d+m)+1 from rfl,cW];simp only[aP,Zu I,aH];simp only[Std.Legacy.Range.forIn_eq_forIn_range',Std.Legacy.Range.size,fH,Nat.add_one_sub_one,Nat.div_one];have A:∀j∈eH 0 n,∃a,(part e H (j*i.size)).run P w= .ok a w/\(cW em (d+m) e a).run P w= .ok () w:=fun j hj=>by
    have hj:j<n:=by simpa using hj
    have:(j+1)*i.size<=n*i.size:=aL _ (by omega);rw[bI]at this;exact one e i (j*i.size) V h.2 (by omega)
   generalize eH 0 n=js at A;induction js with
   |nil=>simp
   |cons j js Z=>
    obtain⟨a,p1,p2⟩:=A j (aU ..);simp only[gJ,aP,Z0 V,p1,p2,aH,bC];exact Z fun g S=>A g (aQ _ S)
  cases h
theorem ZcW (J:Bool) {G:TypeId} {A:Nat} (h:keyT P G A=true) {x:List Int} (Y:x.length=ZjX A) (w:World):(cW J 10000 G (Xf A x)).run P w= .ok () w:=by
 cases A with
 |zero=>
  unfold keyT at h;simp only at h;split at h
  ·rename_i V;have U:∀d,(cW J (d+1) G (.int .i64 (x.headD 0))).run P w= .ok () w:=fun d=>by
    simp only[cW,aP,Zu V,aH,bC]
   exact U 9999
  cases h
 |succ n=>
  simp only[keyT,aT]at h;obtain⟨H,I⟩:=h;obtain⟨d,S,_⟩:=Zcg H;rw[S]at I;have:=Zag J (w:=w) 5 G (n+1) H 9995 (Qv (n+1) x).toArray (by simp[Yz]);simp only[Za2,S,I,if_true]at this;exact this
theorem Zdv {α:Type} {V:α->Value->Prop} {S:TypeId} {Y:Nat} (h:keyT P S Y=true) {x:List Int} (hx:x.length=ZjX Y) (R:RC) (w:World) {l:List (MapEntry×(List Int×α))} {es:Array MapEntry} {clk:Nat} {L:List (List Int×α)} (hm:Zrf Y V l es clk L):
  ((dN S (Xf Y x) es.toList).run P w= .ok none w/\∀p∈l,p.2.1≠x)\/∃(i:Nat) (p:MapEntry×(List Int×α)),l[i]? =some p/\p.2.1=x/\(dN S (Xf Y x) es.toList).run P w= .ok (some (i,p.1.val)) w:=by
 rw[<-hm.es];have A:=hm.e;clear hm;cases Y with
 |zero=>
  unfold keyT at h;simp only at h;split at h;case h_2=>cases h
  rename_i hu;have Z:∀(l:List (MapEntry×(List Int×α))) (i:Nat),(∀p∈l,p.1.key=Xf 0 p.2.1/\V p.2.2 p.1.val/\p.2.1.length=ZjX 0/\p.1.born<clk)->
    (dO (.int .i64) (Xf 0 x) (l.map (·.1)) i=some none/\∀p∈l,p.2.1≠x)\/∃(k:Nat) (p:MapEntry×(List Int×α)),l[k]? =some p/\p.2.1=x/\dO (.int .i64) (Xf 0 x) (l.map (·.1)) i=some (some (i+k,p.1.val)):=by
   intro l;induction l with
   |nil=>exact fun i _=>.inl ⟨rfl,fun p hp=>by cases hp⟩
   |cons p l ih=>
    intro i A;obtain⟨k1,_,k2,_⟩:=A p (aU ..);obtain⟨a,rfl⟩:=eI.1 hx;obtain⟨b,hb⟩:=eI.1 k2;have hs:Instr.sameNow (.int .i64) (Xf 0 [a]) p.1.key=some (a==b):=by rw[k1,hb];simp[Instr.sameNow,Xf]
    by_cases hab:a=b
    ·subst hab;refine .inr ⟨0,p,rfl,hb,?_⟩;simp[dO,hs]
    have ai:Instr.sameNow (.int .i64) (Xf 0 [a]) p.1.key=some false:=by rw[hs];simp[hab]
    have U:dO (.int .i64) (Xf 0 [a]) ((p::l).map (·.1)) i=dO (.int .i64) (Xf 0 [a]) (l.map (·.1)) (i+1):=by
     simp[dO,ai]
    rcases ih (i+1) fun q I=>A q (aQ _ I)with⟨H,G⟩|⟨k,q,H,G,J⟩
    ·refine .inl ⟨by rw[U,H],fun q I=>?_⟩;rcases bG.1 I with rfl|I
     ·rw[hb];simp only[ne_eq,cB,and_true];exact fun e=>hab e.symm
     exact G q I
    exact .inr ⟨k+1,q,by simpa using H,G,by rw[U,J];congr 3;omega⟩
  rcases Z l 0 A with⟨H,G⟩|⟨k,p,H,G,J⟩
  ·exact .inl ⟨by simp only[dN,aP,Zu hu,aH,H,bC],G⟩
  exact .inr ⟨k,p,H,G,by simp only[dN,aP,Zu hu,aH,J,bC,dA]⟩
 |succ n=>
  have ae:=h;simp only[keyT,aT]at h;obtain⟨ah,ab⟩:=h;obtain⟨d,hd,_⟩:=Zcg ah;rw[hd]at ab;have Z:∀(l:List (MapEntry×(List Int×α))) (i:Nat),(∀p∈l,p.1.key=Xf (n+1) p.2.1/\V p.2.2 p.1.val/\p.2.1.length=ZjX (n+1)/\p.1.born<clk)->
    ((eD S (Xf (n+1) x) (l.map (·.1)) i).run P w= .ok none w/\∀p∈l,p.2.1≠x)\/∃(k:Nat) (p:MapEntry×(List Int×α)),l[k]? =some p/\p.2.1=x/\(eD S (Xf (n+1) x) (l.map (·.1)) i).run P w= .ok (some (i+k,p.1.val)) w:=by
   intro l;induction l with
   |nil=>exact fun i _=>.inl ⟨rfl,fun p hp=>by cases hp⟩
   |cons p l ih=>
    intro i A;obtain⟨k1,_,k2,_⟩:=A p (aU ..);have he:=Zna ae hx k2 R w;rw[<-k1]at he;by_cases hab:x=p.2.1
    ·refine .inr ⟨0,p,rfl,hab.symm,?_⟩;simp only[eD,bV,aP,he,aH,decide_eq_true_eq];rw[if_pos hab];rfl
    rcases ih (i+1) fun q I=>A q (aQ _ I)with⟨H,G⟩|⟨k,q,H,G,J⟩
    ·refine .inl ⟨by simp only[eD,bV,aP,he,aH,decide_eq_true_eq,hab,if_false];exact H,fun q I=>?_⟩;rcases bG.1 I with rfl|I
     ·exact fun e=>hab e.symm
     exact G q I
    exact .inr ⟨k+1,q,by simpa using H,G,by
     simp only[eD,bV,aP,he,aH,decide_eq_true_eq,hab,if_false];rw[show i+(k+1)=i+1+k by omega]
     exact J⟩
  have ac:∀l:List MapEntry,l≠ []->dO d (Xf (n+1) x) l 0=none:=fun l hl=>by
   cases l with
   |nil=>exact absurd rfl hl
   |cons e l=>cases d<;>first|(simp[ZbC]at ab;done)|rfl
  cases l with
  |nil=>exact .inl ⟨by simp only[dN,aP,Zu hd,aH,List.map_nil,dO,bC],fun p hp=>by cases hp⟩
  |cons p0 l=>
   have hn:=ac ((p0::l).map (·.1)) (by simp);have aa:∀r,(eD S (Xf (n+1) x) ((p0::l).map (·.1))).run P w= .ok r w->(dN S (Xf (n+1) x) ((p0::l).map (·.1))).run P w= .ok r w:=fun r hr=>by
    simp only[dN,aP,Zu hd,aH,hn];exact hr
   rcases Z (p0::l) 0 A with⟨H,G⟩|⟨k,p,H,G,J⟩
   ·exact .inl ⟨aa _ H,G⟩
   exact .inr ⟨k,p,H,G,by rw[dA]at J;exact aa _ J⟩
theorem ZcB {α:Type} {L:List (List Int×α)} (A:(L.map (·.1)).Nodup) {k:List Int} {d:α} (h:(k,d)∈L):L.lookup k=some d:=by
 induction L with
 |nil=>cases h
 |cons p L G=>
  obtain⟨a,b⟩:=p;rw[bV,ee]at A;rcases bG.1 h with h|h
  ·cases h;simp[eV]
  have:a≠k:=fun e=>A.1 (bE.2 ⟨(k,d),h,e.symm⟩);rw[eV,show(k==a)=false from by simpa using fun e=>this e.symm];exact G A.2 h
theorem ZjR {α:Type} {L:List (List Int×α)} {k:List Int} (h:∀p∈L,p.1≠k):L.lookup k=none:=by
 induction L with
 |nil=>rfl
 |cons p L A=>
  obtain⟨a,b⟩:=p;have:a≠k:=h (a,b) (aU ..);rw[eV,show(k==a)=false from by simpa using fun e=>this e.symm];exact A fun q G=>h q (aQ _ G)
theorem Zrf.keys {α:Type} {A:Nat} {V:α->Value->Prop} {l:List (MapEntry×(List Int×α))} {es:Array MapEntry} {clk:Nat} {L:List (List Int×α)} (hm:Zrf A V l es clk L):(L.map (·.1)).Nodup:=by
 have:=hm.L.map (·.1);rw[List.map_map]at this;exact this.nodup_iff.1 hm.nd
theorem ZeW {α:Type} {V:α->Value->Prop} {t kt et:TypeId} {G:Nat} (H:P.underlying t=some (.map kt et)) (Y:keyT P kt G=true) {x:List Int} (hx:x.length=ZjX G) (R:RC) {w:World} {es:Array MapEntry} {clk:Nat} {L:List (List Int×α)} {m:Value} (aa:(m= .map none/\es= #[])\/∃b,m= .map (some b)/\w.heap[b]? =some (.map es clk))
  (hm:ZeJ G V es clk L) {z:Value} {E:TI} (ae:ZC P et=some E) (hz:E.zero=some z) (ok:Bool):
  ∃v,(Instr.lookup t m (Xf G x) ok).run P w= .ok (if ok then .tuple #[v,.bool (L.lookup x).isSome]else v) w/\((L.lookup x=none/\v=z)\/∃d,L.lookup x=some d/\V d v):=by
 obtain⟨l,hm⟩:=hm;obtain⟨ie,de,ac,_,_,_,ab,_⟩:=Xu ae;have A:=fun em=>ZcW (P:=P) em Y hx w;have Z:(zeroValue et).run P w= .ok z w:=by simp[zeroValue,Xh ac,<-ab,hz]
 have hf:=Zdv Y hx R w hm
 have main:∀r,(dN kt (Xf G x) es.toList).run P w= .ok r w->(Instr.lookup t m (Xf G x) ok).run P w= .ok (match r with
   |some (_,v)=>if ok then .tuple #[v,.bool true]else v
   |none=>if ok then .tuple #[z,.bool false]else z) w:=fun r hr=>by
  have U:∀b,w.heap[b]? =some (.map es clk)->(getObj b).run P w= .ok (.map es clk) w:=fun b I=>by simp[getObj,Sem.run,I]
  unfold Instr.lookup;rcases aa with⟨rfl,rfl⟩|⟨b,rfl,I⟩
  ·cases r with
   |none=>simp only[aP,Zu H,aH,bC,A,hr,Z]
   |some p=>simp only[aP,Zu H,aH,bC,A,hr]
  cases r with
  |none=>simp only[aP,Zu H,aH,bC,U b I,A,hr,Z]
  |some p=>simp only[aP,Zu H,aH,bC,U b I,A,hr]
 rcases hf with⟨h1,h2⟩|⟨i,p,h1,h2,h3⟩
 ·have S:L.lookup x=none:=ZjR fun p J e=>by
   have:p∈l.map (·.2):=hm.L.mem_iff.2 J;obtain⟨q,hq,rfl⟩:=bE.1 this;exact h2 q hq e
  exact⟨z,by rw[S];exact main none h1,.inl ⟨S,rfl⟩⟩
 have J:=aZ h1;have ah:(x,p.2.2)∈L:=hm.L.mem_iff.1 (bE.2 ⟨p,J,by rw[<-h2]⟩);have hl:=ZcB hm.keys ah;exact⟨p.1.val,by rw[hl];exact main _ h3,.inr ⟨p.2.2,hl,(hm.e p J).2.1⟩⟩
theorem ZjB {ok:Bool} {v:AV} {b:Unit->Bool} {u:Value} (h:VR R v u):VR R (ZpY ok v b) (if ok then .tuple #[u,.bool (b ())]else u):=by
 cases ok with
 |false=>exact h
 |true=>
  refine .tup _ _ rfl fun j c A=>?_;match j,A with
  |0,A=>simp at A;subst A;exact h
  |1,A=>simp at A;subst A;exact .pure _ _ (.bool b)
theorem Zrq {z:Value} {n:Nat} (h:zN (some z)=some n):z=Xf n []:=by
 unfold zN at h;split at h
 ·rename_i U A;cases A;split at h
  ·rename_i S;cases h;rw[show U=0 from by simpa using S];rfl
  cases h
 ·rename_i cs A;cases A;split at h
  ·rename_i H;simp only[aT]at H;cases h;have Y:=Zaw H.2;obtain⟨m,hm⟩:∃m,cs.size=m+1:=⟨cs.size-1,by omega⟩;rw[hm];show Value.agg cs= .agg (Qv (m+1) []).toArray;have I:∀(l:List Value),l.all isZ=true->l=Qv l.length []:=by
    intro l;induction l with
    |nil=>intro _;rfl
    |cons a l J=>
     intro G;simp only[List.all_cons,aT]at G;have V:a= .int .i64 0:=by
      have:=G.1;unfold isZ at this;split at this
      ·rename_i q;rw[show q=0 from by simpa using this]
      cases this
     rw[List.length_cons];show a::l= .int .i64 0::Qv l.length [];rw[V,<-J G.2]
   have:=I cs.toList H.1;rw[Array.length_toList,hm]at this;rw[<-this]
  cases h
 cases h
theorem Zgu {t U G:TypeId} {Y n:Nat} {L:Unit->List (List Int×List Int)} {k v:AV} {c:Cd} {ok:Bool} {m u:Value} (hu:P.underlying t=some (.map U G)) (hv:ZdG (tyP P) U G Y n L k ok=some (v,c)) (hk:VR R k u) {es:Array MapEntry} {clk:Nat}
  (V:(m= .map none/\es= #[])\/∃b,m= .map (some b)/\R.w.heap[b]? =some (.map es clk)) (hm:ZeJ Y (fun xs v=>v=Xf n xs) es clk (L ())):∃y,(Instr.lookup t m u ok).run P R.w= .ok y R.w/\VR R v y:=by
 unfold ZdG at hv;split at hv;case h_2=>cases hv
 rename_i g hg;split at hv;case isFalse=>cases hv
 rename_i H;cases hv;obtain⟨rfl,h1,h2⟩:=ZdI hg hk;unfold zIs at H;split at H;case h_2=>cases H
 rename_i q A;have e:=ZB H;subst e;have A:zN ((ZC P G).bind (·.zero))=some q:=A;obtain⟨z,I⟩:∃z,(ZC P G).bind (·.zero)=some z:=by
  cases hh:(ZC P G).bind (·.zero)with
  |none=>rw[hh]at A;cases A
  |some z=>exact⟨z,rfl⟩
 rw[I]at A;obtain⟨T,hT,Z⟩:=ek.1 I;obtain⟨y,k1,k2⟩:=ZeW hu h2 h1 R V hm hT Z ok;refine⟨_,k1,ZjB ?_⟩;rcases k2 with⟨S,J⟩|⟨d,S,J⟩
 ·rw[J,Zrq A];have:=ZaF R q fun _=>((L ()).lookup (g ())).getD [];simp only[S,Option.getD_none]at this|-;exact this
 rw[J];have:=ZaF R q fun _=>((L ()).lookup (g ())).getD [];simp only[S,bY]at this|-;exact this
theorem ZeJ.nil {α:Type} {G:Nat} {V:α->Value->Prop}:ZeJ G V #[] 0 ([]:List (List Int×α)):=⟨[],rfl,.refl _,.nil,.nil,fun p A=>by cases A⟩
theorem Zch (x:Int):∀(es:List MapEntry) (i:Nat),(∀e∈es,∃y b,e.key= .int .i64 y/\e.val= .bool b)->
  (dO (.int .i64) (.int .i64 x) es i=some none/\(∀e∈es,e.key≠ .int .i64 x))\/
   ∃(k:Nat) (e:MapEntry),es[k]? =some e/\e.key= .int .i64 x/\(∀j A,j<k->es[j]? =some A->A.key≠ .int .i64 x)/\dO (.int .i64) (.int .i64 x) es i=some (some (i+k,e.val))
 |[],i,_=>.inl ⟨rfl,fun e he=>by cases he⟩
 |e::es,i,hall=>by
  obtain⟨y,b,S,hv⟩:=hall e (aU ..);have Z:Instr.sameNow (.int .i64) (.int .i64 x) e.key=some (x==y):=by rw[S];simp[Instr.sameNow]
  by_cases hxy:x=y
  ·subst hxy;refine .inr ⟨0,e,rfl,S,fun j A hj=>by omega,?_⟩;simp[dO,Z]
  have J:e.key≠ .int .i64 x:=by
   rw[S];intro Y;injection Y with _ Y;exact hxy Y.symm
  have aa:Instr.sameNow (.int .i64) (.int .i64 x) e.key=some false:=by rw[Z];simp[hxy]
  have H:dO (.int .i64) (.int .i64 x) (e::es) i=dO (.int .i64) (.int .i64 x) es (i+1):=by
   simp[dO,aa]
  rcases Zch x es (i+1) (fun A G=>hall A (aQ _ G))with⟨V,U⟩|⟨k,e1,V,U,h3,h4⟩
  ·exact .inl ⟨by rw[H,V],fun A G=>by
    rcases bG.1 G with rfl|G
    ·exact J
    exact U A G⟩
  refine .inr ⟨k+1,e1,by simpa using V,U,fun j A hj I=>?_,by rw[H,h4];congr 3;omega⟩;cases j with
  |zero=>simp only[bJ,aC]at I;subst I;exact J
  |succ j=>exact h3 j A (by omega) (by simpa using I)
theorem Zhe (d:Nat) {A:TypeId} (G:P.underlying A=some (.int .i64)) (b:Bool) (x:Int) (w:World):(cW b (d+1) A (.int .i64 x)).run P w= .ok () w:=by
 simp only[cW,aP,Zu G,aH,bC]
theorem Zdw {A:TypeId} (G:P.underlying A=some (.int .i64)) (b:Bool) (x:Int) (w:World):(cW b 10000 A (.int .i64 x)).run P w= .ok () w:=Zhe 9999 G b x w
theorem ZfX {w:World} {b:Nat} {es:Array MapEntry} {cl:Nat} (h:w.heap[b]? =some (.map es cl)):(getObj b).run P w= .ok (.map es cl) w:=by
 simp[getObj,Sem.run,h]
theorem VR.map_inv {id:Nat} {u:Value} (hv:VR R (.map id) u):u= .map (some (R.α id).b):=by
 cases hv with
 |pure _ _ A=>cases A
 |map _ _=>rfl
theorem Znw (H:HR G R h) {t kt et:TypeId} {E:TI} {id:Nat} {n:Unit->Int} {f:(Unit->Int)->Unit->Bool} {m k:Value} (hm:VR R (.map id) m) (hk:VR R (.int .i64 n) k)
  (hu:P.underlying t=some (.map kt et)) (hi:h[id]? =some (.mapB f)) (I:P.underlying kt=some (.int .i64)) (ah:ZC P et=some E) (hz:E.zero=some (.bool false)):
  (Instr.lookup t m k false).run P R.w= .ok (.bool (f n ())) R.w:=by
 obtain⟨es,cl,h1,h2,h3⟩:=H.blk id _ hi;rw[hm.map_inv,hk.int_inv];obtain⟨ie,de,ae,_,_,_,ac,_⟩:=Xu ah;have Z:f n=f (fun _=>n ()):=rfl;have aa:=Zdw (P:=P) I es.isEmpty (n ()) R.w;have Y:=ZfX (P:=P) h1;unfold Instr.lookup;rcases Zch (n ()) es.toList 0 h2 with⟨J,V⟩|⟨i,e,J,V,a3,a4⟩
 ·have hf:f n ()=false:=by
   rw[Z];rcases h3 (n ())with⟨_,U⟩|⟨i,e,A,U,_⟩
   ·exact U
   exact absurd U (V e (aZ A))
  simp only[aP,Zu hu,aH,Y,bC,aa,dN,Zu I,J,zeroValue,Xh ae,<-ac,hz,hf,aX,if_false]
 have hf:e.val= .bool (f n ()):=by
  rw[Z];rcases h3 (n ())with⟨A,_⟩|⟨i',e',A,U,b3,b4⟩
  ·exact absurd V (A e (aZ J))
  have ab:i=i':=by
   rcases Nat.lt_trichotomy i i' with S|S|S
   ·exact absurd V (b4 i e S J)
   ·exact S
   exact absurd U (a3 i' e' S A)
  subst ab;rw[J]at A;cases A;exact b3
 simp only[aP,Zu hu,aH,Y,bC,aa,dN,Zu I,a4,hf,aX,if_false]
theorem Zlr (H:HR G R h) {t:TypeId} {a b v:AV} {m k:Value} {ok:Bool} {c:Cd} (hm:VR R a m) (S:VR R b k) (hv:JL (tyP P) t a b ok h=some (v,c)) (hc:ZT c):∃y,(Instr.lookup t m k ok).run P R.w= .ok y R.w/\VR R v y:=by
 unfold JL at hv;split at hv;case h_2=>cases hv
 rename_i kt et I;split at hv
 ·rename_i id;split at hv
  ·rename_i f U;split at hv;case h_2=>cases hv
   rename_i n aa A;cases hv;obtain⟨T,hT,A⟩:=ek.1 A;exact⟨_,Znw H hm S I U aa hT A,.pure _ _ (.bool _)⟩
  ·rename_i ka n L U;obtain⟨o,Z,_,es,J,rfl,hg⟩:=H.blk id _ U;rw[hm.map_inv];exact Zgu I hv S (.inr ⟨_,rfl,Z⟩) hg
  ·rename_i ka kb n L U;split at hv;case h_2=>cases hv
   rename_i g hg A;cases hv;obtain⟨o,Z,_,es,J,rfl,ab⟩:=H.blk id _ U;obtain⟨rfl,h1,h2⟩:=ZdI hg S;obtain⟨T,hT,A⟩:=ek.1 A;obtain⟨y,k1,k2⟩:=ZeW (m:=m) I h2 h1 R (.inr ⟨_,hm.map_inv,Z⟩) ab hT A ok;refine⟨_,k1,ZjB (b:=fun _=>((L ()).lookup (g ())).isSome) ?_⟩;rcases k2 with⟨Y,V⟩|⟨d,Y,V⟩
   ·rw[V];exact .pure _ _ (.imap0 _ _ _ (by simp[Y]))
   have:(fun _:Unit=>((L ()).lookup (g ())).getD [])=fun _=>d:=funext fun _=>by simp[Y]
   rw[this];exact .pure _ _ V
  cases hv
 ·rename_i ka n L;cases hm with
  |pure _ _ hp=>
   cases hp with
   |imap _ _ _ b es J h1 h2 h3=>exact Zgu I hv S (.inr ⟨b,rfl,h1⟩) h2
   |imap0 _ _ _ h0=>exact Zgu I hv S (.inl ⟨rfl,rfl⟩) (clk:=0) (by rw[h0];exact ZeJ.nil)
 cases hv
theorem ZhQ:∀(l:List (MapEntry×(List Int×List Int))) {p:MapEntry×(List Int×List Int)},(l.map (·.1.born)).Nodup->p∈l->(l.map (·.1)).find? (·.born==p.1.born)=some p.1
 |[],p,_,A=>by cases A
 |q::l,p,hn,A=>by
  rw[bV,ee]at hn;rcases bG.1 A with rfl|A
  ·simp
  have G:(q.1.born==p.1.born)=false:=by
   simpa using fun e=>hn.1 (bE.2 ⟨p,A,e.symm⟩)
  rw[bV,List.find?_cons,G];exact ZhQ l hn.2 A
theorem ZnO (H:HR G R h) {a v:AV} {u:Value} {c:Cd} (ha:VR R a u) (hv:ZiV h a=some (v,c)) (hc:ZT c):∃y,(Instr.entry u).run P R.w= .ok y R.w/\VR R v y:=by
 unfold ZiV at hv;split at hv;case h_2=>cases hv
 rename_i id;split at hv;case h_2=>cases hv
 rename_i ka n L V S hi;cases hv;have Z:V ()≠ []:=(Cn.out (hc _ (aN.2 rfl)));obtain⟨o,ho,_,⟨_,e,_⟩|⟨m,es,I,sn,l,rfl,h2,h3,U,h5,h6⟩⟩:=H.blk id _ hi
 ·exact absurd e Z
 obtain⟨p,J,hb,Y⟩:=h6 Z;have hf:=ZhQ l U.bn J;rw[U.es]at hf;cases ha with
 |pure _ _ J=>cases J
 |mit _ _ h0=>
  have g1:(getObj (R.α id).b).run P R.w= .ok (.mapIter (some m) I sn I) R.w:=by simp[getObj,Sem.run,ho]
  have g2:(getObj m).run P R.w= .ok (.map es I) R.w:=by simp[getObj,Sem.run,h2]
  have aa:es.find? (fun x=>x.born==p.1.born)=some p.1:=by rw[<-Array.find?_toList];exact hf
  refine⟨.tuple #[p.1.key,p.1.val],?_,?_⟩
  ·simp only[Instr.entry,aP,g1,aH,hb,g2,bne_self_eq_false,aX,if_false,bC,aa]
  obtain⟨k1,k2,_⟩:=U.e p J;rw[k1,k2,Y];refine .tup _ _ rfl fun j c A=>?_;match j,A with
  |0,A=>simp at A;subst A;exact ZaF R ka fun _=>(S ()).1
  |1,A=>simp at A;subst A;exact ZaF R n fun _=>(S ()).2
theorem Zdt (d:Nat) (t:TypeId) (e:TypeId) (a:Option Addr) (n c:Nat) (A:P.underlying t=some (.slice e)):
  (Op.equalIn (d+1) t (.slice a n c) (.slice none 0 0)).run P R.w= .ok a.isNone R.w:=by
 cases a<;>simp only[Op.equalIn,aP,Zu A,aH,bC,Option.isNone]
theorem ZbZ (t:TypeId) (e:TypeId) (x y:Operand) (a:Option Addr) (n c:Nat) (G:P.underlying t=some (.slice e)):
  ((do eqGuard .eql t x y (.slice a n c) (.slice none 0 0);binOp .eql t (.slice a n c) (.slice none 0 0)):Sem Value).run P R.w= .ok (.bool a.isNone) R.w:=by
 have H:(eqGuard .eql t x y (.slice a n c) (.slice none 0 0)).run P R.w= .ok () R.w:=by simp[eqGuard]
 have A:(Op.equal t (.slice a n c) (.slice none 0 0)).run P R.w= .ok a.isNone R.w:=Zdt 9999 t e a n c G;simp only[aP,H,aH,binOp,A,bC]
theorem ZbY (t:TypeId) (e:TypeId) (x y:Operand) (a:Option Addr) (n c:Nat) (G:P.underlying t=some (.slice e)):
  ((do eqGuard .neq t x y (.slice a n c) (.slice none 0 0);binOp .neq t (.slice a n c) (.slice none 0 0)):Sem Value).run P R.w= .ok (.bool (!a.isNone)) R.w:=by
 have H:(eqGuard .neq t x y (.slice a n c) (.slice none 0 0)).run P R.w= .ok () R.w:=by simp[eqGuard]
 have A:(Op.equal t (.slice a n c) (.slice none 0 0)).run P R.w= .ok a.isNone R.w:=Zdt 9999 t e a n c G;simp only[aP,H,aH,binOp,A,bC]
theorem ZnN {op:BinOp} {t e:TypeId} (I:P.underlying t=some (.slice e)) {a v:AV} {c:Cd} {u:Value} (V:VR R a u) (x y:Operand) (hv:Zdb op a=some (v,c)) (Y:ZT c):
  ∃w,((do eqGuard op t x y u (.slice none 0 0);binOp op t u (.slice none 0 0)):Sem Value).run P R.w= .ok w R.w/\VR R v w:=by
 unfold Zdb at hv;split at hv
 ·rename_i s n f;have:u= .slice none 0 0:=by
   cases V with
   |pure _ _ G=>
    cases G with
    |isl0 _ _ _ _ _ _=>rfl
    |islE _ _ _ _ _ _ A=>rcases A with h|h<;>cases h
    |isl _ _ _ _ _ _ _ _ _ _ _ A _ _ _ _ _=>rcases A with h|h<;>cases h
  subst this;split at hv<;>(try (cases hv;done))<;>simp only[aC,aK]at hv<;>obtain⟨rfl,rfl⟩:=hv
  ·exact⟨_,ZbZ t e x y none 0 0 I,.mkBool rfl⟩
  exact⟨_,ZbY t e x y none 0 0 I,.mkBool rfl⟩
 ·rename_i s n f;obtain⟨U,S,J,rfl⟩:∃U S J,u= .slice (some U) S J:=by
   cases V with
   |pure _ _ G=>
    cases G with
    |isl0 _ _ _ _ _ A=>cases A
    |islE _ _ _ _ _ _ A=>rcases A with h|h<;>cases h
    |isl _ _ _ _ _ _ _ _ _ _ _ A _ _ _ _ _=>rcases A with h|h<;>cases h
   |nn _ _ _ _ G hv=>
    cases G with
    |isl0 _ _ _ _ _ _=>exact absurd rfl hv
    |islE _ _ _ _ a _ _=>exact⟨a,0,0,rfl⟩
    |isl _ _ _ _ b o len H Z _ _ _ _ _ _ _ _=>exact⟨_,len,H,rfl⟩
  split at hv<;>(try (cases hv;done))<;>simp only[aC,aK]at hv<;>obtain⟨rfl,rfl⟩:=hv
  ·exact⟨_,ZbZ t e x y (some U) S J I,.mkBool rfl⟩
  exact⟨_,ZbY t e x y (some U) S J I,.mkBool rfl⟩
 ·rename_i s n f tk _ _;have G:=V.isl_inv;split at hv<;>(try (cases hv;done))<;>simp only[aC,aK]at hv<;>obtain⟨rfl,rfl⟩:=hv;all_goals
   have hn:=(Cn.out (Y _ (aN.2 rfl)));cases G with
   |isl0 _ _ _ _ h _=>omega
   |islE _ _ _ _ _ h _=>omega
   |isl _ _ _ _ b o len H Z _ _ _ _ _ _ _ _=>
    first
     |exact⟨_,ZbZ t e x y _ len H I,.mkBool rfl⟩
     |exact⟨_,ZbY t e x y _ len H I,.mkBool rfl⟩
 cases hv
theorem ZnY {op:BinOp} {t ty:TypeId} {x y:Operand} {yt:TypeId} {dst:Option Tmp} {pos:String} {after:Array Edge} {guard:Option (Nat×Bool)} {ax ay:AV} {ρ:Operand->Value}
  (V:VR R ax (ρ x)) (hy:VR R ay (ρ y)) (aj:Zeg y=true->ρ y= .slice none 0 0) {v:AV} {c:Cd} (hv:ZeD P op t (Zeg y) ax ay=some (v,c)) (J:ZT c):
  ∃u,(execOp ρ {dst,op:=.binOp op t x y yt,type:=ty,pos,after,guard}).run P R.w= .ok (.value u) R.w/\VR R v u:=by
 have fin:∀G,(∃u,((do eqGuard op t x y (ρ x) (ρ y);binOp op t (ρ x) (ρ y)):Sem Value).run P R.w= .ok u R.w/\VR R G u)->
   ∃u,(execOp ρ {dst,op:=.binOp op t x y yt,type:=ty,pos,after,guard}).run P R.w= .ok (.value u) R.w/\VR R G u:=by
  rintro G ⟨u,h1,h2⟩;refine⟨u,?_,h2⟩;show((do eqGuard op t x y (ρ x) (ρ y);binOp op t (ρ x) (ρ y))>>=fun z=>(pure (.value z):Sem Next)).run P R.w=_;rw[aP,h1];rfl
 apply fin;unfold ZeD at hv;split at hv
 ·rename_i hn;split at hv
  ·rename_i el H;rw[aj hn];exact ZnN H V x y hv J
  cases hv
 split at hv
 ·rename_i k a k' b;have A:∀G,(∃u,(binOp op t (.int k (a ())) (.int k' (b ()))).run P R.w= .ok u R.w/\VR R G u)->∃u,((do eqGuard op t x y (ρ x) (ρ y);binOp op t (ρ x) (ρ y)):Sem Value).run P R.w= .ok u R.w/\VR R G u:=by
   rintro G ⟨u,h1,h2⟩;refine⟨u,?_,h2⟩;rw[aP,V.int_inv,hy.int_inv,Zhd,aH,h1]
  split at hv
  ·exact A _ (Zhx .shl t k k' a b v c hv J)
  ·exact A _ (Zhx .shr t k k' a b v c hv J)
  split at hv
  ·rename_i ah;obtain rfl:=Zej ah;exact A _ (Ztb op t k a b v c hv J)
  cases hv
 ·rename_i xs ys;obtain⟨U,H,ae,al⟩:=V.agg_inv;obtain⟨S,ai,am,ak⟩:=hy.agg_inv;split at hv
  ·rename_i Z;simp only[J9,aT,cG]at Z;obtain⟨⟨⟨Y,aa⟩,ab⟩,ac⟩:=Z;have ac:=ZB ac;have A:∀g,ZK xs ys=some g->(Op.equalIn (9995+5) t (.agg U) (.agg S)).run P R.w= .ok (g ()) R.w:=fun g I=>by
    have:=ZfY (w:=R.w) 5 t xs.length Y 9995 xs ys U S g ⟨ae,al⟩ ⟨am,ak⟩ ae.symm (by omega) I;obtain⟨d,hd,_⟩:=Zcg Y;rw[hd]at ab;simpa [Za2,hd,ab]using this
   rw[H,ai];split at hv
   ·simp only[aG,aK]at hv;obtain⟨g,I,rfl,rfl⟩:=hv;refine⟨.bool (g ()),?_,.pure _ _ (.bool g)⟩;rw[aP,run_eqGuard_agg R.w .eql t x y U S aa,aH,run_eql_struct,A g I];rfl
   ·simp only[aG,aK]at hv;obtain⟨g,I,rfl,rfl⟩:=hv;refine⟨.bool (!g ()),?_,.mkBool rfl⟩;rw[aP,run_eqGuard_agg R.w .neq t x y U S aa,aH,run_neq_struct,A g I];rfl
   cases hv
  cases hv
 ·rename_i a b;rw[V.bool_inv,hy.bool_inv];split at hv;case h_2=>cases hv
  rename_i H;have A:(Op.equal t (.bool (a ())) (.bool (b ()))).run P R.w= .ok (a ()==b ()) R.w:=run_equalIn_bool' R.w 9999 t _ _ H;split at hv
  ·cases hv;refine⟨.bool (a ()==b ()),?_,.mkBool rfl⟩;show((pure ():Sem Unit)>>=fun _=>(Op.equal t (.bool (a ())) (.bool (b ()))>>=fun x=>(pure (.bool x):Sem Value))).run P R.w=_;rw[aP,bC,aH,aP,A];rfl
  ·cases hv;refine⟨.bool (!(a ()==b ())),?_,.mkBool rfl⟩;show((pure ():Sem Unit)>>=fun _=>(Op.equal t (.bool (a ())) (.bool (b ()))>>=fun x=>(pure (.bool (!x)):Sem Value))).run P R.w=_;rw[aP,bC,aH,aP,A];rfl
  cases hv
 cases hv
theorem ZhE {y:Operand} (h:Zeg y=true):y= .const (.slice none 0 0):=by
 unfold Zeg at h;split at h
 ·rfl
 cases h
theorem Zu1 (H:HR G R h) {o:Oper} {E:Operand->AV} {ρ:Operand->Value} (hK:∀v,ρ (.const v)=v) (J:∀x∈o.op.operands,VR R (E x) (ρ x)) {v:AV} {c:Cd} (hv:Jv P E h o.op=some (v,c)) (hc:ZT c):
  ∃u,(execOp ρ o).run P R.w= .ok (.value u) R.w/\VR R v u:=by
 obtain⟨ck,op,ty,pos,ci,cj⟩:=o;dsimp only at J hv;cases op with
 |move x=>
  simp only[Jv,aC,aK]at hv;obtain⟨rfl,rfl⟩:=hv;exact⟨ρ x,rfl,J x (by simp[bD])⟩
 |assign x=>
  simp only[Jv,aC,aK]at hv;obtain⟨rfl,rfl⟩:=hv;exact⟨ρ x,rfl,J x (by simp[bD])⟩
 |pick a b d=>
  simp only[Jv]at hv;obtain⟨t,ht,bp⟩:=Zp5 (J a (by simp[bD])) (J b (by simp[bD])) (J d (by simp[bD])) hv hc;refine⟨_,?_,bp⟩;simp[execOp,ht,asBool]
 |nilCheck x=>
  simp only[Jv]at hv;have A:=J x (by simp[bD]);split at hv
  ·rename_i i o ac;simp only[aC,aK]at hv;obtain⟨rfl,rfl⟩:=hv;rw[ac]at A;refine⟨ρ x,?_,A⟩;generalize ah:ρ x=u at A;cases A with
   |pure _ _ Y=>cases Y
   |ptr _ _ aw=>simp only[execOp,ah];rfl
  ·rename_i i o ac;simp only[aC,aK]at hv;obtain⟨rfl,rfl⟩:=hv;rw[ac]at A;refine⟨ρ x,?_,A⟩;generalize ah:ρ x=u at A;cases A with
   |pure _ _ Y=>
   cases Y with
   |iptr _ _ _ _ _ _ _ _=>simp only[execOp,ah];rfl
  ·rename_i i s e o ac;simp only[aC,aK]at hv;obtain⟨rfl,rfl⟩:=hv;rw[ac]at A;refine⟨ρ x,?_,A⟩;generalize ah:ρ x=u at A;cases A with
   |pure _ _ Y=>cases Y
   |aptr _ _ _ _ _ _ _=>simp only[execOp,ah];rfl
  ·rename_i i s n e o ac;simp only[aC,aK]at hv;obtain⟨rfl,rfl⟩:=hv;rw[ac]at A;refine⟨ρ x,?_,A⟩;generalize ah:ρ x=u at A;cases A with
   |pure _ _ Y=>cases Y
   |gptr _ _ _ _ _ _ _ _ _=>simp only[execOp,ah];rfl
  ·rename_i i s n e o ac;simp only[aC,aK]at hv;obtain⟨rfl,rfl⟩:=hv;rw[ac]at A;refine⟨ρ x,?_,A⟩;generalize ah:ρ x=u at A;cases A with
   |pure _ _ Y=>cases Y
   |nptr _ _ _ _ _ _ _ _ _ _ _ _ _ _ _ _ _=>simp only[execOp,ah];rfl
  cases hv
 |load t a=>
  simp only[Jv]at hv;split at hv
  ·rename_i T hT;obtain⟨x,Z,h2⟩:=ZjU hT H (J a (by simp[bD])) hv hc;exact⟨x,by simp[execOp,Z],h2⟩
  cases hv
 |fieldAddr t x f=>
  simp only[Jv]at hv;split at hv
  ·rename_i T hT;obtain⟨y,Z,h2⟩:=Zhn hT (J x (by simp[bD])) hv;exact⟨y,by simp[execOp,Z],h2⟩
  cases hv
 |indexAddr t x i=>
  simp only[Jv]at hv;split at hv
  ·rename_i T hT;obtain⟨y,Z,h2⟩:=Zhl hT H (J x (by simp[bD])) (J i (by simp[bD])) hv hc;exact⟨y,by simp[execOp,Z],h2⟩
  cases hv
 |binOp op t x y yt=>
  exact ZnY (J x (by simp[bD])) (J y (by simp[bD])) (fun h=>by rw[ZhE h];exact hK _) (by simpa only[Jv]using hv) hc
 |unOp op t x=>
  have A:=J x (by simp[bD]);cases op with
  |not=>
   simp only[Jv]at hv;split at hv
   ·rename_i a U;rw[U]at A;simp only[aC,aK]at hv;obtain⟨rfl,rfl⟩:=hv;exact⟨.bool (!a ()),by simp[execOp,A.bool_inv,Op.unary],.mkBool rfl⟩
   cases hv
  |neg=>
   simp only[Jv]at hv;split at hv
   ·rename_i k a U;rw[U]at A;simp only[aC]at hv;obtain rfl:=(Prod.mk.inj hv).1;obtain rfl:=(Prod.mk.inj hv).2;exact⟨_,by simp[execOp,A.int_inv,Op.unary,Op.intArith],Zcx k _ hc⟩
   cases hv
  |_=>simp[Jv]at hv
 |convert s d x=>
  have A:=J x (by simp[bD]);simp only[Jv]at hv;split at hv
  ·rename_i k a S D U hS hD;rw[U]at A;split at hv
   ·rename_i k' hk;simp only[aC]at hv;obtain rfl:=(Prod.mk.inj hv).1;obtain rfl:=(Prod.mk.inj hv).2;obtain⟨_,ds,_,bu,_⟩:=Xu hS;have ca:=ZoN hD hk;refine⟨_,?_,Zcx k' _ hc⟩;simp[execOp,A.int_inv,convert,Zu bu,Zu ca,Conv.intToInt]
   cases hv
  cases hv
 |extract x i=>
  have A:=J x (by simp[bD]);simp only[Jv]at hv;split at hv
  ·rename_i vs U;rw[U]at A;split at hv
   ·rename_i a hi;simp only[aC,aK]at hv;obtain⟨rfl,rfl⟩:=hv;obtain⟨us,hu,hl,hr⟩:=A.tup_inv;have aa:i<us.size:=by rw[<-hl];exact(aE.1 hi).1
    have:=hr i a hi;rw[aI,aY aa,bY]at this;exact⟨us[i],by simp[execOp,hu,Instr.extract,aY aa],this⟩
   cases hv
  cases hv
 |build t ps=>
  simp only[Jv]at hv;split at hv
  ·rename_i T hT;split at hv
   ·rename_i fs z hk hz;split at hv
    ·rename_i am;simp only[aT]at am;simp only[aG,aK]at hv;obtain⟨cs,hb,rfl,rfl⟩:=hv
     obtain⟨u,Z,h2⟩:=Znb (ρ:=ρ) (R:=R) hT hk hz am.1 hb (fun p Y=>⟨J p.2 (by simp only[bD];rw[<-cM];exact bE.2 ⟨p,Y,rfl⟩),by
      have:=am.2;rw[bL]at this
      exact this p Y⟩)
     refine⟨u,?_,h2⟩;have he:(ps.toList.map fun p=>(p.1,ρ p.2)).toArray=ps.map fun(i,x)=>(i,ρ x):=by
      obtain⟨l⟩:=ps;simp
     rw[he]at Z;simp[execOp,Z]
    cases hv
   cases hv
  cases hv
 |index t x i=>
  simp only[Jv]at hv;split at hv;case h_3=>cases hv
  case h_2=>
   rename_i cs k e n el Z h2 hu;split at hv;case h_2=>cases hv
   rename_i T hT;split at hv;case isFalse=>cases hv
   rename_i bh;simp only[aT,cG]at bh;obtain⟨⟨bg,cg⟩,hn⟩:=bh;have bg:=ZB bg;have hn:=ZB hn;split at hv;case h_2=>cases hv
   rename_i v' bk;cases hv;obtain⟨r1,r2⟩:=(Cn.out (hc _ (aN.2 rfl)));have A:=J x (by simp[bD]);have hi:=J i (by simp[bD]);rw[Z]at A;rw[h2]at hi;obtain⟨us,bo,hl,hr⟩:=A.agg_inv;obtain⟨j,d,hj,hd,hs,_,_,hg⟩:=Xu hT;obtain⟨q,hq⟩:=bS r1;have aa:q<us.size:=by omega
   have bx:q<n:=by omega
   refine⟨us[q],?_,Zmk bk hq (by omega) fun c bl=>?_⟩
   ·have bw:j.size=1:=by omega
    have e:us[q]? =some us[q]:=aY aa;have:(Instr.index t (ρ x) (ρ i)).run P R.w= .ok us[q] R.w:=by
     rw[bo,hi.int_inv];simp[Instr.index,asIntOf,Zu hu,hq,bx,Z0 hj,bw,part,ZaK hd,<-hg,cg,e]
    show((Instr.index t (ρ x) (ρ i))>>=fun z=>(pure (.value z):Sem Next)).run P R.w=_;rw[aP,this];rfl
   have:=hr q c bl;rwa [aI,aY aa,bY]at this
  rename_i s k e Z h2 hu;simp only[aC,aK]at hv;obtain⟨rfl,rfl⟩:=hv;obtain⟨bt,ct⟩:=(Cn.out (hc _ (aN.2 rfl)));have A:=J x (by simp[bD]);have hi:=J i (by simp[bD]);rw[Z]at A;rw[h2]at hi;have hi:=hi.int_inv;have A:ρ x= .string (s ()):=by
   generalize ρ x=u at A;cases A with
   |pure _ _ Y=>cases Y;rfl
  obtain⟨n,hn⟩:=bS bt;have aa:n<(s ()).size:=by omega
  refine⟨.int .u8 ((s ())[n].toNat:Nat),?_,VR.mkInt ?_⟩
  ·show((Instr.index t (ρ x) (ρ i))>>=fun z=>(pure (.value z):Sem Next)).run P R.w=_;have:(Instr.index t (ρ x) (ρ i)).run P R.w= .ok (.int .u8 ((s ())[n].toNat:Nat)) R.w:=by
    rw[A,hi];simp[Instr.index,asIntOf,Zu hu,hn,aa]
   rw[aP,this];rfl
  simp[hn,aa]
 |field t x i=>
  have A:=J x (by simp[bD]);simp only[Jv]at hv;split at hv
  ·rename_i T hT;split at hv
   ·rename_i fs cs hk U;rw[U]at A;obtain⟨us,hu,hl,hr⟩:=A.agg_inv;obtain⟨fl,bc,rfl⟩:=Zcq hT hk;split at hv
    ·rename_i al sz g hf;rw[aO,aG]at hf;obtain⟨f,a9,ce⟩:=hf;rw[bN]at a9;obtain⟨j,d,hj,hd,ho,hs,hg⟩:=Zci ce;split at hv
     ·rename_i ba;split at hv
      ·rename_i aq;have aq:=QT aq;simp only[aC,aK]at hv;obtain⟨rfl,rfl⟩:=hv;refine⟨.agg (us.extract al (al+sz)),by simp[execOp,hu,Instr.field,Zu bc,a9,asAgg,part,ZaK hd,hg,ba,Z0 hj,ho,hs],.agg _ _ (by simp;omega) (fun k a ak=>?_)⟩;rw[cZ]at ak;split at ak
       ·rename_i aa;rw[cY]at ak;have:=hr _ _ ak;rw[aI,fj];rw[aI]at this;rw[if_pos (by omega)];exact this
       cases ak
      cases hv
     rename_i ba;split at hv
     ·rename_i a hi;simp only[aC,aK]at hv;obtain⟨rfl,rfl⟩:=hv;have aa:al<us.size:=by rw[<-hl];exact(aE.1 hi).1
      have:=hr al a hi;rw[aI,aY aa,bY]at this;have b9:g=false:=by simpa using ba
      exact⟨us[al],by simp[execOp,hu,Instr.field,Zu bc,a9,asAgg,part,ZaK hd,hg,b9,ho,aY aa],this⟩
     cases hv
    cases hv
   cases hv
  cases hv
 |makeFunc fn first ap=>
  cases fn with
  |func f=>
   simp only[Jv,aC,aK]at hv;obtain⟨rfl,rfl⟩:=hv;obtain⟨l1,r1⟩:=ZeF (E:=E) (ρ:=ρ) (xs:=first) (R:=R) (fun x A=>J x (by simp[bD,A]));obtain⟨l2,r2⟩:=ZeF (E:=E) (ρ:=ρ) (xs:=ap) (R:=R) (fun x A=>J x (by simp[bD,A]));exact⟨.func (.func f) (first.map ρ) (ap.map ρ),by simp[execOp,Instr.makeFunc],.fn f _ _ _ _ l1 l2 r1 r2⟩
  |_=>simp[Jv]at hv
 |slice t x lo hi mx=>
  simp only[Jv]at hv;split at hv
  ·rename_i T hT;have ao:∀(y:Option Operand),(∀z,y=some z->VR R (E z) (ρ z))->(∀a,y.map E=some a->∃w,y.map ρ=some w/\VR R a w)/\(y.map E=none->y.map ρ=none):=by
    intro y hy;cases y with
    |none=>exact⟨(fun a h=>by cases h),fun _=>rfl⟩
    |some z=>exact⟨fun a h=>by simp only[cL,aC]at h;subst h;exact⟨_,rfl,hy z rfl⟩,fun h=>by cases h⟩
   obtain⟨s1,bq⟩:=ao lo (fun z hz=>J z (by simp[bD,hz]));obtain⟨s2,bm⟩:=ao hi (fun z hz=>J z (by simp[bD,hz]));obtain⟨s3,cf⟩:=ao mx (fun z hz=>J z (by simp[bD,hz]));obtain⟨y,Z,h2⟩:=Zm6 hT H (J x (by simp[bD])) s1 bq s2 bm s3 cf hv hc;exact⟨y,by simp[execOp,Z],h2⟩
  cases hv
 |lookup t m k ok=>
  simp only[Jv]at hv;obtain⟨y,Z,h2⟩:=Zlr H (J m (by simp[bD])) (J k (by simp[bD])) hv hc;exact⟨y,by simp[execOp,Z],h2⟩
 |entry x=>
  simp only[Jv]at hv;obtain⟨y,Z,h2⟩:=ZnO (P:=P) H (J x (by simp[bD])) hv hc;exact⟨y,by simp[execOp,Z],h2⟩
 |call cl=>
  obtain⟨ar,V,I⟩:=cl;cases ar with
  |builtin b=>
   have A:∀x∈V,VR R (E x) (ρ x):=fun x A=>J x (by simp[bD,Call.operands,A]);have ab:=Zkx A;have ai:∀(s:Sem Value) (u:Value),s.run P R.w= .ok u R.w->(do let x<-s;pure (Next.value x):Sem Next).run P R.w= .ok (.value u) R.w:=fun s u hs=>by rw[aP,hs];rfl
   cases b with
   |len=>
    simp only[Jv]at hv;have one:∀x,V.toList.map E=[x]->∃u,V.map ρ= #[u]/\VR R x u:=fun x az=>by
     rw[az]at ab;have:=ab 0 x rfl;obtain⟨l⟩:=V;match l,az with
     |[z],az=>exact⟨ρ z,by simp,by simpa using this⟩
    split at hv
    ·rename_i s n f tk t ts U ht;obtain⟨u,hu,aj⟩:=one _ U;have Y:=aj.isl_inv;have h0:I[0]? =some t:=by rw[<-bN,ht];rfl
     split at hv
     ·rename_i el ae;simp only[aC,aK]at hv;obtain⟨rfl,rfl⟩:=hv;refine⟨.int .i64 (n ()),ai _ _ ?_,.mkInt rfl⟩;show(Builtin.len_ I ty (V.map ρ)).run P R.w=_;rw[hu];cases Y with
      |isl0 _ _ _ _ hz _=>simp[Builtin.len_,h0,Zu ae,goInt,hz]
      |islE _ _ _ _ _ hz _=>simp[Builtin.len_,h0,Zu ae,goInt,hz]
      |isl _ _ _ _ b o len ap us hn _ _ _ _ _ _ _=>simp[Builtin.len_,h0,Zu ae,goInt,hn]
     cases hv
    ·rename_i id s lo n cp t ts U ht;obtain⟨u,hu,aj⟩:=one _ U;have h0:I[0]? =some t:=by rw[<-bN,ht];rfl
     split at hv
     ·rename_i el ae;simp only[aC,aK]at hv;obtain⟨rfl,rfl⟩:=hv;refine⟨.int .i64 (n ()),ai _ _ ?_,.mkInt rfl⟩;show(Builtin.len_ I ty (V.map ρ)).run P R.w=_;rw[hu];cases aj with
      |pure _ _ Y=>cases Y
      |msl _ _ _ _ _ i len ap aw cr hn cn aq=>simp[Builtin.len_,h0,Zu ae,goInt,hn]
     cases hv
    ·rename_i id n t ts U ht;obtain⟨u,hu,aj⟩:=one _ U;have h0:I[0]? =some t:=by rw[<-bN,ht];rfl
     split at hv
     ·rename_i el ae;simp only[aC,aK]at hv;obtain⟨rfl,rfl⟩:=hv;refine⟨.int .i64 (n ()),ai _ _ ?_,.mkInt rfl⟩;show(Builtin.len_ I ty (V.map ρ)).run P R.w=_;rw[hu];cases aj with
      |pure _ _ Y=>cases Y
      |gsl _ _ a l c' aw hn he hl=>simp[Builtin.len_,h0,Zu ae,goInt,hl.1]
     cases hv
    ·rename_i id n0 n t ts U ht;obtain⟨u,hu,aj⟩:=one _ U;have h0:I[0]? =some t:=by rw[<-bN,ht];rfl
     split at hv
     ·rename_i el ae;simp only[aC,aK]at hv;obtain⟨rfl,rfl⟩:=hv;refine⟨.int .i64 (n ()),ai _ _ ?_,.mkInt rfl⟩;show(Builtin.len_ I ty (V.map ρ)).run P R.w=_;rw[hu];cases aj with
      |pure _ _ Y=>cases Y
      |nsub _ _ _ a l c' us i aw cq he hu hl=>simp[Builtin.len_,h0,Zu ae,goInt,hl.1]
     cases hv
    cases hv
   |max=>
    simp only[Jv]at hv;split at hv
    ·rename_i k x r U;have hl:V.toList.map ρ=(ρ<$>V.toList):=rfl;rw[U]at ab;obtain⟨l⟩:=V;match l,U with
     |z::zs,U=>
      simp only[bV,cB]at U;obtain⟨bz,au⟩:=U;have h0:=(ab 0 _ rfl).int_inv;simp only[bV,fb]at h0;obtain⟨u,Z,h2⟩:=ZiG (P:=P) (R:=R) true r (zs.map ρ) k x v c hv (by rw[<-au];simp) (fun j a hj=>by simpa using ab (j+1) a (by simpa using hj));refine⟨u,ai _ _ ?_,h2⟩;show(Builtin.max_ I ty _).run P R.w=_;simpa [Builtin.max_,h0]using Z
    cases hv
   |min=>
    simp only[Jv]at hv;split at hv
    ·rename_i k x r U;rw[U]at ab;obtain⟨l⟩:=V;match l,U with
     |z::zs,U=>
      simp only[bV,cB]at U;obtain⟨bz,au⟩:=U;have h0:=(ab 0 _ rfl).int_inv;simp only[bV,fb]at h0;obtain⟨u,Z,h2⟩:=ZiG (P:=P) (R:=R) false r (zs.map ρ) k x v c hv (by rw[<-au];simp) (fun j a hj=>by simpa using ab (j+1) a (by simpa using hj));refine⟨u,ai _ _ ?_,h2⟩;show(Builtin.min_ I ty _).run P R.w=_;simpa [Builtin.min_,h0]using Z
    cases hv
   |_=>simp[Jv]at hv
  |_=>simp[Jv]at hv
 |_=>simp[Jv]at hv
end
end Vm
end Go.Proofs.YtjgpiclllehgmaaGreat
